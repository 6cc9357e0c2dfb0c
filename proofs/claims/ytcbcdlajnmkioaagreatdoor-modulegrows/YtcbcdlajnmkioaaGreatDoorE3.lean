/- A part of the proof of the statement ModuleGrows of isagogelaw19: rules by which code is walked. -/
import Derived.Test.YtcbcdlajnmkioaaGreatDoorE2
import Derived.Laws.AppendOwn
namespace Go.Proofs.YtcbcdlajnmkioaaGreatDoor
open Go
set_option linter.unusedVariables false
set_option linter.unusedSimpArgs false

/-! ## 5. Data that is read -/

def RO.at (R : RO) (b o : Nat) (cs : List Value) : Prop := ∀ j v, cs[j]? = some v → ∃ c T fz, R.heap b = some (.cells c T fz) ∧ c[o + j]? = some v

theorem RO.at.mono {R R' : RO} {b o cs} (h : R.at b o cs) (k : R.le R') : R'.at b o cs := fun j v hj =>
  let ⟨c, T, fz, h1, h2⟩ := h j v hj
  ⟨c, T, fz, k.heap _ _ h1, h2⟩
theorem RO.at.cell {R : RO} {w : World} {G b o cs j v} (h : R.at b o cs) (hw : Own w R G) (hj : cs[j]? = some v) : w.cell? ⟨b, o + j, none⟩ = some v := by
  obtain ⟨c, T, fz, h1, h2⟩ := h j v hj
  rw [cell_at (hw.ro _ _ h1)]; exact h2

def ablk : Option Addr → Nat
  | some a => a.block
  | none => 0
def aoff : Option Addr → Nat
  | some a => a.off
  | none => 0

structure Kd (α : Type) where
  sz : Nat
  rep : RO → α → List Value → Prop
  len : ∀ R x cs, rep R x cs → cs.length = sz
  mono : ∀ R R' x cs, R.le R' → rep R x cs → rep R' x cs

def i64 (x : Int) : Prop := -9223372036854775808 ≤ x ∧ x ≤ 9223372036854775807
def big : Nat := 140737488355328

structure SlAt {α : Type} (k : Kd α) (R : RO) (A : Option Addr) (l : List α) : Prop where
  size : l.length ≤ big
  addr : l ≠ [] → ∃ b o, A = some ⟨b, o, none⟩
  get : ∀ (i : Nat) (x : α), l[i]? = some x → ∃ cs, k.rep R x cs ∧ R.at (ablk A) (aoff A + i * k.sz) cs

theorem SlAt.mono {α} {k : Kd α} {R R' : RO} {A l} (h : SlAt k R A l) (hle : R.le R') : SlAt k R' A l :=
  ⟨h.size, h.addr, fun i x hi => let ⟨cs, h1, h2⟩ := h.get i x hi; ⟨cs, k.mono _ _ _ _ hle h1, h2.mono hle⟩⟩
theorem SlAt.nil {α} (k : Kd α) (R : RO) (A) : SlAt k R A ([] : List α) := ⟨Nat.zero_le _, fun h => absurd rfl h, fun i x h => by simp at h⟩

def kInt : Kd Int := ⟨1, fun _ x cs => cs = [.int .i64 x] ∧ i64 x, fun _ _ _ h => by rw [h.1]; rfl, fun _ _ _ _ _ h => h⟩
def kBool : Kd Bool := ⟨1, fun _ x cs => cs = [.bool x], fun _ _ _ h => by rw [h]; rfl, fun _ _ _ _ _ h => h⟩
def kStr : Kd ByteArray := ⟨1, fun _ x cs => cs = [.string x] ∧ x.size ≤ big, fun _ _ _ h => by rw [h.1]; rfl, fun _ _ _ _ _ h => h⟩
def kPair : Kd (Int × Int) := ⟨2, fun _ x cs => cs = [.int .i64 x.1, .int .i64 x.2] ∧ i64 x.1 ∧ i64 x.2, fun _ _ _ h => by rw [h.1]; rfl, fun _ _ _ _ _ h => h⟩
def Kd.sl {α} (k : Kd α) : Kd (List α) :=
  ⟨1, fun R l cs => ∃ A c, cs = [.slice A l.length c] ∧ SlAt k R A l, fun _ _ _ ⟨_, _, h, _⟩ => by rw [h]; rfl, fun _ _ _ _ hle ⟨A, c, h, s⟩ => ⟨A, c, h, s.mono hle⟩⟩

/-! ### The project's data -/

inductive Concept where
  | mk (op n : Int) (args : List Concept)
def Concept.op : Concept → Int | .mk o _ _ => o
def Concept.n : Concept → Int | .mk _ n _ => n
def Concept.args : Concept → List Concept | .mk _ _ a => a
structure Names where
  concepts : List ByteArray
  roles : List ByteArray
  inds : List ByteArray
structure Incl where
  sub : Concept
  sup : Concept
structure RoleIncl where
  sub : Int
  sup : Int
structure Fact where
  ind : Int
  con : Concept
structure Link where
  role : Int
  frm : Int
  to : Int
structure Base where
  names : Names
  incls : List Incl
  roles : List RoleIncl
  facts : List Fact
  links : List Link
structure Sig where
  concepts : List Int
  roles : List Int
structure Interp where
  size : Int
  concepts : List (List Int)
  roles : List (List (Int × Int))
  inds : List Int

theorem Concept.sizeOf_arg {c e : Concept} {i : Nat} (h : c.args[i]? = some e) : SizeOf.sizeOf e < SizeOf.sizeOf c := by
  cases c with
  | mk op n args =>
    have h1 : e ∈ args := List.mem_of_getElem? h
    have h2 := List.sizeOf_lt_of_mem h1
    have h3 : SizeOf.sizeOf (Concept.mk op n args) = 1 + SizeOf.sizeOf op + SizeOf.sizeOf n + SizeOf.sizeOf args := by simp
    omega

mutual
def repC (R : RO) : Concept → List Value → Prop
  | .mk op n args, cs => ∃ A d, cs = [.int .i64 op, .int .i64 n, .slice A args.length d] ∧ i64 op ∧ i64 n ∧ args.length ≤ big ∧ (args ≠ [] → ∃ b o, A = some ⟨b, o, none⟩) ∧ repCs R args (ablk A) (aoff A)
def repCs (R : RO) : List Concept → Nat → Nat → Prop
  | [], _, _ => True
  | x :: xs, b, o => (∃ cs, repC R x cs ∧ R.at b o cs) ∧ repCs R xs b (o + 3)
end

theorem repCs_get {R : RO} : ∀ {l : List Concept} {b o : Nat}, repCs R l b o → ∀ i x, l[i]? = some x → ∃ cs, repC R x cs ∧ R.at b (o + i * 3) cs
  | [], _, _, _, i, x, h => by simp at h
  | y :: ys, b, o, h, 0, x, hx => by
    simp only [List.getElem?_cons_zero, Option.some.injEq] at hx
    subst hx
    unfold repCs at h
    simpa using h.1
  | y :: ys, b, o, h, i + 1, x, hx => by
    unfold repCs at h
    obtain ⟨cs, h1, h2⟩ := repCs_get h.2 i x (by simpa using hx)
    exact ⟨cs, h1, by rwa [show o + (i + 1) * 3 = o + 3 + i * 3 by omega]⟩
theorem repCs_of_get {R : RO} : ∀ {l : List Concept} {b o : Nat}, (∀ i x, l[i]? = some x → ∃ cs, repC R x cs ∧ R.at b (o + i * 3) cs) → repCs R l b o
  | [], _, _, _ => by unfold repCs; trivial
  | y :: ys, b, o, h => by
    unfold repCs
    refine ⟨by simpa using h 0 y rfl, repCs_of_get fun i x hx => ?_⟩
    obtain ⟨cs, h1, h2⟩ := h (i + 1) x (by simpa using hx)
    exact ⟨cs, h1, by rwa [show o + (i + 1) * 3 = o + 3 + i * 3 by omega] at h2⟩

mutual
theorem repC_mono {R R' : RO} (hle : R.le R') : ∀ (x : Concept) (cs : List Value), repC R x cs → repC R' x cs
  | .mk op n args, cs, h => by
    unfold repC at h ⊢
    obtain ⟨A, d, h1, h2, h3, h4, h5, h6⟩ := h
    exact ⟨A, d, h1, h2, h3, h4, h5, repCs_mono hle args _ _ h6⟩
theorem repCs_mono {R R' : RO} (hle : R.le R') : ∀ (l : List Concept) (b o : Nat), repCs R l b o → repCs R' l b o
  | [], _, _, _ => by unfold repCs; trivial
  | x :: xs, b, o, h => by
    unfold repCs at h ⊢
    obtain ⟨⟨cs, h1, h2⟩, h3⟩ := h
    exact ⟨⟨cs, repC_mono hle x cs h1, h2.mono hle⟩, repCs_mono hle xs _ _ h3⟩
end

def kConcept : Kd Concept := ⟨3, repC, fun R x cs h => by cases x; unfold repC at h; obtain ⟨A, d, h1, _⟩ := h; rw [h1]; rfl, fun R R' x cs hle h => repC_mono hle x cs h⟩

theorem kConcept_open {R : RO} {x : Concept} {cs : List Value} (h : kConcept.rep R x cs) : ∃ A d, cs = [.int .i64 x.op, .int .i64 x.n, .slice A x.args.length d] ∧ i64 x.op ∧ i64 x.n ∧ SlAt kConcept R A x.args := by
  cases x with
  | mk op n args =>
    have h : repC R (.mk op n args) cs := h
    unfold repC at h
    obtain ⟨A, d, h1, h2, h3, h4, h5, h6⟩ := h
    exact ⟨A, d, h1, h2, h3, h4, h5, fun i x hi => repCs_get h6 i x hi⟩
theorem kConcept_mk {R : RO} {x : Concept} {A d} (h2 : i64 x.op) (h3 : i64 x.n) (h : SlAt kConcept R A x.args) : kConcept.rep R x [.int .i64 x.op, .int .i64 x.n, .slice A x.args.length d] := by
  cases x with
  | mk op n args =>
    show repC R (.mk op n args) _
    unfold repC
    exact ⟨A, d, rfl, h2, h3, h.size, h.addr, repCs_of_get h.get⟩

def kNames : Kd Names := ⟨3, fun R n cs => ∃ A1 d1 A2 d2 A3 d3, cs = [.slice A1 n.concepts.length d1, .slice A2 n.roles.length d2, .slice A3 n.inds.length d3] ∧ SlAt kStr R A1 n.concepts ∧ SlAt kStr R A2 n.roles ∧ SlAt kStr R A3 n.inds,
  fun _ _ _ ⟨_, _, _, _, _, _, h, _⟩ => by rw [h]; rfl, fun _ _ _ _ hle ⟨A1, d1, A2, d2, A3, d3, h, s1, s2, s3⟩ => ⟨A1, d1, A2, d2, A3, d3, h, s1.mono hle, s2.mono hle, s3.mono hle⟩⟩
def kIncl : Kd Incl := ⟨6, fun R x cs => ∃ c1 c2, cs = c1 ++ c2 ∧ kConcept.rep R x.sub c1 ∧ kConcept.rep R x.sup c2,
  fun R x cs ⟨c1, c2, h, h1, h2⟩ => by rw [h, List.length_append, kConcept.len _ _ _ h1, kConcept.len _ _ _ h2]; rfl, fun R R' x cs hle ⟨c1, c2, h, h1, h2⟩ => ⟨c1, c2, h, kConcept.mono _ _ _ _ hle h1, kConcept.mono _ _ _ _ hle h2⟩⟩
def kRoleIncl : Kd RoleIncl := ⟨2, fun _ x cs => cs = [.int .i64 x.sub, .int .i64 x.sup] ∧ i64 x.sub ∧ i64 x.sup, fun _ _ _ h => by rw [h.1]; rfl, fun _ _ _ _ _ h => h⟩
def kFact : Kd Fact := ⟨4, fun R x cs => ∃ c1, cs = .int .i64 x.ind :: c1 ∧ i64 x.ind ∧ kConcept.rep R x.con c1,
  fun R x cs ⟨c1, h, _, h1⟩ => by rw [h, List.length_cons, kConcept.len _ _ _ h1]; rfl, fun R R' x cs hle ⟨c1, h, h0, h1⟩ => ⟨c1, h, h0, kConcept.mono _ _ _ _ hle h1⟩⟩
def kLink : Kd Link := ⟨3, fun _ x cs => cs = [.int .i64 x.role, .int .i64 x.frm, .int .i64 x.to] ∧ i64 x.role ∧ i64 x.frm ∧ i64 x.to, fun _ _ _ h => by rw [h.1]; rfl, fun _ _ _ _ _ h => h⟩
def kSig : Kd Sig := ⟨2, fun R s cs => ∃ A1 d1 A2 d2, cs = [.slice A1 s.concepts.length d1, .slice A2 s.roles.length d2] ∧ SlAt kInt R A1 s.concepts ∧ SlAt kInt R A2 s.roles,
  fun _ _ _ ⟨_, _, _, _, h, _⟩ => by rw [h]; rfl, fun _ _ _ _ hle ⟨A1, d1, A2, d2, h, s1, s2⟩ => ⟨A1, d1, A2, d2, h, s1.mono hle, s2.mono hle⟩⟩
def kBase : Kd Base := ⟨7, fun R b cs => ∃ cn A1 d1 A2 d2 A3 d3 A4 d4, cs = cn ++ [.slice A1 b.incls.length d1, .slice A2 b.roles.length d2, .slice A3 b.facts.length d3, .slice A4 b.links.length d4] ∧ kNames.rep R b.names cn ∧
    SlAt kIncl R A1 b.incls ∧ SlAt kRoleIncl R A2 b.roles ∧ SlAt kFact R A3 b.facts ∧ SlAt kLink R A4 b.links,
  fun _ _ _ ⟨cn, _, _, _, _, _, _, _, _, h, hn, _⟩ => by rw [h, List.length_append, kNames.len _ _ _ hn]; rfl,
  fun _ _ _ _ hle ⟨cn, A1, d1, A2, d2, A3, d3, A4, d4, h, hn, s1, s2, s3, s4⟩ => ⟨cn, A1, d1, A2, d2, A3, d3, A4, d4, h, kNames.mono _ _ _ _ hle hn, s1.mono hle, s2.mono hle, s3.mono hle, s4.mono hle⟩⟩
def kInterp : Kd Interp := ⟨4, fun R i cs => ∃ A1 d1 A2 d2 A3 d3, cs = [.int .i64 i.size, .slice A1 i.concepts.length d1, .slice A2 i.roles.length d2, .slice A3 i.inds.length d3] ∧ i64 i.size ∧ SlAt kInt.sl R A1 i.concepts ∧ SlAt kPair.sl R A2 i.roles ∧ SlAt kInt R A3 i.inds,
  fun _ _ _ ⟨_, _, _, _, _, _, h, _⟩ => by rw [h]; rfl, fun _ _ _ _ hle ⟨A1, d1, A2, d2, A3, d3, h, h0, s1, s2, s3⟩ => ⟨A1, d1, A2, d2, A3, d3, h, h0, s1.mono hle, s2.mono hle, s3.mono hle⟩⟩

/-! ### Reading -/

section
variable {P : Program} {n : Nat} {D : List Deferred} {env env' : List (Nat × Value)} {R : RO} {G G' : List Res} {Q : Exit → Act → World → Prop} {ops : Array Oper} {rest : List Oper} {o : Oper}

/-- An element of a slice that is read, by a Nat. -/
theorem v_idxS {α : Type} {k : Kd α} {l : List α} {t x y d e ty pos af} {A : Option Addr} {len cap : Nat} {i : Nat} {kd : IntKind} (hs : SlAt k R A l) (hx : ev env x = some (.slice A len cap)) (hy : ev env y = some (.int kd (i : Int))) (hlen : len = l.length) (ht : slElem P t = some (e, k.sz)) (h1 : i < l.length) :
    VAL P n D env R G ⟨some d, .indexAddr t x y, ty, pos, af, none⟩ (.pointer (some ⟨ablk A, aoff A + i * k.sz, none⟩)) := fun a w ha _ => by
  show ((do let z ← Instr.indexAt t (a.eval x) (a.eval y); pure (Next.value z) : Sem Next)).run P w = _
  obtain ⟨b, o, rfl⟩ := hs.addr (by intro h; subst h; simp at h1)
  rw [ha.eval hx, ha.eval hy, run_bind_ok (run_indexAt ht (by omega) (by omega))]
  simp [ablk, aoff, Sem.run, pure]
theorem v_idxI {α : Type} {k : Kd α} {l : List α} {t x y d e ty pos af} {A : Option Addr} {len cap : Nat} {i : Int} {kd : IntKind} (hs : SlAt k R A l) (hx : ev env x = some (.slice A len cap)) (hy : ev env y = some (.int kd i)) (hlen : len = l.length) (ht : slElem P t = some (e, k.sz)) (h0 : 0 ≤ i) (h1 : i.toNat < l.length) :
    VAL P n D env R G ⟨some d, .indexAddr t x y, ty, pos, af, none⟩ (.pointer (some ⟨ablk A, aoff A + i.toNat * k.sz, none⟩)) := by
  obtain ⟨j, rfl⟩ := Int.eq_ofNat_of_zero_le h0
  exact v_idxS hs hx hy hlen ht h1

/-- A load of a cell of an element. -/
theorem v_ldA {t x d b o s ty pos af} {cs : List Value} {o0 : Nat} {v : Value} (j : Nat) (hat : R.at b o0 cs) (hx : ev env x = some (.pointer (some ⟨b, o, none⟩))) (ht : ldInfo P t = some (false, s)) (ho : o = o0 + j) (hv : cs[j]? = some v) : VAL P n D env R G ⟨some d, .load t x, ty, pos, af, none⟩ v :=
  v_ldR hx ht fun w hw => by rw [ho]; exact hat.cell hw hv
theorem v_ldA_agg {t x d b o ty pos af} {cs : List Value} {o0 : Nat} (j : Nat) (l' : List Value) (hat : R.at b o0 cs) (hx : ev env x = some (.pointer (some ⟨b, o, none⟩))) (ht : ldInfo P t = some (true, l'.length)) (ho : o = o0 + j) (hl : (cs.drop j).take l'.length = l') : VAL P n D env R G ⟨some d, .load t x, ty, pos, af, none⟩ (.agg l'.toArray) :=
  v_ldR_agg l' hx ht fun w hw i v hi => by
    rw [← hl, List.getElem?_take] at hi
    split at hi
    · rw [List.getElem?_drop] at hi
      rw [ho, Nat.add_assoc]; exact hat.cell hw hi
    · cases hi

/-! ### Strings -/

def bt (s : ByteArray) (i : Nat) : Int := if h : i < s.size then (s[i]'h).toNat else 0
theorem bt_range (s : ByteArray) (i : Nat) : 0 ≤ bt s i ∧ bt s i ≤ 255 := by
  unfold bt
  split
  · rename_i h; have := (s[i]'h).toNat_lt; omega
  · omega

theorem v_sidx {t x y d ty pos af} {s : ByteArray} {i : Nat} {kd : IntKind} (hx : ev env x = some (.string s)) (hy : ev env y = some (.int kd (i : Int))) (ht : isStr P t = true) (h1 : i < s.size) : VAL P n D env R G ⟨some d, .index t x y, ty, pos, af, none⟩ (.int .u8 (bt s i)) := fun a w ha _ => by
  unfold isStr at ht
  split at ht
  · rename_i hu
    have : s[i]? = some (s[i]'h1) := by simp [h1]
    simp [execOp, Instr.index, asIntOf, ha.eval hx, ha.eval hy, run_underlying hu, this, bt, h1]
  · cases ht

theorem data_inj {a b : ByteArray} (h : a.data = b.data) : a = b := by cases a; cases b; simp_all
theorem toList_inj {a b : ByteArray} : (a.toList == b.toList) = decide (a = b) := by
  rw [ByteArray.toList_eq, ByteArray.toList_eq]
  by_cases h : a = b
  · subst h; simp
  · have : ¬ a.data = b.data := fun e => h (data_inj e)
    simp [h, this]

theorem v_seq {t x y yt d ty pos af} {s u : ByteArray} (hx : ev env x = some (.string s)) (hy : ev env y = some (.string u)) : VAL P n D env R G ⟨some d, .binOp .eql t x y yt, ty, pos, af, none⟩ (.bool (decide (s = u))) :=
  v_bin hx hy fun w => by
    rw [eqGuard_at_string]
    show (Op.stringOp .eql s u).run P w = _
    unfold Op.stringOp
    simp only [toList_inj]; rfl
theorem v_sne {t x y yt d ty pos af} {s u : ByteArray} (hx : ev env x = some (.string s)) (hy : ev env y = some (.string u)) : VAL P n D env R G ⟨some d, .binOp .neq t x y yt, ty, pos, af, none⟩ (.bool (decide (¬ s = u))) :=
  v_bin hx hy fun w => by
    rw [eqGuard_at_string]
    show (Op.stringOp .neq s u).run P w = _
    unfold Op.stringOp
    simp only [toList_inj]
    by_cases h : s = u <;> simp [h]
theorem v_sadd {t x y yt d ty pos af} {s u : ByteArray} (hx : ev env x = some (.string s)) (hy : ev env y = some (.string u)) (hl : s.size + u.size ≤ 9223372036854775807) : VAL P n D env R G ⟨some d, .binOp .add t x y yt, ty, pos, af, none⟩ (.string (s ++ u)) :=
  v_bin hx hy fun w => by
    show (Op.stringOp .add s u).run P w = _
    unfold Op.stringOp
    simp only [IntKind.max_i64]
    rw [if_neg (by omega)]; rfl
end
end Go.Proofs.YtcbcdlajnmkioaaGreatDoor
