/- A part of the proof of the statement ModuleGrows of isagogelaw19: rules by which code is walked. -/
import Derived.Test.YtcbcdlajnmkioaaGreatDoorE7
namespace Go.Proofs.YtcbcdlajnmkioaaGreatDoor
open Go
set_option linter.unusedVariables false
set_option linter.unusedSimpArgs false

/-! ## 9. Slices of our own: read, written, cut, joined -/

theorem Kd.reps_take {α} {k : Kd α} {R : RO} : ∀ {l : List α} {cs} (m : Nat), k.reps R l cs → k.reps R (l.take m) (cs.take (m * k.sz))
  | [], cs, m, h => by rw [show cs = [] from h]; simpa using (show k.reps R [] [] from rfl)
  | x :: xs, cs, 0, h => by simpa using (show k.reps R [] [] from rfl)
  | x :: xs, cs, m + 1, ⟨c1, c2, e, h1, h2⟩ => by
    refine ⟨c1, c2.take (m * k.sz), ?_, h1, Kd.reps_take m h2⟩
    have := k.len _ _ _ h1
    rw [e, List.take_append, List.take_of_length_le (by rw [this, Nat.add_mul]; omega), this, show (m + 1) * k.sz - k.sz = m * k.sz by rw [Nat.add_mul]; omega]
theorem Kd.reps_drop {α} {k : Kd α} {R : RO} : ∀ {l : List α} {cs} (m : Nat), k.reps R l cs → k.reps R (l.drop m) (cs.drop (m * k.sz))
  | [], cs, m, h => by rw [show cs = [] from h]; simpa using (show k.reps R [] [] from rfl)
  | x :: xs, cs, 0, h => by simpa using h
  | x :: xs, cs, m + 1, ⟨c1, c2, e, h1, h2⟩ => by
    have := k.len _ _ _ h1
    have h3 := Kd.reps_drop m h2
    rw [e, List.drop_succ_cons, List.drop_append, List.drop_of_length_le (l := c1) (by rw [this, Nat.add_mul]; omega), this, show (m + 1) * k.sz - k.sz = m * k.sz by rw [Nat.add_mul]; omega]
    simpa using h3
theorem Kd.reps_set1 {α} {k : Kd α} {R : RO} {y : α} {v : Value} (hsz : k.sz = 1) (hy : k.rep R y [v]) : ∀ {l : List α} {cs} (i : Nat), k.reps R l cs → k.reps R (l.set i y) (cs.set i v)
  | [], cs, i, h => by rw [show cs = [] from h]; simpa using (show k.reps R [] [] from rfl)
  | x :: xs, cs, 0, ⟨c1, c2, e, h1, h2⟩ => by
    have := k.len _ _ _ h1
    rw [hsz] at this
    obtain ⟨u, rfl⟩ := List.length_eq_one_iff.1 this
    rw [e]
    exact ⟨[v], c2, rfl, hy, h2⟩
  | x :: xs, cs, i + 1, ⟨c1, c2, e, h1, h2⟩ => by
    have := k.len _ _ _ h1
    rw [hsz] at this
    obtain ⟨u, rfl⟩ := List.length_eq_one_iff.1 this
    rw [e]
    exact ⟨[u], c2.set i v, rfl, h1, Kd.reps_set1 hsz hy i h2⟩

theorem Kd.reps_get1 {α} {k : Kd α} {R : RO} (hsz : k.sz = 1) {l : List α} {cs} (h : k.reps R l cs) {i : Nat} {x : α} (hx : l[i]? = some x) : ∃ v, k.rep R x [v] ∧ cs[i]? = some v := by
  obtain ⟨c, h1, h2⟩ := Kd.reps_get h i x hx
  have := k.len _ _ _ h1
  rw [hsz] at this
  obtain ⟨u, rfl⟩ := List.length_eq_one_iff.1 this
  have := h2 0 u rfl
  rw [hsz, Nat.mul_one] at this
  exact ⟨u, h1, this⟩
/-- Each cell is one cell. -/
def Kd.Ones {α} (k : Kd α) : Prop := ∀ R x cs, k.rep R x cs → cs.all one = true
theorem ones_int : kInt.Ones := fun _ _ _ h => by rw [h.1]; rfl
theorem ones_bool : kBool.Ones := fun _ _ _ h => by rw [show _ = _ from h]; rfl
theorem ones_str : kStr.Ones := fun _ _ _ h => by rw [h.1]; rfl
theorem ones_pair : kPair.Ones := fun _ _ _ h => by rw [h.1]; rfl
theorem ones_concept : kConcept.Ones := fun _ x _ h => by obtain ⟨A, d, e, _⟩ := kConcept_open h; rw [e]; rfl
theorem ones_sl {α} {k : Kd α} : k.sl.Ones := fun _ _ _ ⟨_, _, h, _⟩ => by rw [h]; rfl
theorem ones_reps {α} {k : Kd α} (ho : k.Ones) {R : RO} : ∀ {l : List α} {cs}, k.reps R l cs → cs.all one = true
  | [], cs, h => by rw [show cs = [] from h]; rfl
  | x :: xs, cs, ⟨c1, c2, e, h1, h2⟩ => by rw [e, List.all_append, ho _ _ _ h1, ones_reps ho h2]; rfl

/-- The cells of a slice that is read. -/
theorem slAt_cells {α} {k : Kd α} {R : RO} {A : Option Addr} {l : List α} (h : SlAt k R A l) : ∃ cs, k.reps R l cs ∧ R.at (ablk A) (aoff A) cs := by
  have key : ∀ (l : List α) (b off : Nat), (∀ (i : Nat) (x : α), l[i]? = some x → ∃ cs, k.rep R x cs ∧ R.at b (off + i * k.sz) cs) → ∃ cs, k.reps R l cs ∧ R.at b off cs := by
    intro l
    induction l with
    | nil => intro b off _; exact ⟨[], rfl, fun j v hj => by simp at hj⟩
    | cons x xs ih =>
      intro b off hh
      obtain ⟨c1, h1, h2⟩ := hh 0 x rfl
      obtain ⟨c2, h3, h4⟩ := ih b (off + k.sz) fun i y hy => by
        obtain ⟨c, h5, h6⟩ := hh (i + 1) y (by simpa using hy)
        exact ⟨c, h5, by rwa [show off + (i + 1) * k.sz = off + k.sz + i * k.sz by rw [Nat.add_mul]; omega] at h6⟩
      refine ⟨c1 ++ c2, ⟨c1, c2, rfl, h1, h3⟩, fun j v hj => ?_⟩
      have hl := k.len _ _ _ h1
      by_cases hjl : j < c1.length
      · rw [List.getElem?_append_left hjl] at hj
        simpa using h2 j v hj
      · rw [List.getElem?_append_right (by omega), hl] at hj
        have := h4 (j - k.sz) v hj
        rwa [show off + k.sz + (j - k.sz) = off + j by omega] at this
  exact key l _ _ h.get

section
variable {P : Program} {n : Nat} {D : List Deferred} {env env' : List (Nat × Value)} {R : RO} {G G' : List Res} {Q : Exit → Act → World → Prop} {ops : Array Oper} {rest : List Oper} {o : Oper}

theorem vec_cell {w : World} {A : Option Addr} {cap len T sz i : Nat} {cs : List Value} (hw : Own w R G) (hG : G[i]? = some (.vec (.slice A len cap) len T sz cs)) {j : Nat} {v : Value} (hj : cs[j]? = some v) :
    ∃ g, A = some ⟨g, 0, none⟩ ∧ w.cell? ⟨g, j, none⟩ = some v := by
  have hv : w.ownsRow 0 T sz (.slice A len cap) len cs := hw.holds _ (List.mem_of_getElem? hG)
  rcases hv.2 with ⟨h2, h3⟩ | ⟨g, cap', cur, hv', hg, hh, r1, r2, r3, r4⟩
  · have := hv.1
    rw [h3, Nat.zero_mul] at this
    rw [List.eq_nil_of_length_eq_zero this] at hj
    simp at hj
  · obtain ⟨rfl, -, rfl⟩ : A = some ⟨g, 0, none⟩ ∧ len = len ∧ cap = cap' := by simpa using hv'
    refine ⟨g, rfl, ?_⟩
    rw [cell_at hh]
    rw [← r4, List.getElem?_take] at hj
    split at hj
    · simpa using hj
    · cases hj
theorem vec_len {w : World} {A : Option Addr} {cap len T sz i : Nat} {cs : List Value} (hw : Own w R G) (hG : G[i]? = some (.vec (.slice A len cap) len T sz cs)) : cs.length = len * sz ∧ len ≤ cap ∧ (len ≠ 0 → ∃ g, A = some ⟨g, 0, none⟩) := by
  have hv : w.ownsRow 0 T sz (.slice A len cap) len cs := hw.holds _ (List.mem_of_getElem? hG)
  rcases hv.2 with ⟨h2, h3⟩ | ⟨g, cap', cur, hv', hg, hh, r1, r2, r3, r4⟩
  · exact ⟨hv.1, by omega, fun h => absurd h3 h⟩
  · obtain ⟨rfl, -, rfl⟩ : A = some ⟨g, 0, none⟩ ∧ len = len ∧ cap = cap' := by simpa using hv'
    exact ⟨hv.1, r1, fun _ => ⟨g, rfl⟩⟩

/-- An element's address. -/
theorem v_idxV {t x y d e sz ty pos af} {A : Option Addr} {len cap T : Nat} {cs : List Value} {i : Nat} {kd : IntKind} (g : Nat) (hG : G[g]? = some (.vec (.slice A len cap) len T sz cs)) (hx : ev env x = some (.slice A len cap)) (hy : ev env y = some (.int kd (i : Int))) (ht : slElem P t = some (e, sz)) (h1 : i < len) :
    VAL P n D env R G ⟨some d, .indexAddr t x y, ty, pos, af, none⟩ (.pointer (some ⟨ablk A, i * sz, none⟩)) := fun a w ha hw => by
  show ((do let z ← Instr.indexAt t (a.eval x) (a.eval y); pure (Next.value z) : Sem Next)).run P w = _
  obtain ⟨b, rfl⟩ := (vec_len hw hG).2.2 (by omega)
  rw [ha.eval hx, ha.eval hy, run_bind_ok (run_indexAt ht (by omega) (by omega))]
  simp [ablk, Sem.run, pure]
theorem v_idxVI {t x y d e sz ty pos af} {A : Option Addr} {len cap T : Nat} {cs : List Value} {i : Int} {kd : IntKind} (g : Nat) (hG : G[g]? = some (.vec (.slice A len cap) len T sz cs)) (hx : ev env x = some (.slice A len cap)) (hy : ev env y = some (.int kd i)) (ht : slElem P t = some (e, sz)) (h0 : 0 ≤ i) (h1 : i.toNat < len) :
    VAL P n D env R G ⟨some d, .indexAddr t x y, ty, pos, af, none⟩ (.pointer (some ⟨ablk A, i.toNat * sz, none⟩)) := by
  obtain ⟨j, rfl⟩ := Int.eq_ofNat_of_zero_le h0
  exact v_idxV g hG hx hy ht h1

/-- A load of a cell of an element. -/
theorem v_ldV {t x d o s ty pos af} {A : Option Addr} {len cap T sz : Nat} {cs : List Value} {v : Value} (g : Nat) (hG : G[g]? = some (.vec (.slice A len cap) len T sz cs)) (hx : ev env x = some (.pointer (some ⟨ablk A, o, none⟩))) (ht : ldInfo P t = some (false, s)) (hv : cs[o]? = some v) : VAL P n D env R G ⟨some d, .load t x, ty, pos, af, none⟩ v :=
  v_ldR hx ht fun w hw => by
    obtain ⟨b, rfl, hc⟩ := vec_cell hw hG hv
    exact hc
theorem v_ldV_agg {t x d o ty pos af} {A : Option Addr} {len cap T sz : Nat} {cs : List Value} (g : Nat) (l' : List Value) (hG : G[g]? = some (.vec (.slice A len cap) len T sz cs)) (hx : ev env x = some (.pointer (some ⟨ablk A, o, none⟩))) (ht : ldInfo P t = some (true, l'.length)) (hv : ∀ j v, l'[j]? = some v → cs[o + j]? = some v) : VAL P n D env R G ⟨some d, .load t x, ty, pos, af, none⟩ (.agg l'.toArray) :=
  v_ldR_agg l' hx ht fun w hw j v hj => by
    obtain ⟨b, rfl, hc⟩ := vec_cell hw hG (hv j v hj)
    exact hc

/-- A store of one cell. -/
theorem tl_stV {t x y o s ty pos af} {A : Option Addr} {len cap T sz : Nat} {cs : List Value} {v : Value} (g : Nat) (hG : G[g]? = some (.vec (.slice A len cap) len T sz cs)) (hx : ev env x = some (.pointer (some ⟨ablk A, o, none⟩))) (hy : ev env y = some v) (ht : ldInfo P t = some (s, 1)) (h1 : one v = true) (ho : o < cs.length)
    (k : TL P ops Q rest n D env R (G.set g (.vec (.slice A len cap) len T sz (cs.set o v)))) : TL P ops Q (⟨none, .store t x y, ty, pos, af, none⟩ :: rest) n D env R G := by
  intro a w ha hw
  refine wpList_plain rfl fun K hK => ?_
  have hv : w.ownsRow 0 T sz (.slice A len cap) len cs := hw.holds _ (List.mem_of_getElem? hG)
  rcases hv.2 with ⟨h2, h3⟩ | ⟨b, cap', cur, hv', hg, hh, r1, r2, r3, r4⟩
  · have := hv.1
    rw [h3, Nat.zero_mul] at this
    omega
  · obtain ⟨rfl, -, rfl⟩ : A = some ⟨b, 0, none⟩ ∧ len = len ∧ cap = cap' := by simpa using hv'
    have hlen := hv.1
    have hcl : o < cur.toList.length := by
      have : (cur.toList.take (len * sz)).length = cs.length := by rw [r4]
      rw [List.length_take] at this
      omega
    have hcells : v.cells.toList = [v] := by cases v <;> first | rfl | (simp [one] at h1)
    obtain ⟨w', hr, a1, a2, a3, a4, a5, a6⟩ := run_storeVar (P := P) (b := b) (o := o) (l := cur.toList) (T := T) ht hcells rfl (by simpa using hh) (by simp at hcl ⊢; omega) (by simp [h1])
    have e : (execOp a.eval ⟨none, .store t x y, ty, pos, af, none⟩).run P w = .ok .skip w' := by
      show ((do Instr.storeAt t (a.eval x) (a.eval y); pure Next.skip : Sem Next)).run P w = _
      rw [ha.eval hx, ha.eval hy]
      have : (Instr.storeAt t (.pointer (some ⟨ablk (some ⟨b, 0, none⟩), o, none⟩)) v).run P w = .ok () w' := by
        unfold Instr.storeAt Instr.sureAddr
        rw [run_bind_ok (x := (⟨b, o, none⟩ : Addr)) (w' := w) rfl]
        exact hr
      rw [run_bind_ok this]; rfl
    unfold Oper.wp
    rw [e]
    refine hK _ _ (k _ _ ha (hw.stepAt hG a1 a2 a3 (fun x _ hx => a6 x fun e => hx (by rw [e]; rfl)) ?_ fun x hx => .inl hx))
    refine ⟨by simpa using hlen, .inr ⟨b, cap, (splice cur.toList o [v]).toArray, rfl, hg, a5, r1, r2, ?_, ?_⟩⟩
    · simp [splice, r3]
    · simp only [splice, List.take_set, r4]

/-- A block of ours becomes a slice of ours. -/
theorem Own.blkvec {w : World} {b T sz len : Nat} {cells : List Value} (h : Own w R (.blk b cells T :: G)) (hl : cells.length = len * sz) (hm : len ≤ maxLen) : Own w R (.vec (.slice (some ⟨b, 0, none⟩) len len) len T sz cells :: G) :=
  ⟨h.os, h.tape, h.output, h.ro, fun r hr => by
    rcases List.mem_cons.1 hr with rfl | hr
    · exact ⟨hl, .inr ⟨b, len, cells.toArray, rfl, Nat.zero_le _, h.holds _ (.head _), Nat.le_refl _, hm, by simp [hl], by simp [← hl]⟩⟩
    · exact h.holds r (.tail _ hr), fun r hr => by
    rcases List.mem_cons.1 hr with rfl | hr
    · intro x hx
      have : b = x := by simpa [Res.vec, Value.ownBlock] using hx
      exact h.away (.blk b cells T) (.head _) x this.symm
    · exact h.away r (.tail _ hr), List.pairwise_cons.2 ⟨fun s hs x hx => by
      have : b = x := by simpa [Res.vec, Value.ownBlock] using hx
      exact (List.pairwise_cons.1 h.apart).1 s hs x this.symm, h.tail.apart⟩⟩
theorem tl_blkvec {b T : Nat} {cells : List Value} (i len sz : Nat) (hG : G[i]? = some (.blk b cells T)) (hl : Nat.beq cells.length (len * sz) = true) (hm : Nat.ble len 1000000 = true)
    (k : TL P ops Q rest n D env R (.vec (.slice (some ⟨b, 0, none⟩) len len) len T sz cells :: G.eraseIdx i)) : TL P ops Q rest n D env R G := fun a w ha hw => by
  have h1 := hw.perm (pick_perm i G)
  have e : pick i G = .blk b cells T :: G.eraseIdx i := by unfold pick; rw [hG]
  rw [e] at h1
  exact k a w ha (h1.blkvec (Nat.eq_of_beq_eq_true hl) (by have := Nat.le_of_ble_eq_true hm; simp only [maxLen]; omega))

/-- Where the cells lie that are to be joined to a slice. -/
structure Src (R : RO) (G : List Res) (A : Option Addr) (m sz : Nat) (cs : List Value) : Prop where
  len : cs.length = m * sz
  ones : cs.all one = true
  cell : ∀ w, Own w R G → m ≠ 0 → ∃ b oo, A = some ⟨b, oo, none⟩ ∧ ∀ j u, cs[j]? = some u → w.cell? ⟨b, oo + j, none⟩ = some u

theorem src_slAt {α} {k : Kd α} {A : Option Addr} {l : List α} (ho : k.Ones) (h : SlAt k R A l) : ∃ cs, k.reps R l cs ∧ ∀ G, Src R G A l.length k.sz cs := by
  obtain ⟨cs, h1, h2⟩ := slAt_cells h
  refine ⟨cs, h1, fun G => ⟨Kd.reps_length h1, ones_reps ho h1, fun w hw hne => ?_⟩⟩
  obtain ⟨b, o, rfl⟩ := h.addr (by intro e; rw [e] at hne; exact hne rfl)
  exact ⟨b, o, rfl, fun j u hj => h2.cell hw hj⟩
theorem src_vec {α} {k : Kd α} {A : Option Addr} {l : List α} {cap T i : Nat} {cs : List Value} (ho : k.Ones) (hr : k.reps R l cs) (hG : G[i]? = some (.vec (.slice A l.length cap) l.length T k.sz cs)) : Src R G A l.length k.sz cs := by
  refine ⟨Kd.reps_length hr, ones_reps ho hr, fun w hw hne => ?_⟩
  obtain ⟨g, rfl⟩ := (vec_len hw hG).2.2 hne
  refine ⟨g, 0, rfl, fun j u hj => ?_⟩
  obtain ⟨g', e, hc⟩ := vec_cell hw hG hj
  cases e
  simpa using hc
theorem src_blk {b T m sz i : Nat} {cs : List Value} (hG : G[i]? = some (.blk b cs T)) (hl : cs.length = m * sz) (ho : cs.all one = true) : Src R G (some ⟨b, 0, none⟩) m sz cs :=
  ⟨hl, ho, fun w hw _ => ⟨b, 0, rfl, fun j u hj => by have := blk_cell hw hG hj; simpa using this⟩⟩
def cutA (A : Option Addr) (cap lo sz : Nat) : Option Addr := if cap = lo then A else A.map (·.add (lo * sz))
theorem all_sub {p : Value → Bool} {l m : List Value} (h : l.all p = true) (hs : ∀ x ∈ m, x ∈ l) : m.all p = true := by
  rw [List.all_eq_true] at h ⊢
  exact fun x hx => h x (hs x hx)
theorem src_sub {A : Option Addr} {len cap T sz i lo hi : Nat} {cs : List Value} (ho : cs.all one = true) (hG : G[i]? = some (.vec (.slice A len cap) len T sz cs)) (h1 : lo ≤ hi) (h2 : hi ≤ len) (hl : cs.length = len * sz) : Src R G (cutA A cap lo sz) (hi - lo) sz ((cs.drop (lo * sz)).take ((hi - lo) * sz)) := by
  refine ⟨?_, all_sub ho fun x hx => List.mem_of_mem_drop (List.mem_of_mem_take hx), fun w hw hne => ?_⟩
  · rw [List.length_take, List.length_drop, hl]
    have : hi * sz ≤ len * sz := Nat.mul_le_mul_right _ h2
    have e : (hi - lo) * sz = hi * sz - lo * sz := Nat.sub_mul _ _ _
    omega
  · obtain ⟨-, hcap, hA⟩ := vec_len hw hG
    obtain ⟨g, rfl⟩ := hA (by omega)
    refine ⟨g, lo * sz, ?_, fun j u hj => ?_⟩
    · unfold cutA
      rw [if_neg (by omega)]
      simp [add_mk]
    · rw [List.getElem?_take] at hj
      split at hj
      · rw [List.getElem?_drop] at hj
        obtain ⟨g', e, hc⟩ := vec_cell hw hG hj
        cases e
        exact hc
      · cases hj

theorem run_sliceBound {w : World} {y : Nat} {i : Int} {kd c} (h0 : 0 ≤ i) (h1 : i ≤ (y : Int)) : (Instr.sliceBound (.int kd i) y c).run P w = .ok i.toNat w := by
  unfold Instr.sliceBound
  simp [asIntOf, h0, h1]

/-- s[lo:hi] of a slice of ours. -/
theorem v_sliceV {t e x sz d ty pos af} {low high : Option Operand} {A : Option Addr} {len cap T : Nat} {cs : List Value} (lo hi : Nat) (g : Nat) (hG : G[g]? = some (.vec (.slice A len cap) len T sz cs)) (hx : ev env x = some (.slice A len cap)) (ht : slElem P t = some (e, sz))
    (hlo : match low with | none => lo = 0 | some y => ev env y = some (.int .i64 (lo : Int))) (hhi : match high with | none => hi = len | some y => ev env y = some (.int .i64 (hi : Int))) (h1 : lo ≤ hi) (h2 : hi ≤ len) :
    VAL P n D env R G ⟨some d, .slice t x low high none, ty, pos, af, none⟩ (.slice (cutA A cap lo sz) (hi - lo) (cap - lo)) := fun a w ha hw => by
  have hcap := (vec_len hw hG).2.1
  unfold slElem at ht
  split at ht
  · rename_i e' hu
    cases hi' : P.info? e' with
    | none => rw [hi'] at ht; cases ht
    | some inf =>
      rw [hi', Option.map_some, Option.some.injEq, Prod.mk.injEq] at ht
      obtain ⟨rfl, rfl⟩ := ht
      have hsz : (sizeOf e').run P w = .ok inf.size w := by unfold sizeOf; rw [run_bind_ok (run_typeInfo hi')]; rfl
      have hb : (Instr.sliceBounds true len cap (low.map a.eval) (high.map a.eval) none).run P w = .ok (lo, hi, cap) w := by
        cases high with
        | none =>
          simp only [] at hhi
          subst hhi
          cases low with
          | none => simp only [] at hlo; subst hlo; rfl
          | some y =>
            simp only [] at hlo
            have hr := run_sliceBound (P := P) (w := w) (y := hi) (i := (lo : Int)) (kd := .i64) (c := .sliceB) (by omega) (by omega)
            simp only [Int.toNat_natCast] at hr
            simp [Instr.sliceBounds, ha.eval hlo, hr]
        | some y2 =>
          simp only [] at hhi
          have hr2 := run_sliceBound (P := P) (w := w) (y := cap) (i := (hi : Int)) (kd := .i64) (c := .sliceAcap) (by omega) (by omega)
          simp only [Int.toNat_natCast] at hr2
          cases low with
          | none =>
            simp only [] at hlo
            subst hlo
            simp [Instr.sliceBounds, ha.eval hhi, hr2]
          | some y =>
            simp only [] at hlo
            have hr := run_sliceBound (P := P) (w := w) (y := hi) (i := (lo : Int)) (kd := .i64) (c := .sliceB) (by omega) (by omega)
            simp only [Int.toNat_natCast] at hr
            simp [Instr.sliceBounds, ha.eval hlo, ha.eval hhi, hr, hr2]
      show ((do let z ← Instr.sliceAt t (a.eval x) (low.map a.eval) (high.map a.eval) ((none : Option Operand).map a.eval); pure (Next.value z) : Sem Next)).run P w = _
      rw [ha.eval hx]
      have e2 : (Instr.sliceAt t (.slice A len cap) (low.map a.eval) (high.map a.eval) ((none : Option Operand).map a.eval)).run P w = .ok (.slice (cutA A cap lo inf.size) (hi - lo) (cap - lo)) w := by
        unfold Instr.sliceAt
        rw [run_bind_ok (run_underlying hu w)]
        simp only [Option.map_none]
        unfold Instr.slice
        rw [run_bind_ok (run_underlying hu w)]
        simp only []
        rw [run_bind_ok hb]
        simp only []
        rw [run_bind_ok hsz]
        rfl
      rw [run_bind_ok e2]; rfl
  · cases ht

/-- append(s, x..) -/
theorem tl_appS {α : Type} {k : Kd α} {l m : List α} {t eT by_ : Nat} {zs : List Value} {d : Nat} {ty pos af} {s x : Operand} {A A2 : Option Addr} {cap cap2 : Nat} {cs ds : List Value} (i : Nat) (hv : k.reps R l cs) (he : k.reps R m ds) (hi : apInfo P t = some (eT, k.sz, by_, zs)) (hs : ev env s = some (.slice A l.length cap)) (hG : G[i]? = some (.vec (.slice A l.length cap) l.length eT k.sz cs))
    (hx : ev env x = some (.slice A2 m.length cap2)) (hsrc : Src R G A2 m.length k.sz ds) (hlen : l.length + m.length ≤ 1000000000) (hby : Nat.ble by_ 1000 = true) (hn : Nat.blt d n = true)
    (kont : ∀ A' c' cs', k.reps R (l ++ m) cs' → TL P ops Q rest n D ((d, .slice A' (l ++ m).length c') :: env) R (G.set i (.vec (.slice A' (l ++ m).length c') (l ++ m).length eT k.sz cs'))) : TL P ops Q (⟨some d, .call { callee := .builtin .append, args := #[s, x], argTypes := #[t, t] }, ty, pos, af, none⟩ :: rest) n D env R G := by
  intro a w ha hw
  by_cases hm : m.length = 0
  · have hm0 : m = [] := List.eq_nil_of_length_eq_zero hm
    subst hm0
    obtain ⟨hu, inf, z, hinf, hz, hsz, hbytes, hzs, h0⟩ := apInfo_spec hi
    have hcap := (vec_len hw hG).2.1
    have hK2 := kont A cap (cs ++ ds) (Kd.reps_append hv he)
    have hds : ds = [] := he
    subst hds
    simp only [List.append_nil] at hK2
    have hset : G.set i (.vec (.slice A l.length cap) l.length eT k.sz cs) = G := by
      have := List.getElem?_eq_some_iff.1 hG
      obtain ⟨hlt, he⟩ := this
      rw [← he, List.set_getElem_self]
    rw [hset] at hK2
    refine wpList_plain rfl fun K hK => ?_
    have hso : (sizeOf eT).run P w = .ok k.sz w := by unfold sizeOf; rw [run_bind_ok (run_typeInfo hinf), ← hsz]; rfl
    have hrun0 : (Builtin.append_ #[t, t] ty #[.slice A l.length cap, .slice A2 0 cap2]).run P w = .ok (.slice A l.length cap) w := by
      cases A <;> cases A2 <;> simp [Builtin.append_, run_underlying hu, hso, Builtin.lenOf, Builtin.firstCells, hcap, loadCells, loadCellsFrom, storeCells, Result.andThen]
    have hrun : (execOp a.eval ⟨some d, .call { callee := .builtin .append, args := #[s, x], argTypes := #[t, t] }, ty, pos, af, none⟩).run P w = .ok (.value (.slice A l.length cap)) w := by
      simp [execOp, resolve, invoke, builtin, ha.eval hs, ha.eval hx]
      rw [hrun0]; rfl
    unfold Oper.wp
    rw [hrun]
    exact hK _ _ (hK2 _ _ (ha.put (Nat.le_of_ble_eq_true hn)) hw)
  · obtain ⟨b, oo, rfl, -⟩ := hsrc.cell w hw hm
    have hb2 := Nat.le_of_ble_eq_true hby
    have hmul : (l.length + m.length) * by_ ≤ (l.length + m.length) * 1000 := Nat.mul_le_mul_left _ hb2
    refine tl_append (k := fun A' c' => ?_) i hi hs hG hx (news := ds) hsrc.len (fun w hw j u hj => ?_) (all_one hsrc.ones) (by omega) (by omega) hn a w ha hw
    · obtain ⟨b', oo', e, hc⟩ := hsrc.cell w hw hm
      cases e
      exact hc j u hj
    · have := kont A' c' (cs ++ ds) (Kd.reps_append hv he)
      simpa using this

theorem tl_appS' {α : Type} {k : Kd α} {l m : List α} {t eT by_ : Nat} {zs : List Value} {d mlen : Nat} {ty pos af} {s x : Operand} {A A2 : Option Addr} {cap cap2 : Nat} {cs ds : List Value} (i : Nat) (hv : k.reps R l cs) (he : k.reps R m ds) (hi : apInfo P t = some (eT, k.sz, by_, zs)) (hs : ev env s = some (.slice A l.length cap)) (hG : G[i]? = some (.vec (.slice A l.length cap) l.length eT k.sz cs))
    (hx : ev env x = some (.slice A2 mlen cap2)) (hml : mlen = m.length) (hsrc : Src R G A2 mlen k.sz ds) (hlen : l.length + m.length ≤ 1000000000) (hby : Nat.ble by_ 1000 = true) (hn : Nat.blt d n = true)
    (kont : ∀ A' c' cs', k.reps R (l ++ m) cs' → TL P ops Q rest n D ((d, .slice A' (l ++ m).length c') :: env) R (G.set i (.vec (.slice A' (l ++ m).length c') (l ++ m).length eT k.sz cs'))) : TL P ops Q (⟨some d, .call { callee := .builtin .append, args := #[s, x], argTypes := #[t, t] }, ty, pos, af, none⟩ :: rest) n D env R G := by
  subst hml
  exact tl_appS i hv he hi hs hG hx hsrc hlen hby hn kont
theorem v_idxV1 {t x y d e ty pos af} {A : Option Addr} {len cap T : Nat} {cs : List Value} {i : Nat} {kd : IntKind} (g : Nat) (hG : G[g]? = some (.vec (.slice A len cap) len T 1 cs)) (hx : ev env x = some (.slice A len cap)) (hy : ev env y = some (.int kd (i : Int))) (ht : slElem P t = some (e, 1)) (h1 : i < len) :
    VAL P n D env R G ⟨some d, .indexAddr t x y, ty, pos, af, none⟩ (.pointer (some ⟨ablk A, i, none⟩)) := by
  have := v_idxV (P := P) (n := n) (D := D) (R := R) (d := d) (ty := ty) (pos := pos) (af := af) g hG hx hy ht h1
  rwa [Nat.mul_one] at this
theorem v_idxV1I {t x y d e ty pos af} {A : Option Addr} {len cap T : Nat} {cs : List Value} {i : Int} {kd : IntKind} (g : Nat) (hG : G[g]? = some (.vec (.slice A len cap) len T 1 cs)) (hx : ev env x = some (.slice A len cap)) (hy : ev env y = some (.int kd i)) (ht : slElem P t = some (e, 1)) (h0 : 0 ≤ i) (h1 : i.toNat < len) :
    VAL P n D env R G ⟨some d, .indexAddr t x y, ty, pos, af, none⟩ (.pointer (some ⟨ablk A, i.toNat, none⟩)) := by
  obtain ⟨j, rfl⟩ := Int.eq_ofNat_of_zero_le h0
  exact v_idxV1 g hG hx hy ht h1
/-- A slice of ours becomes what is read. -/
theorem tl_retireV {α : Type} {k : Kd α} {l : List α} {A : Option Addr} {cap T : Nat} {cs : List Value} (i : Nat) (hG : G[i]? = some (.vec (.slice A l.length cap) l.length T k.sz cs)) (hr : k.reps R l cs) (hsz : Nat.blt 0 k.sz = true) (hb : l.length ≤ big)
    (kont : ∀ R', R.le R' → SlAt k R' A l → TL P ops Q rest n D env R' (G.eraseIdx i)) : TL P ops Q rest n D env R G := fun a w ha hw => by
  obtain ⟨R', h1, h2, h3⟩ := own_retire i hw hG hr hsz hb
  exact kont R' h1 h2 a w ha h3
theorem tx_retireV {α : Type} {k : Kd α} {e : Exit} {l : List α} {A : Option Addr} {cap T : Nat} {cs : List Value} (i : Nat) (hG : G[i]? = some (.vec (.slice A l.length cap) l.length T k.sz cs)) (hr : k.reps R l cs) (hsz : Nat.blt 0 k.sz = true) (hb : l.length ≤ big)
    (kont : ∀ R', R.le R' → SlAt k R' A l → TX Q e n D env R' (G.eraseIdx i)) : TX Q e n D env R G := fun a w ha hw => by
  obtain ⟨R', h1, h2, h3⟩ := own_retire i hw hG hr hsz hb
  exact kont R' h1 h2 a w ha h3
theorem tc_retireV {α : Type} {k : Kd α} {c : Code} {l : List α} {A : Option Addr} {cap T : Nat} {cs : List Value} (i : Nat) (hG : G[i]? = some (.vec (.slice A l.length cap) l.length T k.sz cs)) (hr : k.reps R l cs) (hsz : Nat.blt 0 k.sz = true) (hb : l.length ≤ big)
    (kont : ∀ R', R.le R' → SlAt k R' A l → TC P c Q n D env R' (G.eraseIdx i)) : TC P c Q n D env R G := fun a w ha hw => by
  obtain ⟨R', h1, h2, h3⟩ := own_retire i hw hG hr hsz hb
  exact kont R' h1 h2 a w ha h3
theorem tx_retireB {α : Type} {k : Kd α} {e : Exit} {b T : Nat} {l : List α} {cells : List Value} (i : Nat) (hG : G[i]? = some (.blk b cells T)) (hr : k.reps R l cells) (hb : l.length ≤ big)
    (kont : ∀ R', R.le R' → SlAt k R' (some ⟨b, 0, none⟩) l → TX Q e n D env R' (G.eraseIdx i)) : TX Q e n D env R G := fun a w ha hw => by
  have h1 := hw.perm (pick_perm i G)
  have e : pick i G = .blk b cells T :: G.eraseIdx i := by unfold pick; rw [hG]
  rw [e] at h1
  obtain ⟨R', h2, h3, h4⟩ := slAt_retire h1 hr hb
  exact kont R' h2 h3 a w ha h4
/-- A result that lies in a block. -/
theorem tx_retc {fn : Func} {Rp : Ending → World → Prop} {t T b Tb : Nat} {cells : List Value} {e : Exit} (i : Nat) (he : e = .ret ∨ e = .normal) (hr : fn.results = #[.cell t T]) (hv : lk env t = some (.pointer (some ⟨b, 0, none⟩))) (ht : ldInfo P T = some (true, cells.length)) (hG : G[i]? = some (.blk b cells Tb))
    (h : ∀ w, Own w R G → Rp (.returned (.agg cells.toArray)) w) : TX (bodyPost P fn Rp) e n [] env R G := by
  intro a w ha hw
  have hl : (loadVar T ⟨b, 0, none⟩).run P w = .ok (.agg cells.toArray) w := run_loadVar_agg ht fun j v hj => by
    have := blk_cell hw hG hj
    simpa using this
  have : (results fn a.tmps).run P w = .ok (.agg cells.toArray) w := by
    have h1 : a.tmps[t]?.getD undef = .pointer (some ⟨b, 0, none⟩) := by rw [ha.get _ _ hv]; rfl
    simp [results, hr, h1, asAddr, hl]
  rcases he with rfl | rfl <;> exact ⟨ha.defers, _, this, h w hw⟩
theorem tx_retct {fn : Func} {Rp : Ending → World → Prop} {t u T b Tb : Nat} {v : Value} {cells : List Value} {e : Exit} (i : Nat) (he : e = .ret ∨ e = .normal) (hr : fn.results = #[.cell t T, .tmp u]) (hv : lk env t = some (.pointer (some ⟨b, 0, none⟩))) (hu : lk env u = some v) (ht : ldInfo P T = some (true, cells.length)) (hG : G[i]? = some (.blk b cells Tb))
    (h : ∀ w, Own w R G → Rp (.returned (.tuple #[.agg cells.toArray, v])) w) : TX (bodyPost P fn Rp) e n [] env R G := by
  intro a w ha hw
  have hl : (loadVar T ⟨b, 0, none⟩).run P w = .ok (.agg cells.toArray) w := run_loadVar_agg ht fun j v hj => by
    have := blk_cell hw hG hj
    simpa using this
  have : (results fn a.tmps).run P w = .ok (.tuple #[.agg cells.toArray, v]) w := by
    have h1 : a.tmps[t]?.getD undef = .pointer (some ⟨b, 0, none⟩) := by rw [ha.get _ _ hv]; rfl
    have h2 : a.tmps[u]?.getD undef = v := by rw [ha.get _ _ hu]; rfl
    simp [results, hr, h1, h2, asAddr, hl]
  rcases he with rfl | rfl <;> exact ⟨ha.defers, _, this, h w hw⟩
end
end Go.Proofs.YtcbcdlajnmkioaaGreatDoor
