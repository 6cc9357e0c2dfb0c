/- A part of the proof of the statement ModuleGrows of isagogelaw19: rules by which code is walked. -/
import Derived.Test.YtcbcdlajnmkioaaGreatDoorE1
namespace Go.Proofs.YtcbcdlajnmkioaaGreatDoor
open Go
set_option linter.unusedVariables false
set_option linter.unusedSimpArgs false

/-! ## 4. Types' facts, read off the program -/

def zcells (P : Program) (t : TypeId) : Option (List Value) := ((P.info? t).bind (·.zero)).map (·.cells.toList)
def fieldOff (P : Program) (s j : Nat) : Option Nat :=
  match P.underlying s with
  | some (.struct fs) => match fs[j]? with
    | some f => match P.info? f.type with
      | some i => if i.size = 0 then none else some f.offset
      | none => none
    | none => none
  | _ => none
def ldInfo (P : Program) (t : TypeId) : Option (Bool × Nat) :=
  match P.underlying t, P.info? t with
  | some d, some i => some ((match d with | .struct _ | .array .. => true | _ => false), i.size)
  | _, _ => none
def slElem (P : Program) (t : TypeId) : Option (TypeId × Nat) :=
  match P.underlying t with
  | some (.slice e) => (P.info? e).map fun i => (e, i.size)
  | _ => none
def isStr (P : Program) (t : TypeId) : Bool := match P.underlying t with | some .string => true | _ => false

section
variable {P : Program} {w : World}

theorem run_isAgg {t b s} (h : ldInfo P t = some (b, s)) : (isAgg t).run P w = .ok b w := by
  unfold ldInfo at h
  split at h
  · rename_i d i hd hi
    unfold isAgg
    rw [run_bind_ok (run_underlying hd w)]
    cases d <;> simp only [Option.some.injEq, Prod.mk.injEq] at h <;> rw [← h.1] <;> rfl
  · cases h
theorem run_typeInfo {t i} (h : P.info? t = some i) : (typeInfo t).run P w = .ok i w := by
  unfold typeInfo program
  show (Sem.bind (.program .pure) _).run P w = _
  simp only [Sem.bind, Sem.run, h]
  rfl
theorem run_sizeOf {t b s} (h : ldInfo P t = some (b, s)) : (sizeOf t).run P w = .ok s w := by
  unfold ldInfo at h
  split at h
  · rename_i d i hd hi
    simp only [Option.some.injEq, Prod.mk.injEq] at h
    unfold sizeOf
    rw [run_bind_ok (run_typeInfo hi), ← h.2]; rfl
  · cases h

theorem cell_at {b o : Nat} {c : Array Value} {T fz} (h : w.heap[b]? = some (.cells c T fz)) : w.cell? ⟨b, o, none⟩ = c[o]? := by
  simp [World.cell?, h]

theorem add_mk (b o k : Nat) : (⟨b, o, none⟩ : Addr).add k = ⟨b, o + k, none⟩ := by unfold Addr.add; split <;> simp_all

theorem run_load {a : Addr} {v : Value} (h : w.cell? a = some v) : (load a).run P w = .ok v w := by
  simp [load, Sem.run, h]

theorem run_loadCellsFrom {b o : Nat} : ∀ (l : List Value) (i : Nat) (acc : Array Value), (∀ j v, l[j]? = some v → w.cell? ⟨b, o + i + j, none⟩ = some v) →
    (loadCellsFrom ⟨b, o, none⟩ i l.length acc).run P w = .ok (acc ++ l.toArray) w
  | [], i, acc, _ => by simp [loadCellsFrom, pure]
  | v :: l, i, acc, h => by
    show (do let x ← load ((⟨b, o, none⟩ : Addr).add i); loadCellsFrom ⟨b, o, none⟩ (i + 1) l.length (acc.push x) : Sem (Array Value)).run P w = _
    rw [add_mk, run_bind_ok (run_load (by simpa using h 0 v rfl)), run_loadCellsFrom l (i + 1) (acc.push v) fun j u hj => by have := h (j + 1) u hj; rwa [show o + i + (j + 1) = o + (i + 1) + j by omega] at this]
    simp
theorem run_loadCells {b o : Nat} (l : List Value) (h : ∀ j v, l[j]? = some v → w.cell? ⟨b, o + j, none⟩ = some v) : (loadCells ⟨b, o, none⟩ l.length).run P w = .ok l.toArray w := by
  unfold loadCells
  rw [run_loadCellsFrom l 0 #[] (by simpa using h)]; simp

theorem run_loadVar_agg {t b o} {l : List Value} (ht : ldInfo P t = some (true, l.length)) (h : ∀ j v, l[j]? = some v → w.cell? ⟨b, o + j, none⟩ = some v) : (loadVar t ⟨b, o, none⟩).run P w = .ok (.agg l.toArray) w := by
  unfold loadVar
  rw [run_bind_ok (run_isAgg ht), if_pos rfl, run_bind_ok (run_sizeOf ht), run_bind_ok (run_loadCells l h)]; rfl
theorem run_loadVar_one {t b o s} {v : Value} (ht : ldInfo P t = some (false, s)) (h : w.cell? ⟨b, o, none⟩ = some v) : (loadVar t ⟨b, o, none⟩).run P w = .ok v w := by
  unfold loadVar
  rw [run_bind_ok (run_isAgg ht)]
  exact run_load h

/-! ### Stores -/

def one : Value → Bool
  | .agg _ | .tuple _ => false
  | _ => true

theorem run_store1 {b o : Nat} {l : List Value} {T v} (hh : w.heap[b]? = some (.cells l.toArray T (0, 0))) (ho : o < l.length) (h1 : one v = true) :
    ∃ w', (store ⟨b, o, none⟩ v).run P w = .ok () w' ∧ w'.os = w.os ∧ w'.tape = w.tape ∧ w'.output = w.output ∧ w'.heap.size = w.heap.size ∧ w'.heap[b]? = some (.cells (l.set o v).toArray T (0, 0)) ∧ ∀ x, x ≠ b → w'.heap[x]? = w.heap[x]? := by
  have hc : w.cell? ⟨b, o, none⟩ = some (l[o]) := by rw [cell_at hh]; simp [ho]
  have hf : w.frozen? ⟨b, o, none⟩ = false := by simp [World.frozen?, hh]
  refine ⟨w.setCell ⟨b, o, none⟩ v, ?_, rfl, rfl, rfl, by simp [World.setCell], ?_, fun x hx => ?_⟩
  · cases v <;> first | (simp [one] at h1; done) | (simp [store, Sem.run, hc, hf])
  · simp only [World.setCell, Array.getElem?_modify, if_true, hh, Option.map_some]
    simp
  · simp only [World.setCell, Array.getElem?_modify]
    rw [if_neg (Ne.symm hx)]

def splice (l : List Value) (o : Nat) : List Value → List Value
  | [] => l
  | v :: vs => splice (l.set o v) (o + 1) vs

theorem splice_length (l : List Value) (o : Nat) (vs : List Value) : (splice l o vs).length = l.length := by
  induction vs generalizing l o with
  | nil => rfl
  | cons v vs ih => simp [splice, ih]

theorem run_storeCells {b o : Nat} {T} : ∀ (vs : List Value) (l : List Value) (i : Nat) (w : World), w.heap[b]? = some (.cells l.toArray T (0, 0)) → o + i + vs.length ≤ l.length → vs.all one = true →
    ∃ w', (storeCells ⟨b, o, none⟩ vs i).run P w = .ok () w' ∧ w'.os = w.os ∧ w'.tape = w.tape ∧ w'.output = w.output ∧ w'.heap.size = w.heap.size ∧ w'.heap[b]? = some (.cells (splice l (o + i) vs).toArray T (0, 0)) ∧ ∀ x, x ≠ b → w'.heap[x]? = w.heap[x]?
  | [], l, i, w, hh, _, _ => ⟨w, rfl, rfl, rfl, rfl, rfl, hh, fun _ _ => rfl⟩
  | v :: vs, l, i, w, hh, hl, h1 => by
    simp only [List.all_cons, Bool.and_eq_true] at h1
    simp only [List.length_cons] at hl
    obtain ⟨w1, hr, a1, a2, a3, a4, a5, a6⟩ := run_store1 (P := P) (o := o + i) (v := v) hh (by omega) h1.1
    obtain ⟨w2, hr2, b1, b2, b3, b4, b5, b6⟩ := run_storeCells (o := o) vs (l.set (o + i) v) (i + 1) w1 a5 (by simp; omega) h1.2
    refine ⟨w2, ?_, b1.trans a1, b2.trans a2, b3.trans a3, b4.trans a4, b5, fun x hx => (b6 x hx).trans (a6 x hx)⟩
    show (do store ((⟨b, o, none⟩ : Addr).add i) v; storeCells ⟨b, o, none⟩ vs (i + 1) : Sem Unit).run P w = _
    rw [add_mk, run_bind_ok hr, hr2]

theorem run_storeVar {t b o g s T} {v : Value} {vs l : List Value} (ht : ldInfo P t = some (g, s)) (hv : v.cells.toList = vs) (hs : vs.length = s) (hh : w.heap[b]? = some (.cells l.toArray T (0, 0))) (ho : o + vs.length ≤ l.length) (h1 : vs.all one = true) :
    ∃ w', (storeVar t ⟨b, o, none⟩ v).run P w = .ok () w' ∧ w'.os = w.os ∧ w'.tape = w.tape ∧ w'.output = w.output ∧ w'.heap.size = w.heap.size ∧ w'.heap[b]? = some (.cells (splice l o vs).toArray T (0, 0)) ∧ ∀ x, x ≠ b → w'.heap[x]? = w.heap[x]? := by
  obtain ⟨w', h⟩ := run_storeCells (P := P) (o := o) vs l 0 w hh (by simpa using ho) h1
  refine ⟨w', ?_, h.2⟩
  unfold storeVar
  have hsz : v.cells.size = s := by rw [← hs, ← hv]; simp
  rw [run_bind_ok (run_sizeOf ht), hsz, if_neg (by simp), hv]
  exact h.1
end

theorem Own.stepAt {w w' : World} {R G} {r r' : Res} {i : Nat} (h : Own w R G) (hi : G[i]? = some r) (hos : w'.os = w.os) (htape : w'.tape = w.tape) (hout : w'.output = w.output)
    (hsame : ∀ b, b < w.heap.size → ¬ r.foot b → w'.heap[b]? = w.heap[b]?) (hold : r'.holds w') (hfoot : ∀ b, r'.foot b → r.foot b ∨ w.heap.size ≤ b) : Own w' R (G.set i r') := by
  have h1 := h.perm (pick_perm i G)
  unfold pick at h1
  rw [hi] at h1
  have h2 := Own.step (r' := r') h1 hos htape hout hsame hold hfoot
  refine h2.perm ?_
  clear h h1 h2
  induction G generalizing i with
  | nil => simp at hi
  | cons g G ih =>
    cases i with
    | zero => exact List.Perm.refl _
    | succ i => exact (List.Perm.swap g r' _).trans ((ih hi).cons g)

/-- What is nobody's and new. -/
theorem Own.new {w w' : World} {R G} {r' : Res} (h : Own w R G) (hos : w'.os = w.os) (htape : w'.tape = w.tape) (hout : w'.output = w.output)
    (hsame : ∀ b, b < w.heap.size → w'.heap[b]? = w.heap[b]?) (hold : r'.holds w') (hfoot : ∀ b, r'.foot b → w.heap.size ≤ b) : Own w' R (r' :: G) :=
  Own.step h.emp hos htape hout (fun b hb _ => hsame b hb) hold fun b hb => .inr (hfoot b hb)

theorem Own.push {w : World} {R G} (h : Own w R G) (l : List Value) (T : TypeId) : Own { w with heap := w.heap.push (.cells l.toArray T (0, 0)) } R (.blk w.heap.size l T :: G) :=
  h.new rfl rfl rfl (fun b hb => by show (w.heap.push _)[b]? = _; rw [Array.getElem?_push, if_neg (by omega)])
    (by show (w.heap.push _)[w.heap.size]? = _; simp) fun b hb => by have : b = w.heap.size := hb; omega

section
variable {P : Program} {n : Nat} {D : List Deferred} {env env' : List (Nat × Value)} {R : RO} {G G' : List Res} {Q : Exit → Act → World → Prop} {ops : Array Oper} {rest : List Oper} {o : Oper}

theorem tl_box_agg {T x d ty pos af} {l : List Value} (hx : ev env x = some (.agg l.toArray)) (hn : Nat.blt d n = true)
    (k : ∀ b, TL P ops Q rest n D ((d, .pointer (some ⟨b, 0, none⟩)) :: env) R (.blk b l T :: G)) : TL P ops Q (⟨some d, .box T x, ty, pos, af, none⟩ :: rest) n D env R G := by
  intro a w ha hw
  refine wpList_plain rfl fun K hK => ?_
  have hr : (execOp a.eval ⟨some d, .box T x, ty, pos, af, none⟩).run P w = .ok (.value (.pointer (some ⟨w.heap.size, 0, none⟩))) { w with heap := w.heap.push (.cells l.toArray T (0, 0)) } := by
    simp [execOp, ha.eval hx, Instr.box, newVar, newRow, newObj, Value.cells, Sem.run, pure, bind, Sem.bind]
  unfold Oper.wp
  rw [hr]
  exact hK _ _ (k _ _ _ (ha.put (Nat.le_of_ble_eq_true hn)) (hw.push l T))
theorem tl_box {T x d v ty pos af} (hx : ev env x = some v) (h1 : v.cells = #[v]) (hn : Nat.blt d n = true)
    (k : ∀ b, TL P ops Q rest n D ((d, .pointer (some ⟨b, 0, none⟩)) :: env) R (.blk b [v] T :: G)) : TL P ops Q (⟨some d, .box T x, ty, pos, af, none⟩ :: rest) n D env R G := by
  intro a w ha hw
  refine wpList_plain rfl fun K hK => ?_
  have hr : (execOp a.eval ⟨some d, .box T x, ty, pos, af, none⟩).run P w = .ok (.value (.pointer (some ⟨w.heap.size, 0, none⟩))) { w with heap := w.heap.push (.cells [v].toArray T (0, 0)) } := by
    simp [execOp, ha.eval hx, Instr.box, newVar, newRow, newObj, h1, Sem.run, pure, bind, Sem.bind]
  unfold Oper.wp
  rw [hr]
  exact hK _ _ (k _ _ _ (ha.put (Nat.le_of_ble_eq_true hn)) (hw.push [v] T))
theorem tl_alloc {T d ty pos af} {l : List Value} (hz : zcells P T = some l) (hn : Nat.blt d n = true)
    (k : ∀ b, TL P ops Q rest n D ((d, .pointer (some ⟨b, 0, none⟩)) :: env) R (.blk b l T :: G)) : TL P ops Q (⟨some d, .alloc T, ty, pos, af, none⟩ :: rest) n D env R G := by
  intro a w ha hw
  refine wpList_plain rfl fun K hK => ?_
  have hr : (execOp a.eval ⟨some d, .alloc T, ty, pos, af, none⟩).run P w = .ok (.value (.pointer (some ⟨w.heap.size, 0, none⟩))) { w with heap := w.heap.push (.cells l.toArray T (0, 0)) } := by
    unfold zcells at hz
    cases hi : P.info? T with
    | none => rw [hi] at hz; cases hz
    | some i =>
      rw [hi, Option.bind_some] at hz
      cases hzz : i.zero with
      | none => rw [hzz] at hz; cases hz
      | some z =>
        rw [hzz, Option.map_some, Option.some.injEq] at hz
        have hzv : (zeroValue T).run P w = .ok z w := by
          unfold zeroValue
          rw [run_bind_ok (run_typeInfo hi), hzz]; rfl
        show ((do let x ← Instr.alloc T true (.tuple #[]); pure (Next.value x) : Sem Next)).run P w = _
        have : (Instr.alloc T true (.tuple #[])).run P w = .ok (.pointer (some ⟨w.heap.size, 0, none⟩)) { w with heap := w.heap.push (.cells l.toArray T (0, 0)) } := by
          unfold Instr.alloc
          rw [run_bind_ok hzv, ← hz]
          simp [newVar, newRow, newObj, Sem.run, pure, bind, Sem.bind]
        rw [run_bind_ok this]; rfl
  unfold Oper.wp
  rw [hr]
  exact hK _ _ (k _ _ _ (ha.put (Nat.le_of_ble_eq_true hn)) (hw.push l T))

theorem v_fieldAddr {s x j d b o off ty pos af} (o' : Nat) (hx : ev env x = some (.pointer (some ⟨b, o, none⟩))) (hf : fieldOff P s j = some off) (ho : o + off = o')
    : VAL P n D env R G ⟨some d, .fieldAddr s x j, ty, pos, af, none⟩ (.pointer (some ⟨b, o', none⟩)) :=
  fun a w ha _ => by
    show ((do let z ← Instr.fieldAt s (a.eval x) j; pure (Next.value z) : Sem Next)).run P w = _
    rw [ha.eval hx]
    unfold fieldOff at hf
    split at hf
    · rename_i fs hu
      split at hf
      · rename_i f hj
        split at hf
        · rename_i i hi
          split at hf
          · cases hf
          · rename_i hsz
            have e : (Instr.fieldAt s (.pointer (some ⟨b, o, none⟩)) j).run P w = .ok (.pointer (some ⟨b, o', none⟩)) w := by
              unfold Instr.fieldAt
              rw [run_bind_ok (run_underlying hu w)]
              simp only [hj, Instr.sureAddr]
              have e2 : (fieldPlace ⟨b, o, none⟩ f).run P w = .ok ⟨b, o', none⟩ w := by
                unfold fieldPlace
                have e3 : (sizeOf f.type).run P w = .ok i.size w := by unfold sizeOf; rw [run_bind_ok (run_typeInfo hi)]; rfl
                rw [run_bind_ok e3, if_neg hsz, add_mk, ← ho, Option.some.inj hf]; rfl
              show (do let a ← (pure ⟨b, o, none⟩ : Sem Addr); let r ← fieldPlace a f; pure (Value.pointer (some r)) : Sem Value).run P w = _
              rw [run_bind_ok (x := (⟨b, o, none⟩ : Addr)) (w' := w) rfl, run_bind_ok e2]; rfl
            rw [run_bind_ok e]; rfl
        · cases hf
      · cases hf
    · cases hf
theorem v_ldR_agg {t x d b o ty pos af} (l : List Value) (hx : ev env x = some (.pointer (some ⟨b, o, none⟩))) (ht : ldInfo P t = some (true, l.length)) (hc : ∀ w, Own w R G → ∀ j v, l[j]? = some v → w.cell? ⟨b, o + j, none⟩ = some v)
    : VAL P n D env R G ⟨some d, .load t x, ty, pos, af, none⟩ (.agg l.toArray) :=
  fun a w ha hw => by
    show ((do let z ← Instr.loadAt t (a.eval x); pure (Next.value z) : Sem Next)).run P w = _
    rw [ha.eval hx]
    have e : (Instr.loadAt t (.pointer (some ⟨b, o, none⟩))).run P w = .ok (.agg l.toArray) w := by
      unfold Instr.loadAt Instr.sureAddr
      rw [run_bind_ok (x := (⟨b, o, none⟩ : Addr)) (w' := w) rfl]
      exact run_loadVar_agg ht (hc w hw)
    rw [run_bind_ok e]; rfl
theorem v_ldR {t x d b o s ty pos af} {v : Value} (hx : ev env x = some (.pointer (some ⟨b, o, none⟩))) (ht : ldInfo P t = some (false, s)) (hc : ∀ w, Own w R G → w.cell? ⟨b, o, none⟩ = some v)
    : VAL P n D env R G ⟨some d, .load t x, ty, pos, af, none⟩ v :=
  fun a w ha hw => by
    show ((do let z ← Instr.loadAt t (a.eval x); pure (Next.value z) : Sem Next)).run P w = _
    rw [ha.eval hx]
    have e : (Instr.loadAt t (.pointer (some ⟨b, o, none⟩))).run P w = .ok v w := by
      unfold Instr.loadAt Instr.sureAddr
      rw [run_bind_ok (x := (⟨b, o, none⟩ : Addr)) (w' := w) rfl]
      exact run_loadVar_one ht (hc w hw)
    rw [run_bind_ok e]; rfl
theorem blk_cell {w : World} {R : RO} {G : List Res} {i b : Nat} {l : List Value} {T : TypeId} {o : Nat} {v : Value} (hw : Own w R G) (hG : G[i]? = some (.blk b l T)) (h : l[o]? = some v) : w.cell? ⟨b, o, none⟩ = some v := by
  have : w.heap[b]? = some (.cells l.toArray T (0, 0)) := hw.holds _ (List.mem_of_getElem? hG)
  rw [cell_at this]; simpa using h

/-- A load out of an owned block. -/
theorem v_ld {t x d b o s ty pos af} {l : List Value} {T : TypeId} {v : Value} (i : Nat) (hx : ev env x = some (.pointer (some ⟨b, o, none⟩))) (ht : ldInfo P t = some (false, s)) (hG : G[i]? = some (.blk b l T)) (hl : l[o]? = some v) : VAL P n D env R G ⟨some d, .load t x, ty, pos, af, none⟩ v :=
  v_ldR hx ht fun w hw => blk_cell hw hG hl
theorem v_ld_agg {t x d b o ty pos af} {l : List Value} {T : TypeId} (i : Nat) (l' : List Value) (hx : ev env x = some (.pointer (some ⟨b, o, none⟩))) (ht : ldInfo P t = some (true, l'.length)) (hG : G[i]? = some (.blk b l T)) (hl : (l.drop o).take l'.length = l') : VAL P n D env R G ⟨some d, .load t x, ty, pos, af, none⟩ (.agg l'.toArray) :=
  v_ldR_agg l' hx ht fun w hw j v hj => blk_cell hw hG (by rw [← hl] at hj; rw [List.getElem?_take] at hj; split at hj; rwa [List.getElem?_drop] at hj; cases hj)

/-- A store into an owned block. -/
theorem tl_st {t x y b o s g ty pos af} {l vs : List Value} {T : TypeId} {v : Value} (i : Nat) (l' : List Value) (hx : ev env x = some (.pointer (some ⟨b, o, none⟩))) (hy : ev env y = some v) (ht : ldInfo P t = some (g, s)) (hv : v.cells.toList = vs) (hs : vs.length = s) (hG : G[i]? = some (.blk b l T)) (ho : Nat.ble (o + vs.length) l.length = true) (h1 : vs.all one = true) (hl : splice l o vs = l')
    (k : TL P ops Q rest n D env R (G.set i (.blk b l' T))) : TL P ops Q (⟨none, .store t x y, ty, pos, af, none⟩ :: rest) n D env R G := by
  intro a w ha hw
  refine wpList_plain rfl fun K hK => ?_
  have hh : w.heap[b]? = some (.cells l.toArray T (0, 0)) := hw.holds _ (List.mem_of_getElem? hG)
  obtain ⟨w', hr, a1, a2, a3, a4, a5, a6⟩ := run_storeVar (P := P) ht hv hs hh (Nat.le_of_ble_eq_true ho) h1
  have e : (execOp a.eval ⟨none, .store t x y, ty, pos, af, none⟩).run P w = .ok .skip w' := by
    show ((do Instr.storeAt t (a.eval x) (a.eval y); pure Next.skip : Sem Next)).run P w = _
    rw [ha.eval hx, ha.eval hy]
    have : (Instr.storeAt t (.pointer (some ⟨b, o, none⟩)) v).run P w = .ok () w' := by
      unfold Instr.storeAt Instr.sureAddr
      rw [run_bind_ok (x := (⟨b, o, none⟩ : Addr)) (w' := w) rfl]
      exact hr
    rw [run_bind_ok this]; rfl
  unfold Oper.wp
  rw [e]
  refine hK _ _ (k _ _ ha (hw.stepAt hG a1 a2 a3 (fun x _ hx => a6 x hx) ?_ fun x hx => .inl hx))
  rw [← hl]; exact a5

theorem run_indexAt {t e s : Nat} {len cap b o : Nat} {i : Int} {kd : IntKind} {w : World} (ht : slElem P t = some (e, s)) (h0 : 0 ≤ i) (h1 : i < (len : Int)) : (Instr.indexAt t (.slice (some ⟨b, o, none⟩) len cap) (.int kd i)).run P w = .ok (.pointer (some ⟨b, o + i.toNat * s, none⟩)) w := by
  unfold slElem at ht
  split at ht
  · rename_i e' hu
    cases hi : P.info? e' with
    | none => rw [hi] at ht; cases ht
    | some inf =>
      rw [hi, Option.map_some, Option.some.injEq, Prod.mk.injEq] at ht
      obtain ⟨rfl, rfl⟩ := ht
      have hsz : (sizeOf e').run P w = .ok inf.size w := by unfold sizeOf; rw [run_bind_ok (run_typeInfo hi)]; rfl
      simp [Instr.indexAt, asIntOf, run_underlying hu, h0, h1, hsz, add_mk]
  · cases ht

theorem v_idx {t x y d e s ty pos af} {len cap b o : Nat} {i : Int} {kd : IntKind} (o' : Nat) (hx : ev env x = some (.slice (some ⟨b, o, none⟩) len cap)) (hy : ev env y = some (.int kd i)) (ht : slElem P t = some (e, s)) (h0 : 0 ≤ i) (h1 : i < (len : Int)) (ho : o + i.toNat * s = o')
    : VAL P n D env R G ⟨some d, .indexAddr t x y, ty, pos, af, none⟩ (.pointer (some ⟨b, o', none⟩)) :=
  fun a w ha _ => by
    show ((do let z ← Instr.indexAt t (a.eval x) (a.eval y); pure (Next.value z) : Sem Next)).run P w = _
    rw [ha.eval hx, ha.eval hy, run_bind_ok (run_indexAt ht h0 h1), ho]; rfl
theorem v_len {t x d ad e s ty pos af} {len cap : Nat} (hx : ev env x = some (.slice ad len cap)) (ht : slElem P t = some (e, s))
    : VAL P n D env R G ⟨some d, .call { callee := .builtin .len, args := #[x], argTypes := #[t] }, ty, pos, af, none⟩ (.int .i64 (len : Int)) :=
  fun a w ha _ => by
    unfold slElem at ht
    split at ht
    · rename_i e' hu
      simp [execOp, resolve, invoke, builtin, Builtin.len_, ha.eval hx, run_underlying hu, goInt]
    · cases ht
theorem v_len_str {t x d ty pos af} {s : ByteArray} (hx : ev env x = some (.string s)) (ht : isStr P t = true)
    : VAL P n D env R G ⟨some d, .call { callee := .builtin .len, args := #[x], argTypes := #[t] }, ty, pos, af, none⟩ (.int .i64 (s.size : Int)) :=
  fun a w ha _ => by
    unfold isStr at ht
    split at ht
    · rename_i hu
      simp [execOp, resolve, invoke, builtin, Builtin.len_, ha.eval hx, run_underlying hu, goInt]
    · cases ht
/-! ### Calls -/

structure Callable (P : Program) (f : FuncId) : Prop where
  ok : (match P.funcs[f]? with | some fn => !(fn.name == "runtime.NumGoroutine") && fn.body.isSome | none => false) = true

theorem run_callFunc {f : FuncId} {args : Array Value} {w : World} (h : Callable P f) : (callFunc f args).run P w = .ok (.enter f args) w := by
  have := h.ok
  split at this
  · rename_i fn hf
    simp only [Bool.and_eq_true, Bool.not_eq_true'] at this
    obtain ⟨h1, h2⟩ := this
    unfold callFunc program
    show (Sem.bind (.program .pure) _).run P w = _
    simp only [Sem.bind, Sem.run, hf, h1]
    cases hb : fn.body with
    | none => rw [hb] at h2; cases h2
    | some c => simp [Sem.run, pure]
  · cases this

def evs (env : List (Nat × Value)) : List Operand → Option (List Value)
  | [] => some []
  | x :: xs => match ev env x, evs env xs with
    | some v, some vs => some (v :: vs)
    | _, _ => none

theorem evs_map {a : Act} (ha : Env n D env a) : ∀ {xs : List Operand} {vs : List Value}, evs env xs = some vs → xs.map a.eval = vs
  | [], vs, h => by cases h; rfl
  | x :: xs, vs, h => by
    unfold evs at h
    cases hx : ev env x with
    | none => rw [hx] at h; cases h
    | some v =>
      cases hxs : evs env xs with
      | none => rw [hx, hxs] at h; cases h
      | some us =>
        rw [hx, hxs] at h
        cases h
        rw [List.map_cons, ha.eval hx, evs_map ha hxs]

theorem run_call {a : Act} {w : World} {f dst ty pos af at_} {xs : List Operand} {vs : List Value} (ha : Env n D env a) (hc : Callable P f) (hv : evs env xs = some vs) :
    (execOp a.eval ⟨dst, .call { callee := .value (.func f), args := xs.toArray, argTypes := at_ }, ty, pos, af, none⟩).run P w = .ok (.enter f vs.toArray) w := by
  have e : xs.toArray.map a.eval = vs.toArray := by rw [← evs_map ha hv]; simp
  have e2 : (execOp a.eval ⟨dst, .call { callee := .value (.func f), args := xs.toArray, argTypes := at_ }, ty, pos, af, none⟩) = (do callFunc f (#[] ++ vs.toArray ++ #[]) : Sem Next) := by
    simp [execOp, resolve, e, Act.eval, Deferred.ofValue, invoke]
  rw [e2]
  simpa using run_callFunc hc

/-- What a call is told to do: it returns such a value, memory that was read reads as before, what was owned is owned. -/
def Ret (R : RO) (G : List Res) (φ : Value → RO → Prop) : Ending → World → Prop := fun e w' => ∃ v R', e = .returned v ∧ R.le R' ∧ Own w' R' G ∧ φ v R'

theorem tl_call {f d ty pos af at_ xs vs} {φ : Value → RO → Prop} {G' : List Res} (hc : Callable P f) (hv : evs env xs = some vs) (hk : ∀ w, Own w R G → Calls P f vs.toArray w (Ret R G' φ)) (hn : Nat.blt d n = true)
    (k : ∀ v R', R.le R' → φ v R' → TL P ops Q rest n D ((d, v) :: env) R' G') : TL P ops Q (⟨some d, .call { callee := .value (.func f), args := xs.toArray, argTypes := at_ }, ty, pos, af, none⟩ :: rest) n D env R G := by
  intro a w ha hw
  refine wpList_plain rfl fun K hK => ?_
  unfold Oper.wp
  rw [run_call ha hc hv]
  simp only [Oper.upon]
  refine (hk w hw).mono ?_
  rintro e w' ⟨v, R', rfl, hle, ho, hp⟩
  exact hK _ _ (k v R' hle hp _ _ (ha.put (Nat.le_of_ble_eq_true hn)) ho)

/-- A call whose value is known. -/
def Gives (R : RO) (G : List Res) (v : Value) : Ending → World → Prop := fun e w' => e = .returned v ∧ Own w' R G

theorem tl_callv {f d ty pos af at_ xs vs v} {G' : List Res} (hc : Callable P f) (hv : evs env xs = some vs) (hk : ∀ w, Own w R G → Calls P f vs.toArray w (Gives R G' v)) (hn : Nat.blt d n = true)
    (k : TL P ops Q rest n D ((d, v) :: env) R G') : TL P ops Q (⟨some d, .call { callee := .value (.func f), args := xs.toArray, argTypes := at_ }, ty, pos, af, none⟩ :: rest) n D env R G := by
  intro a w ha hw
  refine wpList_plain rfl fun K hK => ?_
  unfold Oper.wp
  rw [run_call ha hc hv]
  simp only [Oper.upon]
  refine (hk w hw).mono ?_
  rintro e w' ⟨rfl, ho⟩
  exact hK _ _ (k _ _ (ha.put (Nat.le_of_ble_eq_true hn)) ho)

/-! ### A function's begin and end -/

def args0 : Nat → List Value → List (Nat × Value)
  | _, [] => []
  | i, v :: vs => (i, v) :: args0 (i + 1) vs

theorem lk_args0 : ∀ (vs : List Value) (i t : Nat) (v : Value), lk (args0 i vs) t = some v → ∃ j, t = i + j ∧ vs[j]? = some v
  | [], _, _, _, h => by cases h
  | u :: vs, i, t, v, h => by
    by_cases k : i = t
    · subst k
      simp only [args0] at h
      rw [lk_cons_eq] at h
      exact ⟨0, rfl, h⟩
    · simp only [args0] at h
      rw [lk_cons_ne k] at h
      obtain ⟨j, e, hj⟩ := lk_args0 vs (i + 1) t v h
      exact ⟨j + 1, by omega, hj⟩

theorem fn_enter {f : FuncId} {fn : Func} {c : Code} {vs : List Value} {w : World} {Rp : Ending → World → Prop} (hf : P.funcs[f]? = some fn) (hb : fn.body = some c) (hn : fn.ntmps = n) (hl : Nat.ble vs.length n = true)
    (h : TC P c (bodyPost P fn Rp) n [] (args0 0 vs) R G) (hw : Own w R G) : Calls P f vs.toArray w Rp := by
  refine calls_of_wp hf hb (h _ w ⟨?_, rfl, fun t v e => ?_⟩ hw)
  · have := Nat.le_of_ble_eq_true hl
    simp [hn]; omega
  · obtain ⟨j, rfl, hj⟩ := lk_args0 vs 0 t v e
    have hlt : j < vs.length := (List.getElem?_eq_some_iff.1 hj).1
    simp only [Nat.zero_add]
    rw [Array.getElem?_append_left (by simpa using hlt)]
    simpa using hj

theorem tx_ret1 {fn : Func} {Rp : Ending → World → Prop} {t : Nat} {v : Value} {e : Exit} (he : e = .ret ∨ e = .normal) (hr : fn.results = #[.tmp t]) (hv : lk env t = some v) (h : ∀ w, Own w R G → Rp (.returned v) w) : TX (bodyPost P fn Rp) e n [] env R G := by
  intro a w ha hw
  have : (results fn a.tmps).run P w = .ok v w := by
    rw [results_tmp hr, Array.getD_eq_getD_getElem?, ha.get _ _ hv]; rfl
  rcases he with rfl | rfl <;> exact ⟨ha.defers, v, this, h w hw⟩
theorem tx_ret0 {fn : Func} {Rp : Ending → World → Prop} {e : Exit} (he : e = .ret ∨ e = .normal) (hr : fn.results = #[]) (h : ∀ w, Own w R G → Rp (.returned (.tuple #[])) w) : TX (bodyPost P fn Rp) e n [] env R G := by
  intro a w ha hw
  have : (results fn a.tmps).run P w = .ok (.tuple #[]) w := results_none hr a.tmps P w
  rcases he with rfl | rfl <;> exact ⟨ha.defers, _, this, h w hw⟩
theorem tx_ret2 {fn : Func} {Rp : Ending → World → Prop} {t u : Nat} {v v' : Value} {e : Exit} (he : e = .ret ∨ e = .normal) (hr : fn.results = #[.tmp t, .tmp u]) (hv : lk env t = some v) (hv' : lk env u = some v') (h : ∀ w, Own w R G → Rp (.returned (.tuple #[v, v'])) w) : TX (bodyPost P fn Rp) e n [] env R G := by
  intro a w ha hw
  have : (results fn a.tmps).run P w = .ok (.tuple #[v, v']) w := by
    rw [results_tmp2 hr, Array.getD_eq_getD_getElem?, Array.getD_eq_getD_getElem?, ha.get _ _ hv, ha.get _ _ hv']; rfl
  rcases he with rfl | rfl <;> exact ⟨ha.defers, _, this, h w hw⟩
end
end Go.Proofs.YtcbcdlajnmkioaaGreatDoor
