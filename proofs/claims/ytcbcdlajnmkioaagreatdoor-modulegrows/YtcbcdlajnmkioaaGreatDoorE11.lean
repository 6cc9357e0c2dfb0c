/- A part of the proof of the statement ModuleGrows of isagogelaw19: rules by which code is walked. -/
import Derived.Test.YtcbcdlajnmkioaaGreatDoorE10
import Derived.Lib.AppendZeros
namespace Go.Proofs.YtcbcdlajnmkioaaGreatDoor
open Go
set_option linter.unusedVariables false
set_option linter.unusedSimpArgs false

instance memBytes (x : ByteArray) (l : List ByteArray) : Decidable (x ∈ l) := @List.instDecidableMemOfLawfulBEq ByteArray instBEqOfDecidableEq _ x l

/-! ## 12. Arrays behind pointers, interfaces, function values, truncation, clear -/
def arrElem (P : Program) (t : TypeId) : Option (Nat × TypeId × Nat) :=
  match P.underlying t with
  | some (.array n e) => (P.info? e).map fun i => (n, e, i.size)
  | _ => none
def fieldOne (P : Program) (s j : Nat) : Option Nat :=
  match P.underlying s with
  | some (.struct fs) => match fs[j]? with
    | some f => match ldInfo P f.type with
      | some (false, _) => some f.offset
      | _ => none
    | none => none
  | _ => none
def arrOne (P : Program) (t : TypeId) : Option Nat :=
  match P.underlying t with
  | some (.array n e) => match ldInfo P e with
    | some (false, 1) => some n
    | _ => none
  | _ => none
def noIface (P : Program) (t : TypeId) : Bool := match P.underlying t with
  | some (.interface _) => false
  | some _ => true
  | none => false
def mrow (P : Program) (t : TypeId) (name : String) : Option FuncId :=
  match P.info? t with
  | some i => match i.methods.find? (·.name == name) with
    | some m => match m.func, P.underlying t with
      | some (f, false), some (.struct _) => if m.path.isEmpty then some f else none
      | _, _ => none
    | none => none
  | none => none

section
variable {P : Program} {n : Nat} {D : List Deferred} {env env' : List (Nat × Value)} {R : RO} {G G' : List Res} {Q : Exit → Act → World → Prop} {ops : Array Oper} {rest : List Oper} {o : Oper}

theorem v_cap {t x d e s ty pos af ad} {len cap : Nat} (hx : ev env x = some (.slice ad len cap)) (ht : slElem P t = some (e, s))
    : VAL P n D env R G ⟨some d, .call { callee := .builtin .cap, args := #[x], argTypes := #[t] }, ty, pos, af, none⟩ (.int .i64 (cap : Int)) :=
  fun a w ha _ => by
    unfold slElem at ht
    split at ht
    · rename_i e' hu
      simp [execOp, resolve, invoke, builtin, Builtin.cap_, ha.eval hx, run_underlying hu, goInt]
    · cases ht
theorem v_slnil {t x y yt d e s ty pos af} {A : Option Addr} {len cap m c : Nat} (hx : ev env x = some (.slice A len cap)) (hy : ev env y = some (.slice none m c)) (ht : slElem P t = some (e, s)) :
    VAL P n D env R G ⟨some d, .binOp .eql t x y yt, ty, pos, af, none⟩ (.bool A.isNone) :=
  v_bin hx hy fun w => by
    unfold slElem at ht
    split at ht
    · rename_i e' hu
      have h1 : (eqGuard .eql t x y (.slice A len cap) (.slice none m c)).run P w = .ok () w := by unfold eqGuard; rfl
      rw [run_bind_ok h1]
      have h2 : (Op.equal t (.slice A len cap) (.slice none m c)).run P w = .ok A.isNone w := by
        show (Op.equalIn 10000 t _ _).run P w = _
        unfold Op.equalIn
        rw [run_bind_ok (run_underlying hu w)]
        cases A <;> rfl
      show ((do pure (Value.bool (← Op.equal t (.slice A len cap) (.slice none m c))) : Sem Value)).run P w = _
      rw [run_bind_ok h2]; rfl
    · cases ht
theorem v_nilchk {x d a ty pos af} (hx : ev env x = some (.pointer (some a))) : VAL P n D env R G ⟨some d, .nilCheck x, ty, pos, af, none⟩ (.pointer (some a)) :=
  fun a' w ha _ => by simp [execOp, ha.eval hx, pure]
theorem v_nilchkI {x d t v ty pos af} (hx : ev env x = some (.iface t v)) : VAL P n D env R G ⟨some d, .nilCheck x, ty, pos, af, none⟩ (.iface t v) :=
  fun a' w ha _ => by simp [execOp, ha.eval hx, pure]
theorem v_idxG {t x y d e s ty pos af} {len b o : Nat} {i : Int} {kd : IntKind} (o' : Nat) (hx : ev env x = some (.pointer (some ⟨b, o, none⟩))) (hy : ev env y = some (.int kd i)) (ht : arrElem P t = some (len, e, s)) (h0 : 0 ≤ i) (h1 : i < (len : Int)) (ho : o + i.toNat * s = o') :
    VAL P n D env R G ⟨some d, .indexAddr t x y, ty, pos, af, none⟩ (.pointer (some ⟨b, o', none⟩)) := fun a w ha _ => by
  show ((do let z ← Instr.indexAt t (a.eval x) (a.eval y); pure (Next.value z) : Sem Next)).run P w = _
  rw [ha.eval hx, ha.eval hy]
  unfold arrElem at ht
  split at ht
  · rename_i n' e' hu
    obtain ⟨inf, hi, he⟩ := Option.map_eq_some_iff.1 ht
    simp only [Prod.mk.injEq] at he
    obtain ⟨rfl, rfl, rfl⟩ := he
    have hsz : (sizeOf e').run P w = .ok inf.size w := by unfold sizeOf; rw [run_bind_ok (run_typeInfo hi)]; rfl
    have : (Instr.indexAt t (.pointer (some ⟨b, o, none⟩)) (.int kd i)).run P w = .ok (.pointer (some ⟨b, o', none⟩)) w := by
      simp [Instr.indexAt, asIntOf, run_underlying hu, Instr.sureAddr, h0, h1, hsz, add_mk, ho]
    rw [run_bind_ok this]; rfl
  · cases ht
theorem v_field {t x d j off ty pos af} {cs : List Value} {v : Value} (hx : ev env x = some (.agg cs.toArray)) (ht : fieldOne P t j = some off) (hv : cs[off]? = some v) : VAL P n D env R G ⟨some d, .field t x j, ty, pos, af, none⟩ v := fun a w ha _ => by
  show ((do let z ← Instr.field t (a.eval x) j; pure (Next.value z) : Sem Next)).run P w = _
  rw [ha.eval hx]
  unfold fieldOne at ht
  split at ht
  · rename_i fs hu
    split at ht
    · rename_i f hf
      split at ht
      · rename_i sz hl
        cases ht
        have : (Instr.field t (.agg cs.toArray) j).run P w = .ok v w := by
          unfold Instr.field
          rw [run_bind_ok (run_underlying hu w)]
          simp only [hf]
          have h2 : (part f.type cs.toArray f.offset).run P w = .ok v w := by
            unfold part
            rw [run_bind_ok (run_isAgg hl)]
            simp [hv]
          exact h2
        rw [run_bind_ok this]; rfl
      · cases ht
    · cases ht
  · cases ht
theorem v_idxA {t x y d ty pos af} {len : Nat} {cs : List Value} {i : Int} {kd : IntKind} {v : Value} (hx : ev env x = some (.agg cs.toArray)) (hy : ev env y = some (.int kd i)) (ht : arrOne P t = some len) (h0 : 0 ≤ i) (h1 : i < (len : Int)) (hv : cs[i.toNat]? = some v) :
    VAL P n D env R G ⟨some d, .index t x y, ty, pos, af, none⟩ v := fun a w ha _ => by
  show ((do let z ← Instr.index t (a.eval x) (a.eval y); pure (Next.value z) : Sem Next)).run P w = _
  rw [ha.eval hx, ha.eval hy]
  unfold arrOne at ht
  split at ht
  · rename_i n' e' hu
    split at ht
    · rename_i hl
      cases ht
      have : (Instr.index t (.agg cs.toArray) (.int kd i)).run P w = .ok v w := by
        unfold Instr.index
        have ha : (asIntOf (.int kd i)).run P w = .ok (kd, i) w := rfl
        rw [run_bind_ok ha, run_bind_ok (run_underlying hu w)]
        simp only []
        rw [if_pos ⟨h0, h1⟩, run_bind_ok (run_sizeOf hl)]
        have h2 : (part e' cs.toArray (i.toNat * 1)).run P w = .ok v w := by
          unfold part
          rw [run_bind_ok (run_isAgg hl)]
          simp [hv]
        exact h2
      rw [run_bind_ok this]; rfl
    · cases ht
  · cases ht
theorem v_mkI {t x d v ty pos af} (hx : ev env x = some v) (ht : noIface P t = true) : VAL P n D env R G ⟨some d, .makeInterface t x, ty, pos, af, none⟩ (.iface t v) := fun a w ha _ => by
  show ((do let z ← Instr.makeInterface t (a.eval x); pure (Next.value z) : Sem Next)).run P w = _
  rw [ha.eval hx]
  unfold noIface at ht
  have : (Instr.makeInterface t v).run P w = .ok (.iface t v) w := by
    unfold Instr.makeInterface
    split at ht
    · cases ht
    · rename_i d' hne hu
      rw [run_bind_ok (run_underlying hu w)]
      cases d' <;> first | rfl | exact absurd rfl (hne _)
    · cases ht
  rw [run_bind_ok this]; rfl
theorem v_mkF {fn xs vs d ty pos af} (hv : evs env xs = some vs) : VAL P n D env R G ⟨some d, .makeFunc fn #[] xs.toArray, ty, pos, af, none⟩ (.func fn #[] vs.toArray) := fun a w ha _ => by
  show ((do let z ← Instr.makeFunc fn ((#[] : Array Operand).map a.eval) (xs.toArray.map a.eval); pure (Next.value z) : Sem Next)).run P w = _
  have e : xs.toArray.map a.eval = vs.toArray := by rw [← evs_map ha hv]; simp
  rw [e]; simp [Instr.makeFunc, pure]

theorem mem_lookup {κ : Type} [DecidableEq κ] {K : KeyK κ} {t x y d b ty pos af} {ks : List κ} {k : κ} (ht : mapInfo K P t = true) (hG : Res.set K b ks ∈ G) (hx : ev env x = some (.map (some b))) (hy : ev env y = some (K.enc k)) :
    VAL P n D env R G ⟨some d, .lookup t x y false, ty, pos, af, none⟩ (.bool (decide (k ∈ ks))) := by
  obtain ⟨i, hi⟩ := List.mem_iff_getElem?.1 hG
  exact v_lookup i ht hi hx hy

/-! ### Calls whose callee is found at run time -/
/-- The operation enters function f at vs. -/
def Goes (P : Program) (n : Nat) (D : List Deferred) (env : List (Nat × Value)) (op : Op) (f : FuncId) (vs : List Value) : Prop :=
  ∀ a dst ty pos af w, Env n D env a → (execOp a.eval ⟨dst, op, ty, pos, af, none⟩).run P w = .ok (.enter f vs.toArray) w

theorem goes_fun {x : Operand} {f : FuncId} {at_ : Array TypeId} {xs : List Operand} {vs : List Value} {cap : Array Value} (hc : Callable P f) (hx : ev env x = some (.func (.func f) #[] cap)) (hv : evs env xs = some vs) :
    Goes P n D env (.call { callee := .value x, args := xs.toArray, argTypes := at_ }) f (vs ++ cap.toList) := fun a dst ty pos af w ha => by
  have e : xs.toArray.map a.eval = vs.toArray := by rw [← evs_map ha hv]; simp
  have e2 : (execOp a.eval ⟨dst, .call { callee := .value x, args := xs.toArray, argTypes := at_ }, ty, pos, af, none⟩) = (do callFunc f (#[] ++ vs.toArray ++ cap) : Sem Next) := by
    simp [execOp, resolve, e, ha.eval hx, Deferred.ofValue, invoke]
  rw [e2, run_callFunc hc]
  simp
theorem goes_inv {x : Operand} {name : String} {f t : Nat} {v : Value} {at_ : Array TypeId} {xs : List Operand} {vs : List Value} (hm : mrow P t name = some f) (hc : Callable P f) (hx : ev env x = some (.iface t v)) (hv : evs env xs = some vs) :
    Goes P n D env (.call { callee := .invoke x name, args := xs.toArray, argTypes := at_ }) f (v :: vs) := fun a dst ty pos af w ha => by
  have e : xs.toArray.map a.eval = vs.toArray := by rw [← evs_map ha hv]; simp
  unfold mrow at hm
  split at hm
  · rename_i inf hi
    split at hm
    · rename_i m hf
      split at hm
      · rename_i f' fs hfu hu
        split at hm
        · rename_i hp
          cases hm
          have hmeth : (method (P.types.size + Made.depth) t v name).run P w = .ok (f, v) w := by
            have hd : P.types.size + Made.depth = (P.types.size + (Made.depth - 1)) + 1 := by unfold Made.depth; omega
            rw [hd]
            unfold method
            rw [run_bind_ok (run_typeInfo hi)]
            rw [hf]
            have hpl : m.path.toList = [] := by simpa using hp
            simp only []
            rw [hpl]
            have h1 : (follow [] t (.val v)).run P w = .ok (t, .val v) w := rfl
            rw [run_bind_ok h1]
            simp only [hfu]
            have h2 : (receiverAt t (.val v) false (if m.path.isEmpty = true then some ((name.splitOn ".").getLastD name) else none)).run P w = .ok v w := by
              unfold receiverAt
              rw [run_bind_ok (run_underlying hu w)]
              rfl
            rw [run_bind_ok h2]; rfl
          have e2 : (execOp a.eval ⟨dst, .call { callee := .invoke x name, args := xs.toArray, argTypes := at_ }, ty, pos, af, none⟩) = callMethod (.iface t v) name vs.toArray := by
            simp [execOp, resolve, e, ha.eval hx, invoke]
          rw [e2]
          unfold callMethod
          have h3 : (program).run P w = .ok P w := rfl
          simp only []
          rw [run_bind_ok h3, run_bind_ok hmeth]
          simp only []
          rw [run_callFunc hc]
          simp
        · cases hm
      · cases hm
    · cases hm
  · cases hm

theorem tl_callvG {f d ty pos af vs v} {op : Op} {G' : List Res} (hg : Goes P n D env op f vs) (hk : ∀ w, Own w R G → Calls P f vs.toArray w (Gives R G' v)) (hn : Nat.blt d n = true)
    (k : TL P ops Q rest n D ((d, v) :: env) R G') : TL P ops Q (⟨some d, op, ty, pos, af, none⟩ :: rest) n D env R G := by
  intro a w ha hw
  refine wpList_plain rfl fun K hK => ?_
  unfold Oper.wp
  rw [hg a _ _ _ _ w ha]
  simp only [Oper.upon]
  refine (hk w hw).mono ?_
  rintro e w' ⟨rfl, ho⟩
  exact hK _ _ (k _ _ (ha.put (Nat.le_of_ble_eq_true hn)) ho)
theorem tl_calloG {f d ty pos af vs} {op : Op} {φ : Value → RO → List Res → Prop} {G1 : List Res} (hg : Goes P n D env op f vs) (hk : ∀ w, Own w R G → Calls P f vs.toArray w (RetO R G1 φ)) (hn : Nat.blt d n = true)
    (k : ∀ v R' L, R.le R' → φ v R' L → TL P ops Q rest n D ((d, v) :: env) R' (L ++ G1)) : TL P ops Q (⟨some d, op, ty, pos, af, none⟩ :: rest) n D env R G := by
  intro a w ha hw
  refine wpList_plain rfl fun K hK => ?_
  unfold Oper.wp
  rw [hg a _ _ _ _ w ha]
  simp only [Oper.upon]
  refine (hk w hw).mono ?_
  rintro e w' ⟨v, R', L, rfl, hle, ho, hp⟩
  exact hK _ _ (k v R' L hle hp _ _ (ha.put (Nat.le_of_ble_eq_true hn)) ho)
theorem tq_callvG {Qf : Act → Prop} {f d ty pos af vs v} {op : Op} (hg : Goes P n D env op f vs) (hk : ∀ w, Own w R G → Calls P f vs.toArray w (Gives R G v)) (hn : Nat.blt d n = true)
    (k : TQ P ops Qf rest n D ((d, v) :: env) R G) : TQ P ops Qf (⟨some d, op, ty, pos, af, none⟩ :: rest) n D env R G := by
  intro a ha
  show if Region.wanted _ (yielded ops a.tmps) then _ else _
  rw [if_pos (by simp [Region.wanted])]
  refine ⟨v, fun w hw => ?_, k _ (ha.put (Nat.le_of_ble_eq_true hn))⟩
  unfold Oper.quietAt
  rw [hg a _ _ _ _ w ha]
  exact ⟨rfl, (hk w hw).mono fun e w' h => h⟩

/-! ### append(nil, make([]T, k)...), s[:m], clear(s[m:]) -/
theorem zeroCells_one {v : Value} (h : v.cells = #[v]) (k : Nat) : (Builtin.zeroCells v.cells k).toList = List.replicate k v := by
  unfold Builtin.zeroCells
  rw [h]
  simp only [Array.toList_map, Array.toList_range]
  apply List.ext_getElem?
  intro i
  simp only [List.getElem?_map, List.getElem?_replicate, List.getElem?_range']
  by_cases hi : i < k
  · simp [hi, Nat.mod_one]
  · simp [hi]
theorem zeroCells_size {v : Value} (h : v.cells = #[v]) (k : Nat) : (Builtin.zeroCells v.cells k).size = k := by
  have := congrArg List.length (zeroCells_one h k)
  simpa using this
/-- A type of one cell that is a number. -/
def isInt (P : Program) (t : TypeId) : Bool := match P.underlying t with | some (.int _) => true | _ => false
theorem tl_appz {t tn e by_ : Nat} {z0 : Value} {d : Nat} {ty pos af} {s x : Operand} {k : Nat} {kq : IntKind} (hi : apInfo P t = some (e, 1, by_, [z0])) (htn : isInt P tn = true) (h1 : z0.cells = #[z0]) (hs : ev env s = some (.slice none 0 0)) (hx : ev env x = some (.int kq (k : Int)))
    (h0 : 0 < k) (hk : k ≤ 1000000000) (hby : Nat.ble by_ 1000 = true) (hn : Nat.blt d n = true)
    (kont : ∀ A' c', TL P ops Q rest n D ((d, .slice A' k c') :: env) R (.vec (.slice A' k c') k e 1 (List.replicate k z0) :: G)) : TL P ops Q (⟨some d, .call { callee := .builtin .append, args := #[s, x], argTypes := #[t, tn] }, ty, pos, af, none⟩ :: rest) n D env R G := by
  intro a w ha hw
  obtain ⟨hu, inf, z, hinf, hz, hsz, hbytes, hzs, hpos⟩ := apInfo_spec hi
  have hzz : z.cells = #[z0] := by
    unfold apInfo at hi
    rw [hu] at hi
    simp only [hinf, hz] at hi
    split at hi
    · simp only [Option.some.injEq, Prod.mk.injEq] at hi
      have := hi.2.2.2
      apply Array.ext'
      simpa using this
    · cases hi
  unfold isInt at htn
  split at htn
  · rename_i kn hun
    have hb2 := Nat.le_of_ble_eq_true hby
    have hmul : k * inf.bytes ≤ k * 1000 := Nat.mul_le_mul_left _ (by omega)
    have hr := Lib.run_append_nil_zeros (P := P) w t tn ty e inf z kq kn hu hun hinf hz k h0 (by omega) (by omega) (by omega)
    refine wpList_plain rfl fun K hK => ?_
    have hrun : (execOp a.eval ⟨some d, .call { callee := .builtin .append, args := #[s, x], argTypes := #[t, tn] }, ty, pos, af, none⟩).run P w = .ok (.value (.slice (some ⟨w.heap.size, 0, none⟩) k (grownCap w k 0 e))) (w.drew.alloc (.cells (Builtin.zeroCells z.cells k ++ Builtin.zeroCells z.cells (grownCap w k 0 e - k)) e)) := by
      simp [execOp, resolve, invoke, builtin, ha.eval hs, ha.eval hx, hr]
    unfold Oper.wp
    rw [hrun]
    have hcap : k ≤ grownCap w k 0 e ∧ grownCap w k 0 e ≤ maxLen := ⟨grownCap_ge w k 0 e, grownCap_le_maxLen w k 0 e (by simp only [maxLen]; omega)⟩
    have hc2 : z0.cells = z.cells := by rw [h1, hzz]
    refine hK _ _ (kont _ _ _ _ (ha.put (Nat.le_of_ble_eq_true hn)) (Own.new hw rfl rfl rfl (fun b hb => ?_) ?_ fun b hb => ?_))
    · exact heap_alloc_old w.drew _ hb
    · refine ⟨by simp, .inr ⟨w.heap.size, grownCap w k 0 e, _, rfl, Nat.zero_le _, heap_alloc_new w.drew _, hcap.1, hcap.2, ?_, ?_⟩⟩
      · rw [← hc2, Array.size_append, zeroCells_size h1, zeroCells_size h1]; omega
      · rw [← hc2, Array.toList_append, zeroCells_one h1, Nat.mul_one, List.take_append_of_le_length (by simp), List.take_of_length_le (by simp)]
    · have : w.heap.size = b := by simpa [Res.vec, Value.ownBlock] using hb
      omega
  · cases htn

/-- x[:m], which takes x's place. -/
theorem tl_truncV {t e x sz d ty pos af} {high : Operand} {A : Option Addr} {len cap T m : Nat} {cs : List Value} (g : Nat) (hG : G[g]? = some (.vec (.slice A len cap) len T sz cs)) (hx : ev env x = some (.slice A len cap)) (ht : slElem P t = some (e, sz))
    (hhi : ev env high = some (.int .i64 (m : Int))) (hm : m ≤ len) (hn : Nat.blt d n = true)
    (k : TL P ops Q rest n D ((d, .slice A m cap) :: env) R (G.set g (.vec (.slice A m cap) m T sz (cs.take (m * sz))))) : TL P ops Q (⟨some d, .slice t x none (some high) none, ty, pos, af, none⟩ :: rest) n D env R G := by
  intro a w ha hw
  have hv := v_sliceV (P := P) (n := n) (D := D) (R := R) (d := d) (ty := ty) (pos := pos) (af := af) (low := none) (high := some high) 0 m g hG hx ht rfl hhi (Nat.zero_le _) hm a w ha hw
  have hown : w.ownsRow 0 T sz (.slice A len cap) len cs := hw.holds _ (List.mem_of_getElem? hG)
  have hA : cutA A cap 0 sz = A := by
    unfold cutA
    split
    · rfl
    · rcases hown.2 with ⟨h2, h3⟩ | ⟨b, cap', cur, hv', _⟩
      · simp at h2; rw [h2.1]; rfl
      · simp at hv'; rw [hv'.1]; simp [add_mk]
  rw [hA] at hv
  simp only [Nat.sub_zero] at hv
  refine wpList_plain rfl fun K hK => ?_
  unfold Oper.wp
  rw [hv]
  have hnew : w.ownsRow 0 T sz (.slice A m cap) m (cs.take (m * sz)) := by
    have hle : m * sz ≤ len * sz := Nat.mul_le_mul_right _ hm
    refine ⟨by rw [List.length_take, hown.1]; omega, ?_⟩
    rcases hown.2 with ⟨h2, h3⟩ | ⟨b, cap', cur, hv', h1, h2, h3, h4, h5, h6⟩
    · simp at h2
      have : m = 0 := by omega
      subst this
      exact .inl ⟨by rw [h2.1, h2.2.2], rfl⟩
    · simp at hv'
      refine .inr ⟨b, cap', cur, by rw [hv'.1, hv'.2], h1, h2, by omega, h4, h5, ?_⟩
      rw [← h6, List.take_take, Nat.min_eq_left hle]
  refine hK _ _ (k _ _ (ha.put (Nat.le_of_ble_eq_true hn)) ?_)
  have h1 := hw.perm (pick_perm g G)
  have e1 : pick g G = .vec (.slice A len cap) len T sz cs :: G.eraseIdx g := by unfold pick; rw [hG]
  rw [e1] at h1
  have h2 : Own w R (.vec (.slice A m cap) m T sz (cs.take (m * sz)) :: G.eraseIdx g) := Own.step h1 rfl rfl rfl (fun _ _ _ => rfl) hnew fun b hb => .inl (by
    have hb : (Value.slice A m cap).ownBlock = some b := hb
    show (Value.slice A len cap).ownBlock = some b
    cases A <;> simp [Value.ownBlock] at hb ⊢; exact hb)
  refine h2.perm ?_
  clear h1 h2 hv hown hnew k hA e1 hx
  induction G generalizing g with
  | nil => simp at hG
  | cons r G ih =>
    cases g with
    | zero => exact List.Perm.refl _
    | succ g => exact (List.Perm.swap r _ _).trans ((ih (hw := hw.tail) g (by simpa using hG)).cons r)

/-- clear(x[lo:]) of a slice of ours, of elements of one cell. -/
theorem tl_clearV {t e x ty pos af by_} {z0 : Value} {A : Option Addr} {len cap T lo : Nat} {cs : List Value} (g : Nat) (hi : apInfo P t = some (e, 1, by_, [z0])) (h1 : z0.cells = #[z0]) (h2 : one z0 = true) (hG : G[g]? = some (.vec (.slice A len cap) len T 1 cs))
    (hx : ev env x = some (.slice (cutA A cap lo 1) (len - lo) (cap - lo))) (hlo : lo ≤ len)
    (k : TL P ops Q rest n D env R (G.set g (.vec (.slice A len cap) len T 1 (cs.take lo ++ List.replicate (len - lo) z0)))) : TL P ops Q (⟨none, .call { callee := .builtin .clear, args := #[x], argTypes := #[t] }, ty, pos, af, none⟩ :: rest) n D env R G := by
  intro a w ha hw
  obtain ⟨hu, inf, z, hinf, hz, hsz, hbytes, hzs, hpos⟩ := apInfo_spec hi
  have hzz : z.cells = #[z0] := by
    unfold apInfo at hi
    rw [hu] at hi
    simp only [hinf, hz] at hi
    split at hi
    · simp only [Option.some.injEq, Prod.mk.injEq] at hi
      have := hi.2.2.2
      apply Array.ext'
      simpa using this
    · cases hi
  have hc2 : z.cells = z0.cells := by rw [h1, hzz]
  have hown : w.ownsRow 0 T 1 (.slice A len cap) len cs := hw.holds _ (List.mem_of_getElem? hG)
  refine wpList_plain rfl fun K hK => ?_
  unfold Oper.wp
  rcases Nat.eq_zero_or_pos (len - lo) with h0 | h0
  · have hrun : (execOp a.eval ⟨none, .call { callee := .builtin .clear, args := #[x], argTypes := #[t] }, ty, pos, af, none⟩).run P w = .ok (.value (.tuple #[])) w := by
      rw [h0] at hx
      have : (Builtin.clear_ #[t] ty #[.slice (cutA A cap lo 1) 0 (cap - lo)]).run P w = .ok (.tuple #[]) w := by
        simp only [Builtin.clear_, List.getElem?_toArray, List.getElem?_cons_zero]
        rw [run_bind_ok (run_underlying hu w)]
        cases hcu : cutA A cap lo 1 <;> rfl
      simp [execOp, resolve, invoke, builtin, ha.eval hx]
      rw [this]; rfl
    rw [hrun]
    have hcs : cs.take lo ++ List.replicate (len - lo) z0 = cs := by
      rw [h0, List.replicate_zero, List.append_nil, List.take_of_length_le (by rw [hown.1]; omega)]
    rw [hcs] at k
    have hset : G.set g (.vec (.slice A len cap) len T 1 cs) = G := by
      obtain ⟨hlt, he⟩ := List.getElem?_eq_some_iff.1 hG
      rw [← he, List.set_getElem_self]
    rw [hset] at k
    exact hK _ _ (k _ _ ha hw)
  · rcases hown.2 with ⟨h3, h4⟩ | ⟨b, cap', cur, hv', q1, q2, q3, q4, q5, q6⟩
    · omega
    · obtain ⟨rfl, -, rfl⟩ : A = some ⟨b, 0, none⟩ ∧ len = len ∧ cap = cap' := by simpa using hv'
      have hcut : cutA (some ⟨b, 0, none⟩) cap lo 1 = some ⟨b, lo, none⟩ := by
        unfold cutA; rw [if_neg (by omega)]; simp [add_mk]
      rw [hcut] at hx
      have hvs : (Builtin.zeroCells z.cells (len - lo)).toList = List.replicate (len - lo) z0 := by rw [hc2]; exact zeroCells_one h1 _
      obtain ⟨w', hr, a1, a2, a3, a4, a5, a6⟩ := run_storeCells (P := P) (b := b) (o := lo) (T := T) (List.replicate (len - lo) z0) cur.toList 0 w (by simpa using q2) (by simp; omega) (by simp [h2])
      have hrun : (execOp a.eval ⟨none, .call { callee := .builtin .clear, args := #[x], argTypes := #[t] }, ty, pos, af, none⟩).run P w = .ok (.value (.tuple #[])) w' := by
        have : (Builtin.clear_ #[t] ty #[.slice (some ⟨b, lo, none⟩) (len - lo) (cap - lo)]).run P w = .ok (.tuple #[]) w' := by
          simp only [Builtin.clear_, List.getElem?_toArray, List.getElem?_cons_zero]
          rw [run_bind_ok (run_underlying hu w)]
          obtain ⟨q, hq⟩ : ∃ q, len - lo = q + 1 := ⟨len - lo - 1, by omega⟩
          rw [hq] at hr hvs ⊢
          have hzv : (zeroValue e).run P w = .ok z w := by unfold zeroValue; rw [run_bind_ok (run_typeInfo hinf), hz]; rfl
          show ((do storeCells ⟨b, lo, none⟩ (Builtin.zeroCells (← zeroValue e).cells (q + 1)).toList; pure (Value.tuple #[]) : Sem Value)).run P w = _
          rw [run_bind_ok hzv, hvs, run_bind_ok hr]; rfl
        simp [execOp, resolve, invoke, builtin, ha.eval hx]
        rw [this]; rfl
      rw [hrun]
      refine hK _ _ (k _ _ ha (hw.stepAt hG a1 a2 a3 (fun y _ hy => a6 y fun e => hy (by rw [e]; rfl)) ?_ fun y hy => .inl hy))
      have hl : cur.toList.length = cap := by simpa using q5
      refine ⟨by have := hown.1; simp; omega, .inr ⟨b, cap, _, rfl, q1, a5, q3, q4, by simp [splice_length, hl], ?_⟩⟩
      rw [Nat.mul_one] at q6 ⊢
      simp only [Nat.add_zero]
      rw [splice_eq _ _ _ (by simp; omega), ← q6, List.take_take, Nat.min_eq_left hlo]
      rw [List.take_append_of_le_length (by simp; omega), List.take_of_length_le (by simp; omega)]

/-- nil[:0] -/
theorem v_sliceN {t e x sz d ty pos af} {high : Operand} (hx : ev env x = some (.slice none 0 0)) (ht : slElem P t = some (e, sz)) (hhi : ev env high = some (.int .i64 0)) :
    VAL P n D env R G ⟨some d, .slice t x none (some high) none, ty, pos, af, none⟩ (.slice none 0 0) := fun a w ha hw => by
  unfold slElem at ht
  split at ht
  · rename_i e' hu
    cases hi' : P.info? e' with
    | none => rw [hi'] at ht; cases ht
    | some inf =>
      have hsz : (sizeOf e').run P w = .ok inf.size w := by unfold sizeOf; rw [run_bind_ok (run_typeInfo hi')]; rfl
      show ((do let z ← Instr.sliceAt t (a.eval x) ((none : Option Operand).map a.eval) ((some high).map a.eval) ((none : Option Operand).map a.eval); pure (Next.value z) : Sem Next)).run P w = _
      rw [ha.eval hx]
      have hr := run_sliceBound (P := P) (w := w) (y := 0) (i := 0) (kd := .i64) (c := .sliceAcap) (by omega) (by omega)
      have e2 : (Instr.sliceAt t (.slice none 0 0) ((none : Option Operand).map a.eval) ((some high).map a.eval) ((none : Option Operand).map a.eval)).run P w = .ok (.slice none 0 0) w := by
        unfold Instr.sliceAt
        rw [run_bind_ok (run_underlying hu w)]
        simp only [Option.map_none]
        unfold Instr.slice
        rw [run_bind_ok (run_underlying hu w)]
        simp only [Option.map_some, ha.eval hhi]
        have hb : (Instr.sliceBounds true 0 0 none (some (Value.int .i64 0)) none).run P w = .ok (0, 0, 0) w := by
          simp [Instr.sliceBounds, hr]
        rw [run_bind_ok hb]
        simp only []
        rw [run_bind_ok hsz]
        rfl
      rw [run_bind_ok e2]; rfl
  · cases ht
end
section
variable {P : Program} {n : Nat} {D : List Deferred} {env env' : List (Nat × Value)} {R : RO} {G G' : List Res} {Q : Exit → Act → World → Prop} {ops : Array Oper} {rest : List Oper} {o : Oper}
/-- Loads out of a block that somebody owns. -/
theorem mem_ld {t x d b o s ty pos af} {l : List Value} {T : TypeId} {v : Value} (hG : Res.blk b l T ∈ G) (hx : ev env x = some (.pointer (some ⟨b, o, none⟩))) (ht : ldInfo P t = some (false, s)) (hl : l[o]? = some v) : VAL P n D env R G ⟨some d, .load t x, ty, pos, af, none⟩ v := by
  obtain ⟨i, hi⟩ := List.mem_iff_getElem?.1 hG
  exact v_ld i hx ht hi hl
theorem mem_ld_agg {t x d b o ty pos af} {l : List Value} {T : TypeId} (l' : List Value) (hG : Res.blk b l T ∈ G) (hx : ev env x = some (.pointer (some ⟨b, o, none⟩))) (ht : ldInfo P t = some (true, l'.length)) (hl : (l.drop o).take l'.length = l') : VAL P n D env R G ⟨some d, .load t x, ty, pos, af, none⟩ (.agg l'.toArray) := by
  obtain ⟨i, hi⟩ := List.mem_iff_getElem?.1 hG
  exact v_ld_agg i l' hx ht hi hl
end
theorem wrap_rng (x : Int) : i64 (IntKind.i64.wrap x) := by unfold i64; rw [IntKind.wrap_i64]; omega
theorem reps_repl {α} {k : Kd α} {R : RO} {x : α} {v : Value} (h : k.rep R x [v]) : ∀ m : Nat, k.reps R (List.replicate m x) (List.replicate m v)
  | 0 => rfl
  | m + 1 => ⟨[v], List.replicate m v, rfl, h, reps_repl h m⟩
theorem reps_clear {α} {k : Kd α} {R : RO} {l : List α} {cs : List Value} {x : α} {v : Value} (hsz : k.sz = 1) (hl : k.reps R l cs) (h : k.rep R x [v]) (a m : Nat) : k.reps R (l.take a ++ List.replicate m x) (cs.take a ++ List.replicate m v) := by
  have := Kd.reps_take a hl
  rw [hsz, Nat.mul_one] at this
  exact Kd.reps_append this (reps_repl h m)
end Go.Proofs.YtcbcdlajnmkioaaGreatDoor
