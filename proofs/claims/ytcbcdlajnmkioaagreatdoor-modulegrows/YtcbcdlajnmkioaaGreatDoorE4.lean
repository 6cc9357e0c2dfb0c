/- A part of the proof of the statement ModuleGrows of isagogelaw19: rules by which code is walked. -/
import Derived.Test.YtcbcdlajnmkioaaGreatDoorE3
import Derived.Deep.Quiet
import Derived.StillTail
namespace Go.Proofs.YtcbcdlajnmkioaaGreatDoor
open Go
set_option linter.unusedVariables false
set_option linter.unusedSimpArgs false

/-! ## 6. Regions that draw their order -/
section
variable {P : Program} {n : Nat} {D : List Deferred} {env env' : List (Nat × Value)} {R : RO} {G G' : List Res} {Q : Exit → Act → World → Prop} {ops : Array Oper} {rest : List Oper} {o : Oper}

/-- All operations yield a value that hangs on no order, and leave what is told as it is. -/
def TQ (P : Program) (ops : Array Oper) (Qf : Act → Prop) (rest : List Oper) (n : Nat) (D : List Deferred) (env : List (Nat × Value)) (R : RO) (G : List Res) : Prop :=
  ∀ a, Env n D env a → wpQuiet P ops (fun w => Own w R G) Qf rest a

theorem tc_quiet {i : Nat} {l : List Oper} (hm : P.follows .mixedOrders = true) (hB : Region.lexB .any l.toArray = true)
    (h : TQ P l.toArray (fun a' => ∀ w', Own w' R G → Q .normal a' w') l n D env R G) : TC P (.region i l.toArray true) Q n D env R G :=
  fun a w ha hw => wp_region_quiet hm hB (hw.drew _) (by simpa using h a ha)

theorem tq {Qf : Act → Prop} {d : Nat} {op : Op} {ty : TypeId} {pos : String} {af : Array Edge} {v : Value} (h : VAL P n D env R G ⟨some d, op, ty, pos, af, none⟩ v)
    (k : TQ P ops Qf rest n D ((d, v) :: env) R G) (hn : Nat.blt d n = true := by rfl) : TQ P ops Qf (⟨some d, op, ty, pos, af, none⟩ :: rest) n D env R G := by
  intro a ha
  show if Region.wanted _ (yielded ops a.tmps) then _ else _
  rw [if_pos (by simp [Region.wanted])]
  refine ⟨v, fun w hw => ?_, ?_⟩
  · unfold Oper.quietAt
    rw [h a w ha hw]; exact ⟨rfl, rfl⟩
  · exact k _ (ha.put (Nat.le_of_ble_eq_true hn))

theorem tq_callv {Qf : Act → Prop} {f d ty pos af at_ xs vs v} (hc : Callable P f) (hv : evs env xs = some vs) (hk : ∀ w, Own w R G → Calls P f vs.toArray w (Gives R G v)) (hn : Nat.blt d n = true)
    (k : TQ P ops Qf rest n D ((d, v) :: env) R G) : TQ P ops Qf (⟨some d, .call { callee := .value (.func f), args := xs.toArray, argTypes := at_ }, ty, pos, af, none⟩ :: rest) n D env R G := by
  intro a ha
  show if Region.wanted _ (yielded ops a.tmps) then _ else _
  rw [if_pos (by simp [Region.wanted])]
  refine ⟨v, fun w hw => ?_, k _ (ha.put (Nat.le_of_ble_eq_true hn))⟩
  unfold Oper.quietAt
  rw [run_call ha hc hv]
  exact ⟨rfl, (hk w hw).mono fun e w' h => h⟩

theorem tq_grun {Qf : Act → Prop} {dst : Option Nat} {op ty pos af j want} (d0 : Nat) (hj : (ops[j]?).bind (·.dst) = some d0) (hv : lk env d0 = some (.bool want))
    (h : TQ P ops Qf (⟨dst, op, ty, pos, af, none⟩ :: rest) n D env R G) : TQ P ops Qf (⟨dst, op, ty, pos, af, some (j, want)⟩ :: rest) n D env R G := by
  intro a ha
  have h := h a ha
  have h : (if Region.wanted (⟨dst, op, ty, pos, af, none⟩ : Oper) (yielded ops a.tmps) then _ else _ : Prop) := h
  show if Region.wanted _ (yielded ops a.tmps) then _ else _
  rw [guard_wanted ha hj hv]
  rw [if_pos (by simp [Region.wanted])] at h
  rw [if_pos (by simp)]
  exact h
theorem tq_gskip {Qf : Act → Prop} {dst op ty pos af j want} (d0 : Nat) (hj : (ops[j]?).bind (·.dst) = some d0) (hv : lk env d0 = some (.bool (!want))) (hn : Nat.blt dst n = true)
    (h : TQ P ops Qf rest n D ((dst, undef) :: env) R G) : TQ P ops Qf (⟨some dst, op, ty, pos, af, some (j, want)⟩ :: rest) n D env R G := by
  intro a ha
  show if Region.wanted _ (yielded ops a.tmps) then _ else _
  rw [guard_wanted ha hj hv, if_neg (by cases want <;> simp)]
  exact h _ (ha.put (Nat.le_of_ble_eq_true hn))
theorem tq_gskipu {Qf : Act → Prop} {dst op ty pos af j want} (d0 : Nat) (hj : (ops[j]?).bind (·.dst) = some d0) (hv : lk env d0 = some undef) (hn : Nat.blt dst n = true)
    (h : TQ P ops Qf rest n D ((dst, undef) :: env) R G) : TQ P ops Qf (⟨some dst, op, ty, pos, af, some (j, want)⟩ :: rest) n D env R G := by
  intro a ha
  have hy : yielded ops a.tmps j = none := by
    unfold yielded
    rw [hj, Option.bind_some, ha.get _ _ hv]; rfl
  show if Region.wanted _ (yielded ops a.tmps) then _ else _
  rw [if_neg (by simp [Region.wanted, hy])]
  exact h _ (ha.put (Nat.le_of_ble_eq_true hn))
theorem tq_split {Qf : Act → Prop} {p : Prop} [Decidable p] (d0 : Nat) (hv : lk env d0 = some (.bool (decide p))) (h1 : p → TQ P ops Qf rest n D ((d0, .bool true) :: env) R G) (h2 : ¬ p → TQ P ops Qf rest n D ((d0, .bool false) :: env) R G) : TQ P ops Qf rest n D env R G := by
  intro a ha
  by_cases k : p
  · refine h1 k a ⟨ha.size, ha.defers, fun t v e => ?_⟩
    by_cases e' : d0 = t
    · subst e'; rw [lk_cons_eq] at e; cases e; rw [ha.get _ _ hv]; simp [k]
    · rw [lk_cons_ne e'] at e; exact ha.get t v e
  · refine h2 k a ⟨ha.size, ha.defers, fun t v e => ?_⟩
    by_cases e' : d0 = t
    · subst e'; rw [lk_cons_eq] at e; cases e; rw [ha.get _ _ hv]; simp [k]
    · rw [lk_cons_ne e'] at e; exact ha.get t v e
theorem tq_splitb {Qf : Act → Prop} {t : Bool} (d0 : Nat) (hv : lk env d0 = some (.bool t)) (h1 : t = true → TQ P ops Qf rest n D ((d0, .bool true) :: env) R G) (h2 : t = false → TQ P ops Qf rest n D ((d0, .bool false) :: env) R G) : TQ P ops Qf rest n D env R G :=
  tq_split (p := t = true) d0 (by rw [hv]; cases t <;> rfl) h1 fun h => h2 (by simpa using h)

theorem tq_nil (h : TX Q .normal n D env R G) : TQ P ops (fun a' => ∀ w', Own w' R G → Q .normal a' w') [] n D env R G := fun a ha => wpQuiet_nil fun w hw => h a w ha hw

/-- The same, and behind it the region's last operations one by one: what is written is written last. -/
def TS (P : Program) (ops : Array Oper) (Lq : World → Act → Prop) (rest : List Oper) (n : Nat) (D : List Deferred) (env : List (Nat × Value)) (R : RO) (G : List Res) : Prop :=
  ∀ a w, Env n D env a → Own w R G → wpStill P ops w (Lq w) rest a

theorem tc_still {i : Nat} {l : List Oper} (m : Nat) (hm : P.follows .mixedOrders = true) (hB : Region.lexTailB .any l.toArray m = true)
    (h : TS P l.toArray (fun w a' => wpList P l.toArray Q (l.drop m) a' w) (l.take m) n D env R G) : TC P (.region i l.toArray true) Q n D env R G :=
  fun a w ha hw => wp_region_still_tail m hm hB (h a _ ha (hw.drew _))

theorem ts {Lq : World → Act → Prop} {d : Nat} {op : Op} {ty : TypeId} {pos : String} {af : Array Edge} {v : Value} (h : VAL P n D env R G ⟨some d, op, ty, pos, af, none⟩ v)
    (k : TS P ops Lq rest n D ((d, v) :: env) R G) (hn : Nat.blt d n = true := by rfl) : TS P ops Lq (⟨some d, op, ty, pos, af, none⟩ :: rest) n D env R G := by
  intro a w ha hw
  show if Region.wanted _ (yielded ops a.tmps) then _ else _
  rw [if_pos (by simp [Region.wanted])]
  unfold Oper.still
  rw [h a w ha hw, Oper.stillUpon_value]
  exact k _ _ (ha.put (Nat.le_of_ble_eq_true hn)) hw

theorem ts_nil {l : List Oper} (h : TL P ops Q l n D env R G) : TS P ops (fun w a' => wpList P ops Q l a' w) [] n D env R G := fun a w ha hw => h a w ha hw
end
end Go.Proofs.YtcbcdlajnmkioaaGreatDoor
