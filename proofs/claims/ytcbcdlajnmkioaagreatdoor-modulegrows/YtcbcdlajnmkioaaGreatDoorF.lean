/- A part of the proof of the statement ModuleGrows of isagogelaw19: functions walked, and plain laws on what they answer. -/
import Derived.Test.YtcbcdlajnmkioaaGreatDoorE
namespace Go.Proofs.YtcbcdlajnmkioaaGreatDoor
open Go Go.Proofs
set_option linter.unusedSimpArgs false
set_option linter.unusedVariables false
theorem ca16 : Callable Tryz.prog 16 := ⟨by kernel_rfl⟩
theorem ca97 : Callable Tryz.prog 97 := ⟨by kernel_rfl⟩

mutual
def usesC : Concept → List Int × List Int → List Int × List Int
  | .mk op n args, s => usesL args (if op = 0 then insI s.1 n else s.1, if op = 6 ∨ op = 7 then insI s.2 (n / 2) else s.2)
def usesL : List Concept → List Int × List Int → List Int × List Int
  | [], s => s
  | x :: xs, s => usesL xs (usesC x s)
end
theorem usesC_eq (c : Concept) (s : List Int × List Int) : usesC c s = usesL c.args (if c.op = 0 then insI s.1 c.n else s.1, if c.op = 6 ∨ c.op = 7 then insI s.2 (c.n / 2) else s.2) := by cases c; rw [usesC]; rfl
theorem usesL_append : ∀ (l m : List Concept) (s : List Int × List Int), usesL (l ++ m) s = usesL m (usesL l s)
  | [], m, s => by simp [usesL]
  | x :: xs, m, s => by simp only [List.cons_append, usesL, usesL_append xs m]
theorem usesL_take {l : List Concept} {i : Nat} {x : Concept} (h : l[i]? = some x) (s : List Int × List Int) : usesL (l.take (i + 1)) s = usesC x (usesL (l.take i) s) := by rw [take_succ_at h, usesL_append]; simp [usesL]
mutual
theorem usesC_len : ∀ (c : Concept) (s : List Int × List Int), (usesC c s).1.length ≤ s.1.length + nodesC c ∧ (usesC c s).2.length ≤ s.2.length + nodesC c
  | .mk op n args, s => by
    rw [usesC, nodesC]
    have h := usesL_len args (if op = 0 then insI s.1 n else s.1, if op = 6 ∨ op = 7 then insI s.2 (n / 2) else s.2)
    have h1 : (if op = 0 then insI s.1 n else s.1).length ≤ s.1.length + 1 := by split; exact insI_length; omega
    have h2 : (if op = 6 ∨ op = 7 then insI s.2 (n / 2) else s.2).length ≤ s.2.length + 1 := by split; exact insI_length; omega
    exact ⟨Nat.le_trans h.1 (by simp only; omega), Nat.le_trans h.2 (by simp only; omega)⟩
theorem usesL_len : ∀ (l : List Concept) (s : List Int × List Int), (usesL l s).1.length ≤ s.1.length + nodesL l ∧ (usesL l s).2.length ≤ s.2.length + nodesL l
  | [], s => by simp [usesL, nodesL]
  | x :: xs, s => by
    rw [usesL, nodesL]
    have h1 := usesC_len x s
    have h2 := usesL_len xs (usesC x s)
    omega
end
mutual
def nnC : Concept → Bool
  | .mk _ n args => decide (0 ≤ n) && nnCs args
def nnCs : List Concept → Bool
  | [] => true
  | x :: xs => nnC x && nnCs xs
end
theorem nnCs_iff : ∀ l : List Concept, nnCs l = true ↔ ∀ x ∈ l, nnC x = true
  | [] => by simp [nnCs]
  | x :: xs => by simp [nnCs, nnCs_iff xs]
theorem nnC_iff (c : Concept) : nnC c = true ↔ 0 ≤ c.n ∧ ∀ x ∈ c.args, nnC x = true := by
  cases c with
  | mk op a args =>
    show nnC (.mk op a args) = true ↔ 0 ≤ a ∧ ∀ x ∈ args, nnC x = true
    rw [nnC, Bool.and_eq_true, decide_eq_true_eq, nnCs_iff]
theorem shaped_nn (n : Names) (m : Nat) : ∀ c : Concept, SizeOf.sizeOf c = m → shapedB n c = true → nnC c = true := by
  induction m using Nat.strongRecOn with
  | _ m ih =>
    intro c hm h
    rw [nnC_iff]
    rw [shapedB_iff] at h
    refine ⟨h.1.2.1, fun x hx => ?_⟩
    obtain ⟨i, hi⟩ := List.mem_iff_getElem?.1 hx
    exact ih _ (hm ▸ Concept.sizeOf_arg hi) x rfl (h.2 x hx)

end Go.Proofs.YtcbcdlajnmkioaaGreatDoor
