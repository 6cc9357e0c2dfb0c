/- A part of the proof of the statement ModuleGrows of isagogelaw19: functions walked, and plain laws on what they answer. -/
import Derived.Test.YtcbcdlajnmkioaaGreatDoorJ
namespace Go.Proofs.YtcbcdlajnmkioaaGreatDoor
open Go Go.Proofs
set_option linter.unusedSimpArgs false
set_option linter.unusedVariables false
theorem ca56 : Callable Tryz.prog 56 := ⟨by kernel_rfl⟩
theorem pl33 : places Tryz.prog 33 = some (true, [(0, 1), (1, 1)], 0) := by kernel_rfl

theorem namesA_len {b : Base} (h : BaseOk b) : ∀ (l : List Int) (s : Sig), (namesA b l s).concepts.length ≤ s.concepts.length + l.length * 800 ∧ (namesA b l s).roles.length ≤ s.roles.length + l.length * 800
  | [], s => by simp [namesA]
  | x :: xs, s => by
    have h1 := usesA_len h x.toNat s
    have h2 := namesA_len h xs (usesA b x.toNat s)
    have e : namesA b (x :: xs) s = namesA b xs (usesA b x.toNat s) := rfl
    rw [e]; simp only [List.length_cons, Nat.add_mul]; omega

end Go.Proofs.YtcbcdlajnmkioaaGreatDoor
