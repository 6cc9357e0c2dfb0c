/- A part of the proof of the statement ModuleGrows of isagogelaw19: functions walked, and plain laws on what they answer. -/
import Derived.Test.YtcbcdlajnmkioaaGreatDoorN
namespace Go.Proofs.YtcbcdlajnmkioaaGreatDoor
open Go Go.Proofs
set_option linter.unusedSimpArgs false
set_option linter.unusedVariables false
theorem ca26 : Callable Tryz.prog 26 := ⟨by kernel_rfl⟩
theorem ca27 : Callable Tryz.prog 27 := ⟨by kernel_rfl⟩

theorem insI_len_new {n : Int} : ∀ {l : List Int}, ¬ n ∈ l → (insI l n).length = l.length + 1
  | [], _ => rfl
  | x :: xs, h => by
    unfold insI
    rw [if_neg (fun e => h (by simp [e]))]
    split
    · simp
    · have := insI_len_new (l := xs) fun k => h (List.mem_cons_of_mem _ k)
      simp [this]
theorem nodup_sub_len : ∀ {o l : List Int}, o.Nodup → (∀ x ∈ o, x ∈ l) → o.length ≤ l.length
  | [], _, _, _ => by simp
  | x :: xs, l, h, k => by
    have h' := List.nodup_cons.1 h
    have hx : x ∈ l := k x (by simp)
    have := nodup_sub_len (o := xs) (l := l.erase x) h'.2 fun y hy => (List.mem_erase_of_ne (fun e : y = x => h'.1 (e ▸ hy))).2 (k y (by simp [hy]))
    rw [List.length_erase_of_mem hx] at this
    have : 0 < l.length := List.length_pos_of_mem hx
    simp only [List.length_cons]; omega
theorem up_nodup {l : List Int} (h : Up l) : l.Nodup := List.Pairwise.imp (fun {a b} (k : a < b) => (by omega : a ≠ b)) h
theorem sig_le_refl (s : Sig) : s.le s := ⟨fun _ h => h, fun _ h => h⟩

end Go.Proofs.YtcbcdlajnmkioaaGreatDoor
