/- A part of the proof of the statement ModuleGrows of isagogelaw19: functions walked, and plain laws on what they answer. -/
import Derived.Test.YtcbcdlajnmkioaaGreatDoorO
namespace Go.Proofs.YtcbcdlajnmkioaaGreatDoor
open Go Go.Proofs
set_option linter.unusedSimpArgs false
set_option linter.unusedVariables false
theorem ca12 : Callable Tryz.prog 12 := ⟨by kernel_rfl⟩
theorem ca42 : Callable Tryz.prog 42 := ⟨by kernel_rfl⟩

def upTo (n : Nat) : List Int := (List.range n).map fun (i : Nat) => (i : Int)
theorem upTo_len (n : Nat) : (upTo n).length = n := by simp [upTo]
theorem upTo_snoc (n : Nat) : upTo (n + 1) = upTo n ++ [(n : Int)] := by simp [upTo, List.range_succ]
def allL (b : Base) : List Int := upTo (axiomsN b)
theorem allL_len (b : Base) : (allL b).length = axiomsN b := upTo_len _
theorem allL_mem {b : Base} {x : Int} : x ∈ allL b ↔ 0 ≤ x ∧ x < axiomsN b := by
  simp only [allL, upTo, List.mem_map, List.mem_range]
  constructor
  · rintro ⟨i, hi, rfl⟩; omega
  · rintro ⟨h1, h2⟩; exact ⟨x.toNat, by omega, by omega⟩
theorem allL_up (b : Base) : Up (allL b) := by
  unfold allL upTo Up
  rw [List.pairwise_map]
  exact List.Pairwise.imp (fun {a c} h => by omega) List.pairwise_lt_range
theorem modL_up {b : Base} {l : List Int} {s : Sig} {top : Bool} (h : Up l) : Up (modL b l s top) := by classical exact List.Pairwise.filter _ h
theorem modL_sub {b : Base} {l : List Int} {s : Sig} {top : Bool} : ∀ x ∈ modL b l s top, x ∈ l := by classical exact fun x hx => (List.mem_filter.1 hx).1
theorem modL_len {b : Base} {l : List Int} {s : Sig} {top : Bool} : (modL b l s top).length ≤ l.length := by classical exact List.length_filter_le _ _
theorem modL_ne {b : Base} {l : List Int} {s : Sig} {top : Bool} (h : ¬ modL b l s top = l) : (modL b l s top).length < l.length := by
  classical
  have h1 : (modL b l s top).Sublist l := List.filter_sublist
  rcases Nat.lt_or_ge (modL b l s top).length l.length with h2 | h2
  · exact h2
  · exact absurd (h1.eq_of_length_le h2) h
open Classical in
noncomputable def star (b : Base) (s : Sig) (same : Nat) (top : Bool) (l : List Int) : List Int :=
  if same ≥ 2 then l else star b s (if modL b l s top = l then same + 1 else 0) (!top) (modL b l s top)
  termination_by 3 * l.length + (2 - same)
  decreasing_by
  split
  · rename_i h; rw [h]; omega
  · rename_i h; have := modL_ne h; omega
theorem star_done {b : Base} {s : Sig} {same : Nat} {top : Bool} {l : List Int} (h : 2 ≤ same) : star b s same top l = l := by rw [star, if_pos h]
theorem star_same {b : Base} {s : Sig} {same : Nat} {top : Bool} {l : List Int} (h : ¬ 2 ≤ same) (he : modL b l s top = l) : star b s (same + 1) (!top) (modL b l s top) = star b s same top l := by rw [star.eq_1 b s same top l, if_neg h, if_pos he]
theorem star_other {b : Base} {s : Sig} {same : Nat} {top : Bool} {l : List Int} (h : ¬ 2 ≤ same) (he : ¬ modL b l s top = l) : star b s 0 (!top) (modL b l s top) = star b s same top l := by rw [star.eq_1 b s same top l, if_neg h, if_neg he]
noncomputable def moduleL (b : Base) (s : Sig) (kind : Int) : List Int := if kind < 2 then modL b (allL b) s (decide (kind = 1)) else star b s 0 false (allL b)

end Go.Proofs.YtcbcdlajnmkioaaGreatDoor
