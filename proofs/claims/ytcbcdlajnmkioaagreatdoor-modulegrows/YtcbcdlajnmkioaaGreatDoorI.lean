/- A part of the proof of the statement ModuleGrows of isagogelaw19: functions walked, and plain laws on what they answer. -/
import Derived.Test.YtcbcdlajnmkioaaGreatDoorH
namespace Go.Proofs.YtcbcdlajnmkioaaGreatDoor
open Go Go.Proofs
set_option linter.unusedSimpArgs false
set_option linter.unusedVariables false
theorem ap25 : apInfo Tryz.prog 25 = some (92, 6, 80, [.int .i64 0, .int .i64 0, .slice none 0 0, .int .i64 0, .int .i64 0, .slice none 0 0]) := by kernel_rfl
theorem ap26 : apInfo Tryz.prog 26 = some (84, 2, 16, [.int .i64 0, .int .i64 0]) := by kernel_rfl
theorem ap27 : apInfo Tryz.prog 27 = some (87, 4, 48, [.int .i64 0, .int .i64 0, .int .i64 0, .slice none 0 0]) := by kernel_rfl
theorem ap28 : apInfo Tryz.prog 28 = some (89, 3, 24, [.int .i64 0, .int .i64 0, .int .i64 0]) := by kernel_rfl
theorem ca43 : Callable Tryz.prog 43 := ⟨by kernel_rfl⟩
theorem pl30 : places Tryz.prog 30 = some (true, [(0, 3), (3, 1), (4, 1), (5, 1), (6, 1)], 0) := by kernel_rfl
theorem zc30 : zcells Tryz.prog 30 = some [.slice none 0 0, .slice none 0 0, .slice none 0 0, .slice none 0 0, .slice none 0 0, .slice none 0 0, .slice none 0 0] := by kernel_rfl

def keepAt {α : Type} (l : List Int) : Nat → List α → List α
  | _, [] => []
  | i, x :: xs => if (i : Int) ∈ l then x :: keepAt l (i + 1) xs else keepAt l (i + 1) xs
theorem keepAt_append {α : Type} {l : List Int} : ∀ (xs ys : List α) (i : Nat), keepAt l i (xs ++ ys) = keepAt l i xs ++ keepAt l (i + xs.length) ys
  | [], ys, i => by simp [keepAt]
  | x :: xs, ys, i => by
    simp only [List.cons_append, keepAt, keepAt_append xs ys (i + 1), List.length_cons, show i + 1 + xs.length = i + (xs.length + 1) by omega]
    split <;> simp
theorem keepAt_yes {α : Type} {l : List Int} {xs : List α} {i k : Nat} {x : α} (h : xs[k]? = some x) (hm : ((i + k : Nat) : Int) ∈ l) : keepAt l i (xs.take (k + 1)) = keepAt l i (xs.take k) ++ [x] := by
  have hk := (List.getElem?_eq_some_iff.1 h).1
  rw [take_succ_at h, keepAt_append, List.length_take, Nat.min_eq_left (by omega)]
  simp only [keepAt]; rw [if_pos hm]
theorem keepAt_no {α : Type} {l : List Int} {xs : List α} {i k : Nat} {x : α} (h : xs[k]? = some x) (hm : ¬ ((i + k : Nat) : Int) ∈ l) : keepAt l i (xs.take (k + 1)) = keepAt l i (xs.take k) := by
  have hk := (List.getElem?_eq_some_iff.1 h).1
  rw [take_succ_at h, keepAt_append, List.length_take, Nat.min_eq_left (by omega)]
  simp only [keepAt]; rw [if_neg hm]; simp
def onlyB (b : Base) (l : List Int) : Base := ⟨b.names, keepAt l 0 b.incls, keepAt l b.incls.length b.roles, keepAt l (b.incls.length + b.roles.length) b.facts, keepAt l (b.incls.length + b.roles.length + b.facts.length) b.links⟩

end Go.Proofs.YtcbcdlajnmkioaaGreatDoor
