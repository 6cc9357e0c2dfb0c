/- A part of the proof of the statement ModuleGrows of isagogelaw19: functions walked, and plain laws on what they answer. -/
import Derived.Test.YtcbcdlajnmkioaaGreatDoorK
namespace Go.Proofs.YtcbcdlajnmkioaaGreatDoor
open Go Go.Proofs
set_option linter.unusedSimpArgs false
set_option linter.unusedVariables false
theorem ap106 : apInfo Tryz.prog 106 = some (4, 1, 1, [.bool false]) := by kernel_rfl
theorem ca30 : Callable Tryz.prog 30 := ⟨by kernel_rfl⟩
theorem ld4 : ldInfo Tryz.prog 4 = some (false, 1) := by kernel_rfl
theorem sl106 : slElem Tryz.prog 106 = some (4, 1) := by kernel_rfl

mutual
def wfC : Concept → Bool
  | .mk op n args => decide (arityB op = args.length ∧ 0 ≤ n) && wfCs args
def wfCs : List Concept → Bool
  | [] => true
  | x :: xs => wfC x && wfCs xs
end
theorem wfCs_iff : ∀ l : List Concept, wfCs l = true ↔ ∀ x ∈ l, wfC x = true
  | [] => by simp [wfCs]
  | x :: xs => by simp [wfCs, wfCs_iff xs]
theorem wfC_iff (c : Concept) : wfC c = true ↔ (arityB c.op = c.args.length ∧ 0 ≤ c.n) ∧ ∀ x ∈ c.args, wfC x = true := by
  cases c with
  | mk op a args =>
    show wfC (.mk op a args) = true ↔ (arityB op = args.length ∧ 0 ≤ a) ∧ ∀ x ∈ args, wfC x = true
    rw [wfC, Bool.and_eq_true, decide_eq_true_eq, wfCs_iff]
theorem shaped_wf (n : Names) (m : Nat) : ∀ c : Concept, SizeOf.sizeOf c = m → shapedB n c = true → wfC c = true := by
  induction m using Nat.strongRecOn with
  | _ m ih =>
    intro c hm h
    rw [wfC_iff]
    rw [shapedB_iff] at h
    refine ⟨⟨h.1.1, h.1.2.1⟩, fun x hx => ?_⟩
    obtain ⟨i, hi⟩ := List.mem_iff_getElem?.1 hx
    exact ih _ (hm ▸ Concept.sizeOf_arg hi) x rfl (h.2 x hx)
def shE (l : List (Bool × Bool)) (i : Nat) : Bool := (l[i]?.getD (false, false)).1
def shF (l : List (Bool × Bool)) (i : Nat) : Bool := (l[i]?.getD (false, false)).2
def outB (s : Sig) (op n : Int) : Bool := decide ((op = 6 ∨ op = 7) ∧ ¬ n / 2 ∈ s.roles)
def shapeAt (s : Sig) (top : Bool) (op n : Int) (l : List (Bool × Bool)) : Bool × Bool :=
  if op = 0 then (!decide (n ∈ s.concepts) && !top, !decide (n ∈ s.concepts) && top) else if op = 1 then (false, true) else if op = 2 then (true, false)
  else if op = 3 then (shF l 0, shE l 0) else if op = 4 then (shE l 0 || shE l 1, shF l 0 && shF l 1) else if op = 5 then (shE l 0 && shE l 1, shF l 0 || shF l 1)
  else if op = 6 then (shE l 0 || (outB s op n && !top), outB s op n && top && shF l 0) else (outB s op n && top && shE l 0, shF l 0 || (outB s op n && !top))
mutual
def shapeC (s : Sig) (top : Bool) : Concept → Bool × Bool
  | .mk op n args => shapeAt s top op n (shapeCs s top args)
def shapeCs (s : Sig) (top : Bool) : List Concept → List (Bool × Bool)
  | [] => []
  | x :: xs => shapeC s top x :: shapeCs s top xs
end
theorem shapeC_eq (s : Sig) (top : Bool) (c : Concept) : shapeC s top c = shapeAt s top c.op c.n (shapeCs s top c.args) := by cases c; rw [shapeC]; rfl
theorem shapeCs_append (s : Sig) (top : Bool) : ∀ (l m : List Concept), shapeCs s top (l ++ m) = shapeCs s top l ++ shapeCs s top m
  | [], m => by simp [shapeCs]
  | x :: xs, m => by simp [shapeCs, shapeCs_append s top xs m]
theorem shapeCs_len (s : Sig) (top : Bool) : ∀ (l : List Concept), (shapeCs s top l).length = l.length
  | [] => rfl
  | x :: xs => by simp [shapeCs, shapeCs_len s top xs]
theorem shapeCs_take {s : Sig} {top : Bool} {l : List Concept} {i : Nat} {x : Concept} (h : l[i]? = some x) : shapeCs s top (l.take (i + 1)) = shapeCs s top (l.take i) ++ [shapeC s top x] := by rw [take_succ_at h, shapeCs_append]; rfl
theorem sh_fst {l : List (Bool × Bool)} {e : List Bool} {i : Nat} {x : Bool} (h : e = l.map Prod.fst) (hx : e[i]? = some x) : shE l i = x := by
  subst h; rw [List.getElem?_map] at hx; unfold shE
  cases hl : l[i]? with
  | none => rw [hl] at hx; cases hx
  | some p => rw [hl] at hx; simpa using hx
theorem sh_snd {l : List (Bool × Bool)} {e : List Bool} {i : Nat} {x : Bool} (h : e = l.map Prod.snd) (hx : e[i]? = some x) : shF l i = x := by
  subst h; rw [List.getElem?_map] at hx; unfold shF
  cases hl : l[i]? with
  | none => rw [hl] at hx; cases hx
  | some p => rw [hl] at hx; simpa using hx

end Go.Proofs.YtcbcdlajnmkioaaGreatDoor
