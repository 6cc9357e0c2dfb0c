/- A part of the proof of the statement ModuleGrows of isagogelaw19: functions walked, and plain laws on what they answer. -/
import Derived.Test.YtcbcdlajnmkioaaGreatDoorL
namespace Go.Proofs.YtcbcdlajnmkioaaGreatDoor
open Go Go.Proofs
set_option linter.unusedSimpArgs false
set_option linter.unusedVariables false


theorem BaseOk.inclW {b : Base} (h : BaseOk b) {i : Nat} {x : Incl} (hx : b.incls[i]? = some x) : wfC x.sub = true ∧ wfC x.sup = true :=
  ⟨shaped_wf _ _ _ rfl (h.concepts _ (mem_concepts_incl hx).1).2.2, shaped_wf _ _ _ rfl (h.concepts _ (mem_concepts_incl hx).2).2.2⟩
theorem BaseOk.factW {b : Base} (h : BaseOk b) {i : Nat} {x : Fact} (hx : b.facts[i]? = some x) : wfC x.con = true :=
  shaped_wf _ _ _ rfl (h.concepts _ (mem_concepts_fact hx)).2.2
def localB (b : Base) (k : Nat) (s : Sig) (top : Bool) : Bool :=
  match b.incls[k]? with
  | some x => (shapeC s top x.sub).1 || (shapeC s top x.sup).2
  | none => match b.roles[k - b.incls.length]? with
    | some x => if top then !decide (x.sup / 2 ∈ s.roles) else !decide (x.sub / 2 ∈ s.roles)
    | none => match b.facts[k - b.incls.length - b.roles.length]? with
      | some x => (shapeC s top x.con).2
      | none => match b.links[k - b.incls.length - b.roles.length - b.facts.length]? with
        | some x => top && !decide (x.role ∈ s.roles)
        | none => false

end Go.Proofs.YtcbcdlajnmkioaaGreatDoor
