/- A part of the proof of the statement ModuleGrows of isagogelaw19: rules by which code is walked. -/
import Derived.Test.YtcbcdlajnmkioaaGreatDoorE9
namespace Go.Proofs.YtcbcdlajnmkioaaGreatDoor
open Go
set_option linter.unusedVariables false
set_option linter.unusedSimpArgs false

/-! ## 11. Structs and arrays that are built -/
def fieldsAt (P : Program) : List Field → Option (List (Nat × Nat))
  | [] => some []
  | f :: fs => match P.info? f.type, fieldsAt P fs with
    | some i, some r => some ((f.offset, i.size) :: r)
    | _, _ => none
/-- Where the parts of a struct (true) or of an array lie. -/
def places (P : Program) (t : TypeId) : Option (Bool × List (Nat × Nat) × Nat) :=
  match P.underlying t with
  | some (.struct fs) => (fieldsAt P fs.toList).map fun l => (true, l, 0)
  | some (.array _ e) => (P.info? e).map fun i => (false, [], i.size)
  | _ => none
def placeOf (q : Bool × List (Nat × Nat) × Nat) (i : Nat) : Option (Nat × Nat) := if q.1 then q.2.1[i]? else some (i * q.2.2, q.2.2)
def buildL (q : Bool × List (Nat × Nat) × Nat) : List Value → List (Nat × Value) → Option (List Value)
  | zs, [] => some zs
  | zs, (i, v) :: r => match placeOf q i with
    | some (off, size) => if Nat.beq v.cells.toList.length size && Nat.ble (off + v.cells.toList.length) zs.length then buildL q (splice zs off v.cells.toList) r else none
    | none => none

theorem fill_buildL (q : Bool × List (Nat × Nat) × Nat) : ∀ (ps : List (Nat × Value)) (zs cs : List Value), buildL q zs ps = some cs → Instr.fill (placeOf q) zs.toArray ps = some cs.toArray
  | [], zs, cs, h => by simp only [buildL, Option.some.injEq] at h; subst h; rfl
  | (i, v) :: r, zs, cs, h => by
    unfold buildL at h
    unfold Instr.fill
    split at h
    · rename_i off size hp
      rw [hp]
      split at h
      · rename_i hc
        simp only [Bool.and_eq_true] at hc
        have h1 : v.cells.size = size := by have := Nat.eq_of_beq_eq_true hc.1; simpa using this
        have h2 : off + v.cells.size ≤ zs.length := by have := Nat.le_of_ble_eq_true hc.2; simpa using this
        have hcc : (decide (v.cells.size ≠ size) || decide (off + v.cells.size > zs.toArray.size)) = false := by simp [h1]; omega
        simp only [hcc, Bool.false_eq_true, if_false]
        have e2 := foldl_splice off v.cells.toList 0 zs.toArray
        rw [Nat.add_zero] at e2
        have e3 : v.cells.zipIdx.foldl (fun (cs : Array Value) (x : Value × Nat) => match x with | (c, j) => cs.setIfInBounds (off + j) c) zs.toArray = (v.cells.toList.zipIdx 0).foldl (fun (cs : Array Value) (p : Value × Nat) => cs.setIfInBounds (off + p.2) p.1) zs.toArray := by
          rw [← Array.foldl_toList]; simp
        rw [e3, e2]
        exact fill_buildL q r _ _ h
      · cases h
    · cases h

section
variable {P : Program} {n : Nat} {D : List Deferred} {env env' : List (Nat × Value)} {R : RO} {G G' : List Res} {Q : Exit → Act → World → Prop} {ops : Array Oper} {rest : List Oper} {o : Oper}

theorem run_fieldsAt {w : World} : ∀ {fs : List Field} {l : List (Nat × Nat)}, fieldsAt P fs = some l → (fs.mapM fun f => (do pure (f.offset, ← sizeOf f.type) : Sem (Nat × Nat))).run P w = .ok l w
  | [], l, h => by cases h; rfl
  | f :: fs, l, h => by
    unfold fieldsAt at h
    split at h
    · rename_i i r hi hr
      cases h
      have ih := run_fieldsAt (w := w) hr
      have hs : (sizeOf f.type).run P w = .ok i.size w := by unfold sizeOf; rw [run_bind_ok (run_typeInfo hi)]; rfl
      rw [List.mapM_cons]
      have e1 : (do pure (f.offset, ← sizeOf f.type) : Sem (Nat × Nat)).run P w = .ok (f.offset, i.size) w := by rw [run_bind_ok hs]; rfl
      rw [run_bind_ok e1, run_bind_ok ih]; rfl
    · cases h

theorem run_build {w : World} {t : TypeId} {zs cs : List Value} {q : Bool × List (Nat × Nat) × Nat} {ps : List (Nat × Value)} (hz : zcells P t = some zs) (hp : places P t = some q) (hb : buildL q zs ps = some cs) : (Instr.build t ps.toArray).run P w = .ok (.agg cs.toArray) w := by
  unfold zcells at hz
  obtain ⟨z, hz1, hz2⟩ := Option.map_eq_some_iff.1 hz
  obtain ⟨inf, hi, hz1⟩ := Option.bind_eq_some_iff.1 hz1
  have hzz : (zeroValue t).run P w = .ok z w := by unfold zeroValue; rw [run_bind_ok (run_typeInfo hi), hz1]; rfl
  have hzc : z.cells = zs.toArray := by rw [← hz2]
  have hf := fill_buildL q ps zs cs hb
  unfold Instr.build
  rw [run_bind_ok hzz]
  unfold places at hp
  split at hp
  · rename_i fs hu
    obtain ⟨l, hl, rfl⟩ := Option.map_eq_some_iff.1 hp
    rw [run_bind_ok (run_underlying hu w)]
    have hl2 := run_fieldsAt (P := P) (w := w) hl
    have e : (fs.mapM fun f => (do pure (f.offset, ← sizeOf f.type) : Sem (Nat × Nat))).run P w = .ok l.toArray w := by
      rw [Array.mapM_eq_mapM_toList]
      show (Sem.run P (List.toArray <$> _) w) = _
      rw [Sem.run_map, hl2]; rfl
    simp only []
    rw [run_bind_ok e]
    have hpl : (fun x => l.toArray[x]?) = placeOf (true, l, 0) := by funext x; simp [placeOf]
    rw [hzc, hpl, hf]; rfl
  · rename_i len e hu
    obtain ⟨i, hl, rfl⟩ := Option.map_eq_some_iff.1 hp
    rw [run_bind_ok (run_underlying hu w)]
    have hs : (sizeOf e).run P w = .ok i.size w := by unfold sizeOf; rw [run_bind_ok (run_typeInfo hl)]; rfl
    simp only []
    rw [run_bind_ok hs]
    have hpl : (fun x => some (x * i.size, i.size)) = placeOf (false, [], i.size) := by funext x; simp [placeOf]
    rw [hzc, hpl, hf]; rfl
  · cases hp

theorem v_build {t d ty pos af} {ps : List (Nat × Operand)} {vs zs : List Value} {q : Bool × List (Nat × Nat) × Nat} (cs : List Value) (hz : zcells P t = some zs) (hp : places P t = some q) (hv : evs env (ps.map Prod.snd) = some vs) (hb : buildL q zs ((ps.map Prod.fst).zip vs) = some cs) :
    VAL P n D env R G ⟨some d, .build t ps.toArray, ty, pos, af, none⟩ (.agg cs.toArray) := fun a w ha _ => by
  have hparts : (ps.toArray.map fun (p : Nat × Operand) => (p.1, a.eval p.2)) = ((ps.map Prod.fst).zip vs).toArray := by
    rw [← evs_map ha hv]
    simp only [List.map_toArray]
    congr 1
    clear hv hb
    induction ps with
    | nil => rfl
    | cons p ps ih => simpa using ih
  show ((do let z ← Instr.build t (ps.toArray.map fun (p : Nat × Operand) => (p.1, a.eval p.2)); pure (Next.value z) : Sem Next)).run P w = _
  rw [hparts, run_bind_ok (run_build hz hp hb)]; rfl
end
end Go.Proofs.YtcbcdlajnmkioaaGreatDoor
