/- A part of the proof of the statement ModuleModules of isagogelaw19: what the arguments hold. -/
import Derived.Test.YtcbcdlajnmkioaaGreatDoorO1
import Derived.Test.YtcbcdlajnmkioaaGreatDoorZ7
import Derived.Test.YtcbcdlajnmkioaaGreatDoorRows
import Derived.HandedShaped
import Derived.Shelf.Vars
import Derived.OpenShut
import Derived.Carry
import Derived.ChangeOld
import Derived.ChangeVars
import Derived.JoinedOf
import Derived.RowKit
namespace Go.Proofs.YtcbcdlajnmkioaaGreatDoor
open Go Go.Proofs Go.RowKit Go.ChangeShapes Go.WideShapes Go.Proofs.YtcbcdlajnmkioaaGreatDoor
set_option linter.unusedVariables false
set_option linter.unusedSimpArgs false
set_option maxRecDepth 100000


theorem u3 : Tryz.prog.underlying 3 = some (.int .i64) := by kernel_rfl
theorem u4 : Tryz.prog.underlying 4 = some .bool := by kernel_rfl
theorem u171 : Tryz.prog.underlying 171 = some (.array 8 3) := by kernel_rfl
theorem c171 : Tryz.prog.cellsOf 171 = 8 := by kernel_rfl
theorem c3 : Tryz.prog.cellsOf 3 = 1 := by kernel_rfl
theorem i3 : oG Tryz.prog 3 = true := by kernel_rfl
theorem s9 : qB2 Tryz.prog 9 = true := by kernel_rfl
theorem own_knob : ownKnob Tryz.prog.godebug = none := by kernel_rfl
theorem qB3 : laidOutB Tryz.prog = true := by kernel_rfl
theorem args_named : Tryz.prog.globalNamed "isagoge/concept.args" = some 0 := by kernel_rfl
theorem args_type : (Tryz.prog.globals[0]?).map (·.type) = some 171 := by kernel_rfl

section
variable {W : World}
theorem lX (n : Nat) : gE Tryz.prog W n 37 kConcept := mV (s := 35) (i := 3) (by_ := 40) i3 (by kernel_rfl) (by decide) (by kernel_rfl) (by kernel_rfl) n
theorem rd_sig (n : Nat) : gE Tryz.prog W n 33 kSig := qJ7 (s := 31) (i := 3) (by_ := 8) i3 (by kernel_rfl) (by decide) (by kernel_rfl) (by kernel_rfl) n
theorem rd_names (n : Nat) : gE Tryz.prog W n 24 kNames := rN (s := 22) (i := 9) (by_ := 16) s9 (by kernel_rfl) (by decide) (by kernel_rfl) (by kernel_rfl) n
theorem rd_incl (n : Nat) : gE Tryz.prog W n 92 kIncl := qF0 (c := 37) lX (by kernel_rfl) (by kernel_rfl) n
theorem rd_role (n : Nat) : gE Tryz.prog W n 84 kRoleIncl := qF1 (i := 3) i3 (by kernel_rfl) (by kernel_rfl) n
theorem rd_fact (n : Nat) : gE Tryz.prog W n 87 kFact := qF3 (i := 3) (c := 37) i3 lX (by kernel_rfl) (by kernel_rfl) n
theorem rd_link (n : Nat) : gE Tryz.prog W n 89 kLink := qF2 (i := 3) i3 (by kernel_rfl) (by kernel_rfl) n
theorem rd_base (n : Nat) : gE Tryz.prog W n 30 kBase :=
  qF4 (n_ := 24) (s1 := 25) (s2 := 26) (s3 := 27) (s4 := 28) (b1 := 80) (b2 := 16) (b3 := 48) (b4 := 24) rd_names rd_incl rd_role rd_fact rd_link (by kernel_rfl) (by kernel_rfl) (by kernel_rfl) (by kernel_rfl) (by decide) (by kernel_rfl) (by kernel_rfl) n
end

theorem qB4 {α : Type} {k : Kd α} {H : Type} {enc : TypeId × Value → H} {W : World} {t : TypeId} {base : Nat} {v : Value} {d : DataW H} {p : List MemPlace} (hs : (zP Tryz.prog t).isSome = true) (ho : ∀ n, gE Tryz.prog W n t k)
    (hval : Value.okWide Tryz.prog W .any base t v) (h : DataW.Trod enc Tryz.prog W 0 (fun _ => true) true t v d p) (hw : (d.weights Tryz.prog t).all (· ≤ reachBytes) = true) : ∃ (cs : List Value) (a : α), v = .agg cs.toArray ∧ k.rep (RW W) a cs := by
  unfold zP at hs
  split at hs
  · rename_i fs hu
    unfold Value.okWide at hval
    rw [hu] at hval
    obtain ⟨cs, rfl, _⟩ := hval
    obtain ⟨fuel, hf⟩ := h
    obtain ⟨a, ha⟩ := ho fuel H enc fuel _ _ (Nat.le_refl _) hf hw
    exact ⟨cs.toList, a, by simp, ha⟩
  · simp at hs

def cells8 : Array Value := #[.int .i64 0, .int .i64 0, .int .i64 0, .int .i64 1, .int .i64 2, .int .i64 2, .int .i64 1, .int .i64 1]
theorem mW {W : World} (h : laidMet Tryz.prog [("isagoge/concept.args", Rows.laid_isagoge_concept_args)] W) : W.var? Tryz.prog "isagoge/concept.args" = some cells8 := by
  obtain ⟨ps, ⟨g, t, cs, fuel, p, q, hg, ht, hvar, hd, _, _⟩, _⟩ := h
  obtain rfl := Option.some.inj (args_named.symm.trans hg)
  obtain rfl := Option.some.inj (args_type.symm.trans ht)
  rw [hvar]
  congr 1
  obtain ⟨l⟩ := cs
  obtain ⟨xs, m, rfl, hx, hl, hn, hf⟩ := DataW.trod_array u171 hd
  rw [c171] at hl
  rw [c3] at hf
  have each : ∀ i, i < 8 → ∃ z, (l.drop (i * 1)).take 1 = [.int .i64 z] ∧ xs[i]? = some (.lit (.int .i64 z), []) := fun i hi => by
    have h1 := hf i hi
    rw [List.getElem?_eq_getElem (by omega)] at h1
    obtain ⟨z, e1, e2, _⟩ := DataW.trod_int u3 h1
    exact ⟨z, e1, by rw [List.getElem?_eq_getElem (by omega), e2]⟩
  obtain ⟨z0, a0, b0⟩ := each 0 (by omega)
  obtain ⟨z1, a1, b1⟩ := each 1 (by omega)
  obtain ⟨z2, a2, b2⟩ := each 2 (by omega)
  obtain ⟨z3, a3, b3⟩ := each 3 (by omega)
  obtain ⟨z4, a4, b4⟩ := each 4 (by omega)
  obtain ⟨z5, a5, b5⟩ := each 5 (by omega)
  obtain ⟨z6, a6, b6⟩ := each 6 (by omega)
  obtain ⟨z7, a7, b7⟩ := each 7 (by omega)
  match l, hl, xs, hn with
  | [_, _, _, _, _, _, _, _], _, [_, _, _, _, _, _, _, _], _ =>
    simp only [List.drop_zero, Nat.zero_mul, Nat.one_mul, Nat.mul_one, List.drop_succ_cons, List.take_succ_cons, List.take_zero, List.cons.injEq, and_true, List.getElem?_cons_zero, List.getElem?_cons_succ, Option.some.injEq] at a0 a1 a2 a3 a4 a5 a6 a7 b0 b1 b2 b3 b4 b5 b6 b7
    subst a0 a1 a2 a3 a4 a5 a6 a7 b0 b1 b2 b3 b4 b5 b6 b7
    simp [Rows.laid_isagoge_concept_args] at hx
    obtain ⟨⟨rfl, rfl, rfl, rfl, rfl, rfl, rfl, rfl⟩, _⟩ := hx
    rfl
theorem glob_RW {W : World} (h : laidMet Tryz.prog [("isagoge/concept.args", Rows.laid_isagoge_concept_args)] W) (hs : W.ShapedOpen Tryz.prog) : Glob (RW W) := by
  refine ⟨?_, ?_⟩
  · have h1 := mW h
    unfold World.var? at h1
    rw [args_named] at h1
    simp only [Option.bind_some] at h1
    split at h1
    · rename_i c T fz hc
      obtain rfl := Option.some.inj h1
      intro j v hj
      exact ⟨_, T, fz, hc, by rw [Nat.zero_add]; simpa [cells8] using hj⟩
    · cases h1
  · obtain ⟨m, hm⟩ := cell_of_shapedOpen_int (g := 1) (t := 3) (zero := #[.int .i64 0]) (k := .i64) hs (of_decide_eq_true (by kernel_rfl)) (by kernel_rfl) rfl (by kernel_rfl) (by kernel_rfl) u3
    obtain ⟨_, c, T, fz, h1, h2⟩ := mU hm
    refine ⟨m, fun j v hj => ⟨c, T, fz, h1, ?_⟩⟩
    have hj0 : j = 0 := by
      have := (List.getElem?_eq_some_iff.1 hj).1
      simpa using this
    subst hj0
    simp only [List.getElem?_cons_zero, Option.some.injEq] at hj
    rw [← hj]; exact h2

theorem wrap {H : Type} {enc : TypeId × Value → H} {a : Assume} {C : Checked} {os : Os} {f : FuncId} {fn : Func} {s : ChangeSpec} {conds : List PathCond} {apart fresh handsOn again : Bool} {X : World → Array Value → Prop}
    (hX : ∀ (w w' : World) (args : Array Value), w.heap = w'.heap → X w args → X w' args)
    (own : ownKnob C.prog.godebug = none) (started : os.Started) (noInit : C.prog.inits.idxOf? f = none) (hfn : C.prog.funcs[f]? = some fn)
    (witness : ∃ (w : World) (tape : Tape) (i : Input), w.os = os ∧ (w.forCall tape i).Shaped C.prog ∧ i.vars = [] ∧ Input.okWide C.prog (w.forCall tape i) .any w.heap.size f i ∧
      ((s.pre enc C.prog fn conds apart (w.forCall tape i).memory i.args ∧ X (w.forCall tape i).memory i.args) ∧ sizedMet enc C.prog fn (OpenSpec.ofChange s) apart (w.forCall tape i).memory i.args) ∧ a.holds C.prog (lone (Frame.enter C.prog f i.args .normal) [] (w.forCall tape i)))
    (contract : ∀ (W : World) (base : Nat) (args : Array Value) (ds gs : List (DataW H)) (before : List MemPlace),
      (∀ (j : Nat) t v, fn.params[j]? = some t → args[j]? = some v → Value.okWide C.prog W .any base t v) →
      DataW.Whole enc C.prog fn.params.toList s.vars apart W args.toList ds gs before →
      (DataW.weightsEach C.prog (fn.params.toList ++ s.plain.varTypes C.prog) (ds ++ gs)).all (· ≤ reachBytes) = true → X W args → W.ShapedOpen C.prog →
      Calls C.prog f args W fun e W' => ∃ v, e = .returned v ∧ s.post enc C.prog fn apart fresh handsOn again W args v W') :
    ReturnsInHanded a C os f .any (fun w args => (s.pre enc C.prog fn conds apart w args ∧ X w args) ∧ sizedMet enc C.prog fn (OpenSpec.ofChange s) apart w args) (s.post enc C.prog fn apart fresh handsOn again) := by
  refine returnsInHanded_of_calls own started noInit witness ?_
  intro w tape i _ hsh _ hok hpre hholds
  obtain ⟨_, _, _, fn', hfn', _, _, _, _, hval⟩ := hok
  have e : fn' = fn := Option.some.inj (hfn'.symm.trans hfn)
  subst e
  obtain ⟨⟨⟨ds, gs, before, hw, hc⟩, hx⟩, hz⟩ := hpre
  have hw' := DataW.Whole.of_heap (w' := w.forCall tape i) (by rfl) hw
  refine (contract (w.forCall tape i) w.heap.size i.args ds gs before hval hw' (hz.weights hw) (hX _ _ _ (by rfl) hx) hsh).mono fun e W' ⟨v, he, hp⟩ => ?_
  subst he
  exact ChangeSpec.post_blind hp

noncomputable def qJ8 (os : Os) (args : Array Value) : World :=
  { World.holding Tryz.prog os ⟨#[], args, []⟩ with heap := (World.holding Tryz.prog os ⟨#[], args, []⟩).heap.modify 0 fun
      | .cells _ t frozen => .cells cells8 t frozen
      | o => o }
theorem laid_of {W : World} {T : TypeId} (hr : W.heap[0]? = some (.cells cells8 T (0, 0))) (hv : W.var? Tryz.prog "isagoge/concept.args" = some cells8) (hd : DataW.trod (fun _ => ()) Tryz.prog W 0 (fun _ => true) false 8 171 cells8.toList = some (Rows.laid_isagoge_concept_args, [])) :
    laidMet Tryz.prog [("isagoge/concept.args", Rows.laid_isagoge_concept_args)] W := by
  refine ⟨_, ⟨0, 171, cells8, 8, [], [], args_named, args_type, hv, hd, rfl, rfl⟩, by decide, fun b off h => ?_⟩
  have h' : MemPlace.cell b off ∈ [MemPlace.cell 0 0, .cell 0 1, .cell 0 2, .cell 0 3, .cell 0 4, .cell 0 5, .cell 0 6, .cell 0 7] := h
  have hb : b = 0 := by simp at h'; omega
  subst hb
  refine ⟨⟨_, _, hr⟩, fun u v hc => ?_⟩
  simp only [World.cell?, hr] at hc
  simp at h'
  rcases h' with rfl | rfl | rfl | rfl | rfl | rfl | rfl | rfl <;> simp [cells8] at hc
end Go.Proofs.YtcbcdlajnmkioaaGreatDoor
