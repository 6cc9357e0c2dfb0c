/- PROVED: for every input isagogelaw19.ModuleShapes answers true and its arguments read afterwards as before; the one condition: the package variable that the row lists reads as the program's text lays it, and the card ties it to that text. -/
import Derived.Test.YtcbcdlajnmkioaaGreatDoorO2
import Derived.Test.YtcbcdlajnmkioaaGreatDoorZ12
import Derived.Test.YtcbcdlajnmkioaaGreatDoorTie
import Derived.Test.YtcbcdlajnmkioaaGreatDoorCards
namespace Go.Proofs.YtcbcdlajnmkioaaGreatDoor
open Go Go.Proofs Go.RowKit Go.ChangeShapes Go.WideShapes Go.Proofs.YtcbcdlajnmkioaaGreatDoor
set_option linter.unusedVariables false
set_option linter.unusedSimpArgs false
set_option maxRecDepth 100000

/-! ## The row and the card of ModuleShapes -/
theorem u31 : Tryz.prog.underlying 31 = some (.slice 3) := by kernel_rfl

theorem par6 : Tryz.f6.params = #[30, 31, 37, 33, 3, 3] := rfl
theorem res6 : Tryz.f6.resultTypes = #[4] := rfl
def in6 : Array Value := #[.agg #[.slice none 0 0, .slice none 0 0, .slice none 0 0, .slice none 0 0, .slice none 0 0, .slice none 0 0, .slice none 0 0], .slice none 0 0, .agg #[.int .i64 0, .int .i64 0, .slice none 0 0], .agg #[.slice none 0 0, .slice none 0 0], .int .i64 0, .int .i64 0]
theorem mN (os : Os) (started : os.Started) (H : Type) (enc : TypeId × Value → H) :
    ReturnsInHanded {} Tryz.checked os 6 .any (fun w args => (Rows.moduleShapesSpec.pre enc Tryz.prog Tryz.f6 [] false w args ∧ laidMet Tryz.prog [("isagoge/concept.args", Rows.laid_isagoge_concept_args)] w) ∧ sizedMet enc Tryz.prog Tryz.f6 (OpenSpec.ofChange Rows.moduleShapesSpec) false w args)
      (Rows.moduleShapesSpec.post enc Tryz.prog Tryz.f6 false true false false) := by
  refine wrap (C := Tryz.checked) (X := fun w _ => laidMet Tryz.prog [("isagoge/concept.args", Rows.laid_isagoge_concept_args)] w) (fun _ _ _ hh h => h.of_heap hh) own_knob started (by kernel_rfl) Tryz.func6
    (ChangeSpec.witness_at (enc := enc) (C := Tryz.checked) (os := os) (X := fun w _ => laidMet Tryz.prog [("isagoge/concept.args", Rows.laid_isagoge_concept_args)] w) false (qI8 os in6) in6 12 rfl (by kernel_rfl) (by kernel_rfl) (by kernel_rfl) (by kernel_rfl) (by kernel_rfl)
      (laid_of (T := 171) (by kernel_rfl) (by kernel_rfl) (by kernel_rfl))) ?_
  intro W base args ds gs before hval0 hW hsz0 hL hS
  have hval : ∀ (j : Nat) t v, Tryz.f6.params[j]? = some t → args[j]? = some v → Value.okWide Tryz.prog W .any base t v := hval0
  have hsz : (DataW.weightsEach Tryz.prog (Tryz.f6.params.toList ++ Rows.moduleShapesSpec.plain.varTypes Tryz.prog) (ds ++ gs)).all (· ≤ reachBytes) = true := hsz0
  have hW' := hW
  obtain ⟨p, q, hA0, hV, rfl, hfz, hnd⟩ := hW
  have hA : DataW.TrodAll enc Tryz.prog W 0 (fun _ => true) true Tryz.f6.params.toList args.toList ds p := hA0
  rw [par6] at hA hval hsz
  obtain ⟨v0, vs0, d0, ds0, p0, q0, hargs, rfl, rfl, h0, r0⟩ := trodAll_cons hA
  obtain ⟨v1, vs1, d1, ds1, p1, q1, rfl, rfl, rfl, h1, r1⟩ := trodAll_cons r0
  obtain ⟨v2, vs2, d2, ds2, p2, q2, rfl, rfl, rfl, h2, r2⟩ := trodAll_cons r1
  obtain ⟨v3, vs3, d3, ds3, p3, q3, rfl, rfl, rfl, h3, r3⟩ := trodAll_cons r2
  obtain ⟨v4, vs4, d4, ds4, p4, q4, rfl, rfl, rfl, h4, r4⟩ := trodAll_cons r3
  obtain ⟨v5, vs5, d5, ds5, p5, q5, rfl, rfl, rfl, h5, r5⟩ := trodAll_cons r4
  obtain ⟨rfl, rfl, rfl⟩ := trodAll_nil r5
  obtain rfl : args = #[v0, v1, v2, v3, v4, v5] := by cases args; simp_all
  obtain ⟨rfl, rfl⟩ := trodVars_none hV
  obtain ⟨c0, b, rfl, hb⟩ := mL (by kernel_rfl) rd_base (hval 0 30 v0 rfl rfl) h0 (yP hsz (j := 0) rfl rfl)
  obtain ⟨A, m, cp, rfl⟩ := okWide_slice u31 (hval 1 31 v1 rfl rfl)
  obtain ⟨l, hl⟩ : ∃ l : List Int, m = l.length ∧ SlAt kInt (RW W) A l := by
    obtain ⟨fuel, hf⟩ := h1
    obtain ⟨l, A', c', e, hA'⟩ := gC (k := kInt) (n := fuel) (e := 3) (by_ := 8) (W := W) (P := Tryz.prog) (t := 31) (by kernel_rfl) (by decide) (by decide) (yQ i3) H enc fuel _ _ (by omega) hf (yP hsz (j := 1) rfl rfl)
    simp only [Value.cells, List.cons.injEq, and_true, Value.slice.injEq] at e
    obtain ⟨rfl, rfl, rfl⟩ := e
    exact ⟨l, rfl, hA'⟩
  obtain ⟨rfl, hl⟩ := hl
  obtain ⟨c2, c, rfl, hc⟩ := mL (by kernel_rfl) dL (hval 2 37 v2 rfl rfl) h2 (yP hsz (j := 2) rfl rfl)
  obtain ⟨c3, s, rfl, hs⟩ := mL (by kernel_rfl) rd_sig (hval 3 33 v3 rfl rfl) h3 (yP hsz (j := 3) rfl rfl)
  obtain ⟨kind, rfl, rfl, rfl, wkind⟩ := open_int u3 (hval 4 3 v4 rfl rfl) h4
  obtain ⟨k, rfl, rfl, rfl, wk⟩ := open_int u3 (hval 5 3 v5 rfl rfl) h5
  have lt {v : Value} {t : TypeId} {d : DataW H} {p : List MemPlace} (h : DataW.Trod enc Tryz.prog W 0 (fun _ => true) true t v d p) : ∀ x ∈ p, x.block < W.heap.size := by obtain ⟨m, hm⟩ := h; exact DataW.trod_lt m _ _ _ hm
  clear hA0 hval0 hsz0 hsz
  refine (pD b l c s kind k hb hl hc hs (qI6 wkind) (qI6 wk) (glob_RW hL hS) (own_RW W)).mono fun e W' ⟨he, ho⟩ => ?_
  subst he
  have bel := nV ho
  exact ⟨_, rfl, _, _, _, [], _, [], hW', trodAll_mk1 (shut_bool u4 _),
    trodAll_cons_mk (Below.trod eZ (by kernel_rfl) (of_decide_eq_true (by kernel_rfl)) h0 bel (lt h0)) (trodAll_cons_mk (Below.trod eZ (by kernel_rfl) (of_decide_eq_true (by kernel_rfl)) h1 bel (lt h1)) (trodAll_cons_mk (Below.trod eZ (by kernel_rfl) (of_decide_eq_true (by kernel_rfl)) h2 bel (lt h2)) (trodAll_cons_mk (Below.trod eZ (by kernel_rfl) (of_decide_eq_true (by kernel_rfl)) h3 bel (lt h3)) (trodAll_cons_mk (shut_int u3 wkind) (trodAll_cons_mk (shut_int u3 wk) trodAll_mk0))))),
    rfl, bel.frame _, fun h => by cases h⟩
theorem nY : Rows.ModuleShapesSaid :=
  OpenClaim.holds_of_wide 6 Tryz.f6 rfl rfl rfl rfl rfl rfl rfl ⟨rfl, rfl, rfl, rfl, rfl⟩ rfl rfl rfl rfl rfl (by kernel_rfl) Tryz.func6 (by kernel_rfl)
    (of_decide_eq_true (by kernel_rfl)) (by unfold Func.isWrapper; rw [if_neg (by decide +kernel)]; exact ⟨rfl, rfl⟩)
    (fun os started H enc _ => mN os started H enc)
theorem shapes_card : Rows.ModuleShapesCardSaid :=
  Claim7.holds_tied_plain_at .later [] [.data] true (true, "9618a50fdcacaf7ecfc504094f6422d3e64c6d7c860954d37666115e1e4b786d") false
    nY (fun _ h => by cases h) (by kernel_rfl) (fun _ h => by cases h) moduleShapes_row_tie rfl ⟨rfl, rfl⟩ (by kernel_rfl) rfl
    (fun f fn hf hfn => by
      obtain rfl : f = 6 := Option.some.inj ((show Tryz.prog.funcNamed "isagoge/isagogelaw19.ModuleShapes" = some 6 by kernel_rfl).symm.trans hf) |>.symm
      obtain rfl : fn = Tryz.f6 := (Option.some.inj (Tryz.func6.symm.trans hfn)).symm
      exact ⟨by kernel_rfl, fun j t ht => by
        rw [par6] at ht
        have h3 : t = 30 ∨ t = 31 ∨ t = 37 ∨ t = 33 ∨ t = 3 := by
          match j, ht with
          | 0, ht => exact .inl (by simpa using ht.symm)
          | 1, ht => exact .inr (.inl (by simpa using ht.symm))
          | 2, ht => exact .inr (.inr (.inl (by simpa using ht.symm)))
          | 3, ht => exact .inr (.inr (.inr (.inl (by simpa using ht.symm))))
          | 4, ht => exact .inr (.inr (.inr (.inr (by simpa using ht.symm))))
          | 5, ht => exact .inr (.inr (.inr (.inr (by simpa using ht.symm))))
          | j + 6, ht => simp at ht
        rcases h3 with rfl | rfl | rfl | rfl | rfl
        · exact (show Tryz.prog.wantsStandIn 30 = false by kernel_rfl)
        · exact (show Tryz.prog.wantsStandIn 31 = false by kernel_rfl)
        · exact (show Tryz.prog.wantsStandIn 37 = false by kernel_rfl)
        · exact (show Tryz.prog.wantsStandIn 33 = false by kernel_rfl)
        · exact (show Tryz.prog.wantsStandIn 3 = false by kernel_rfl)⟩)
    (by kernel_rfl)
#print axioms shapes_card
end Go.Proofs.YtcbcdlajnmkioaaGreatDoor
