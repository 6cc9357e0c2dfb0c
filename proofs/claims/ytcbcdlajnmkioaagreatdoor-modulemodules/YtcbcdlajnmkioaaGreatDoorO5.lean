/- PROVED: for every input isagogelaw19.ModuleModules answers true and its arguments read afterwards as before; the one condition: the package variable that the row lists reads as the program's text lays it, and the card ties it to that text. -/
import Derived.Test.YtcbcdlajnmkioaaGreatDoorO2
import Derived.Test.YtcbcdlajnmkioaaGreatDoorZ7
import Derived.Test.YtcbcdlajnmkioaaGreatDoorTie
import Derived.Test.YtcbcdlajnmkioaaGreatDoorCards
namespace Go.Proofs.YtcbcdlajnmkioaaGreatDoor
open Go Go.Proofs Go.RowKit Go.ChangeShapes Go.WideShapes Go.Proofs.YtcbcdlajnmkioaaGreatDoor
set_option linter.unusedVariables false
set_option linter.unusedSimpArgs false
set_option maxRecDepth 100000


theorem par3 : Tryz.f3.params = #[30, 33, 3] := rfl
theorem res3 : Tryz.f3.resultTypes = #[4] := rfl
def in3 : Array Value := #[.agg #[.slice none 0 0, .slice none 0 0, .slice none 0 0, .slice none 0 0, .slice none 0 0, .slice none 0 0, .slice none 0 0], .agg #[.slice none 0 0, .slice none 0 0], .int .i64 0]
theorem lC (os : Os) (started : os.Started) (H : Type) (enc : TypeId × Value → H) :
    ReturnsInHanded {} Tryz.checked os 3 .any (fun w args => (Rows.moduleModulesSpec.pre enc Tryz.prog Tryz.f3 [] false w args ∧ laidMet Tryz.prog [("isagoge/concept.args", Rows.laid_isagoge_concept_args)] w) ∧ sizedMet enc Tryz.prog Tryz.f3 (OpenSpec.ofChange Rows.moduleModulesSpec) false w args)
      (Rows.moduleModulesSpec.post enc Tryz.prog Tryz.f3 false true false false) := by
  refine wrap (C := Tryz.checked) (X := fun w _ => laidMet Tryz.prog [("isagoge/concept.args", Rows.laid_isagoge_concept_args)] w) (fun _ _ _ hh h => h.of_heap hh) own_knob started (by kernel_rfl) Tryz.func3
    (ChangeSpec.witness_at (enc := enc) (C := Tryz.checked) (os := os) (X := fun w _ => laidMet Tryz.prog [("isagoge/concept.args", Rows.laid_isagoge_concept_args)] w) false (qJ8 os in3) in3 12 rfl (by kernel_rfl) (by kernel_rfl) (by kernel_rfl) (by kernel_rfl) (by kernel_rfl)
      (laid_of (T := 171) (by kernel_rfl) (by kernel_rfl) (by kernel_rfl))) ?_
  intro W base args ds gs before hval0 hW hsz0 hL hS
  have hval : ∀ (j : Nat) t v, Tryz.f3.params[j]? = some t → args[j]? = some v → Value.okWide Tryz.prog W .any base t v := hval0
  have hsz : (DataW.weightsEach Tryz.prog (Tryz.f3.params.toList ++ Rows.moduleModulesSpec.plain.varTypes Tryz.prog) (ds ++ gs)).all (· ≤ reachBytes) = true := hsz0
  have hW' := hW
  obtain ⟨p, q, hA0, hV, rfl, hfz, hnd⟩ := hW
  have hA : DataW.TrodAll enc Tryz.prog W 0 (fun _ => true) true Tryz.f3.params.toList args.toList ds p := hA0
  rw [par3] at hA hval hsz
  obtain ⟨v0, vs0, d0, ds0, p0, q0, hargs, rfl, rfl, h0, r0⟩ := trodAll_cons hA
  obtain ⟨v1, vs1, d1, ds1, p1, q1, rfl, rfl, rfl, h1, r1⟩ := trodAll_cons r0
  obtain ⟨v2, vs2, d2, ds2, p2, q2, rfl, rfl, rfl, h2, r2⟩ := trodAll_cons r1
  obtain ⟨rfl, rfl, rfl⟩ := trodAll_nil r2
  obtain rfl : args = #[v0, v1, v2] := by cases args; simp_all
  obtain ⟨rfl, rfl⟩ := trodVars_none hV
  obtain ⟨c0, b, rfl, hb⟩ := qB4 (by kernel_rfl) rd_base (hval 0 30 v0 rfl rfl) h0 (pX hsz (j := 0) rfl rfl)
  obtain ⟨c1, s, rfl, hs⟩ := qB4 (by kernel_rfl) rd_sig (hval 1 33 v1 rfl rfl) h1 (pX hsz (j := 1) rfl rfl)
  obtain ⟨k, rfl, rfl, rfl, wk⟩ := open_int u3 (hval 2 3 v2 rfl rfl) h2
  have lt {v : Value} {t : TypeId} {d : DataW H} {p : List MemPlace} (h : DataW.Trod enc Tryz.prog W 0 (fun _ => true) true t v d p) : ∀ x ∈ p, x.block < W.heap.size := by obtain ⟨m, hm⟩ := h; exact DataW.trod_lt m _ _ _ hm
  clear hA0 hval0 hsz0 hsz
  refine (hN b s k hb hs (wf_i64 wk) (glob_RW hL hS) (own_RW W)).mono fun e W' ⟨he, ho⟩ => ?_
  subst he
  have bel := oE ho
  exact ⟨_, rfl, _, _, _, [], _, [], hW', trodAll_mk1 (shut_bool u4 _),
    trodAll_cons_mk (Below.trod qB3 (by kernel_rfl) (of_decide_eq_true (by kernel_rfl)) h0 bel (lt h0)) (trodAll_cons_mk (Below.trod qB3 (by kernel_rfl) (of_decide_eq_true (by kernel_rfl)) h1 bel (lt h1)) (trodAll_cons_mk (shut_int u3 wk) trodAll_mk0)),
    rfl, bel.frame _, fun h => by cases h⟩
theorem mX : Rows.ModuleModulesSaid :=
  OpenClaim.holds_of_wide 3 Tryz.f3 rfl rfl rfl rfl rfl rfl rfl ⟨rfl, rfl, rfl, rfl, rfl⟩ rfl rfl rfl rfl rfl (by kernel_rfl) Tryz.func3 (by kernel_rfl)
    (of_decide_eq_true (by kernel_rfl)) (by unfold Func.isWrapper; rw [if_neg (by decide +kernel)]; exact ⟨rfl, rfl⟩)
    (fun os started H enc _ => lC os started H enc)
theorem modules_card : Rows.ModuleModulesCardSaid :=
  Claim7.holds_tied_plain_at .later [] [.data] true (true, "9618a50fdcacaf7ecfc504094f6422d3e64c6d7c860954d37666115e1e4b786d") false
    mX (fun _ h => by cases h) (by kernel_rfl) (fun _ h => by cases h) moduleModules_row_tie rfl ⟨rfl, rfl⟩ (by kernel_rfl) rfl
    (fun f fn hf hfn => by
      obtain rfl : f = 3 := Option.some.inj ((show Tryz.prog.funcNamed "isagoge/isagogelaw19.ModuleModules" = some 3 by kernel_rfl).symm.trans hf) |>.symm
      obtain rfl : fn = Tryz.f3 := (Option.some.inj (Tryz.func3.symm.trans hfn)).symm
      exact ⟨by kernel_rfl, fun j t ht => by
        rw [par3] at ht
        have h3 : t = 30 ∨ t = 33 ∨ t = 3 := by
          match j, ht with
          | 0, ht => exact .inl (by simpa using ht.symm)
          | 1, ht => exact .inr (.inl (by simpa using ht.symm))
          | 2, ht => exact .inr (.inr (by simpa using ht.symm))
          | j + 3, ht => simp at ht
        rcases h3 with rfl | rfl | rfl
        · exact (show Tryz.prog.wantsStandIn 30 = false by kernel_rfl)
        · exact (show Tryz.prog.wantsStandIn 33 = false by kernel_rfl)
        · exact (show Tryz.prog.wantsStandIn 3 = false by kernel_rfl)⟩)
    (by kernel_rfl)
#print axioms modules_card
end Go.Proofs.YtcbcdlajnmkioaaGreatDoor
