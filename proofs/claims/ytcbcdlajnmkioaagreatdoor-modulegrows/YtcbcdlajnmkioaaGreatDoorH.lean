/- A part of the proof of the statement ModuleGrows of isagogelaw19: functions walked, and plain laws on what they answer. -/
import Derived.Test.YtcbcdlajnmkioaaGreatDoorG
namespace Go.Proofs.YtcbcdlajnmkioaaGreatDoor
open Go Go.Proofs
set_option linter.unusedSimpArgs false
set_option linter.unusedVariables false
theorem ca25 : Callable Tryz.prog 25 := ⟨by kernel_rfl⟩
theorem ca28 : Callable Tryz.prog 28 := ⟨by kernel_rfl⟩
theorem ca29 : Callable Tryz.prog 29 := ⟨by kernel_rfl⟩
theorem ca40 : Callable Tryz.prog 40 := ⟨by kernel_rfl⟩
theorem ca41 : Callable Tryz.prog 41 := ⟨by kernel_rfl⟩
theorem fo84_0 : fieldOff Tryz.prog 84 0 = some 0 := by kernel_rfl
theorem fo84_1 : fieldOff Tryz.prog 84 1 = some 1 := by kernel_rfl
theorem fo87_0 : fieldOff Tryz.prog 87 0 = some 0 := by kernel_rfl
theorem fo89_0 : fieldOff Tryz.prog 89 0 = some 0 := by kernel_rfl
theorem fo89_1 : fieldOff Tryz.prog 89 1 = some 1 := by kernel_rfl
theorem fo89_2 : fieldOff Tryz.prog 89 2 = some 2 := by kernel_rfl
theorem ld84 : ldInfo Tryz.prog 84 = some (true, 2) := by kernel_rfl
theorem ld89 : ldInfo Tryz.prog 89 = some (true, 3) := by kernel_rfl
theorem zc84 : zcells Tryz.prog 84 = some [.int .i64 0, .int .i64 0] := by kernel_rfl
theorem zc89 : zcells Tryz.prog 89 = some [.int .i64 0, .int .i64 0, .int .i64 0] := by kernel_rfl

def okC (n : Names) (c : Concept) : Prop := nodesC c ≤ 400 ∧ depthC c ≤ 20 ∧ shapedB n c = true
instance (n : Names) (c : Concept) : Decidable (okC n c) := inferInstanceAs (Decidable (_ ∧ _ ∧ _))
def okR (n : Names) (r : Int) : Prop := 0 ≤ r ∧ r < 2 * (n.roles.length : Int)
instance (n : Names) (r : Int) : Decidable (okR n r) := inferInstanceAs (Decidable (_ ∧ _))
def okI (n : Names) (r : Int) : Prop := 0 ≤ r ∧ r < (n.inds.length : Int)
instance (n : Names) (r : Int) : Decidable (okI n r) := inferInstanceAs (Decidable (_ ∧ _))
def okL (n : Names) (x : Link) : Prop := 0 ≤ x.role ∧ x.role < (n.roles.length : Int) ∧ okI n x.frm ∧ okI n x.to
instance (n : Names) (x : Link) : Decidable (okL n x) := inferInstanceAs (Decidable (_ ∧ _ ∧ _ ∧ _))
structure BaseOk (b : Base) : Prop where
  names : namesB b.names = true
  count : axiomsN b ≤ 60
  concepts : ∀ c ∈ conceptsB b, okC b.names c
  roles : ∀ x ∈ b.roles, okR b.names x.sub ∧ okR b.names x.sup
  facts : ∀ x ∈ b.facts, okI b.names x.ind
  links : ∀ x ∈ b.links, okL b.names x
  nodes : nodesL (conceptsB b) ≤ 400
theorem baseOk_iff (b : Base) : BaseOk b ↔ (namesB b.names = true ∧ axiomsN b ≤ 60 ∧ (∀ c ∈ conceptsB b, okC b.names c) ∧ (∀ x ∈ b.roles, okR b.names x.sub ∧ okR b.names x.sup) ∧ (∀ x ∈ b.facts, okI b.names x.ind) ∧ (∀ x ∈ b.links, okL b.names x) ∧ nodesL (conceptsB b) ≤ 400) :=
  ⟨fun h => ⟨h.1, h.2, h.3, h.4, h.5, h.6, h.7⟩, fun h => ⟨h.1, h.2.1, h.2.2.1, h.2.2.2.1, h.2.2.2.2.1, h.2.2.2.2.2.1, h.2.2.2.2.2.2⟩⟩
instance (b : Base) : Decidable (BaseOk b) := decidable_of_iff _ (baseOk_iff b).symm
def baseB (b : Base) : Bool := decide (BaseOk b)

set_option maxRecDepth 20000 in
set_option maxHeartbeats 8000000 in
theorem isagogeref02_Is_ok {R : RO} {G : List Res} {w : World} {c_b : List Value} (b : Base) (hr_b : kBase.rep R b c_b) (hw : Own w R (G)) :
    Calls Tryz.prog 10 [.agg c_b.toArray].toArray w (Gives R G (.bool (baseB b))) := by
  obtain ⟨c1, A3, d4, A6, d7, A9, d10, A12, d13, rfl, hr2, hs5, hs8, hs11, hs14⟩ := id hr_b
  have z27 := hs5.size
  unfold big at z27
  have z28 := hs8.size
  unfold big at z28
  have z29 := hs11.size
  unfold big at z29
  have z30 := hs14.size
  unfold big at z30
  obtain ⟨A15, d16, A19, d20, A23, d24, rfl, hs17, hs21, hs25⟩ := id hr2
  have z18 := hs17.size
  unfold big at z18
  have z22 := hs21.size
  unfold big at z22
  have z26 := hs25.size
  unfold big at z26
  refine fn_enter (vs := [.agg #[.slice A15 b.names.concepts.length d16, .slice A19 b.names.roles.length d20, .slice A23 b.names.inds.length d24, .slice A3 b.incls.length d4, .slice A6 b.roles.length d7, .slice A9 b.facts.length d10, .slice A12 b.links.length d13]]) Tryz.func10 rfl rfl rfl ?_ hw
  refine tc_seq <| tc_region ?_
  refine tl_box_agg (l := [.slice A15 b.names.concepts.length d16, .slice A19 b.names.roles.length d20, .slice A23 b.names.inds.length d24, .slice A3 b.incls.length d4, .slice A6 b.roles.length d7, .slice A9 b.facts.length d10, .slice A12 b.links.length d13]) rfl rfl fun b31 => ?_
  refine tl (v_assign rfl) ?_
  refine tl_nil <| tx_then <| tc_seq ?_
  refine tc_cut [(0, .agg #[.slice A15 b.names.concepts.length d16, .slice A19 b.names.roles.length d20, .slice A23 b.names.inds.length d24, .slice A3 b.incls.length d4, .slice A6 b.roles.length d7, .slice A9 b.facts.length d10, .slice A12 b.links.length d13]), (1, .pointer (some ⟨b31, 0, none⟩)), (2, .bool false), (22, .bool (decide (((!(namesB b.names)) = true) ∨ (60 < (axiomsN b : Int)))))] (.blk b31 [.slice A15 b.names.concepts.length d16, .slice A19 b.names.roles.length d20, .slice A23 b.names.inds.length d24, .slice A3 b.incls.length d4, .slice A6 b.roles.length d7, .slice A9 b.facts.length d10, .slice A12 b.links.length d13] 30 :: G) (fun _ => True) (fun K hK32 hE33 => ?_) ?_
  ·
   refine tc_region ?_
   refine tl (v_fieldAddr 0 rfl fo30_0 rfl) ?_
   refine tl (v_ld_agg 0 [.slice A15 b.names.concepts.length d16, .slice A19 b.names.roles.length d20, .slice A23 b.names.inds.length d24] rfl ld24 rfl rfl) ?_
   refine tl_callv ca28 rfl (fun w hw => isagogeref01_Names_ok b.names hr2 hw) rfl ?_
   refine tl (v_neg rfl) ?_
   refine tl (v_move rfl) ?_
   refine tl_splitb 18 rfl (fun h34 => ?_) (fun h34 => ?_)
   ·
    refine tl_gskip 18 rfl rfl rfl ?_
    refine tl_gskip 18 rfl rfl rfl ?_
    refine tl_gskip 18 rfl rfl rfl ?_
    refine tl (v_pick_t rfl rfl) ?_
    refine tl_nil ?_
    exact tx_cut hK32 (.refl _) (trivial) ⟨rfl, rfl, rfl, show some (Value.bool true) = some (Value.bool (decide (((!(namesB b.names)) = true) ∨ (60 < (axiomsN b : Int))))) by first | (simp [h34]; done) | grind | (simp [h34] <;> omega), trivial⟩ (fun w hw => hw)
   ·
    refine tl_grun 18 rfl rfl ?_
    refine tl (v_ld_agg 0 [.slice A15 b.names.concepts.length d16, .slice A19 b.names.roles.length d20, .slice A23 b.names.inds.length d24, .slice A3 b.incls.length d4, .slice A6 b.roles.length d7, .slice A9 b.facts.length d10, .slice A12 b.links.length d13] rfl ld30 rfl rfl) ?_
    refine tl_grun 18 rfl rfl ?_
    refine tl_callv ca25 rfl (fun w hw => isagogeref02_Axioms_ok b hr_b hw) rfl ?_
    refine tl_grun 18 rfl rfl ?_
    refine tl (v_ib rfl rfl rfl) ?_
    refine tl (v_pick_f rfl rfl) ?_
    refine tl_nil ?_
    exact tx_cut hK32 (.refl _) (trivial) ⟨rfl, rfl, rfl, show some (Value.bool (decide (60 < (axiomsN b : Int)))) = some (Value.bool (decide (((!(namesB b.names)) = true) ∨ (60 < (axiomsN b : Int))))) by first | (simp [h34]; done) | grind | (simp [h34] <;> omega), trivial⟩ (fun w hw => hw)
  ·
   refine fun R36 hle37 hj35 => tc_weaken hle37 ?_
   refine tc_split 22 rfl (fun h38 => ?_) (fun h38 => ?_)
   ·
    refine tc_yes rfl ?_
    refine tc_seq <| tc_region ?_
    refine tl (v_assign rfl) ?_
    refine tl_nil <| tx_then <| tc_ret <| tx_then_ret ?_
    refine tx_ret1 (.inl rfl) rfl rfl ?_
    have e39 : (false : Bool) = baseB b := by (rw [eq_comm]; unfold baseB; rw [decide_eq_false_iff_not]; intro h_; have h1_ := h_.names; have h2_ := h_.count; grind)
    exact fun w hw => ⟨congrArg Ending.returned (congrArg (fun x0 => Value.bool x0) e39), hw.drop 1⟩
   ·
    refine tc_no rfl ?_
    refine tc_skip <| tx_then <| tc_seq <| tc_region ?_
    refine tl (v_assign rfl) ?_
    refine tl_nil <| tx_then <| tc_seq <| tc_seq <| tc_region ?_
    refine tl (v_ld_agg 0 [.slice A15 b.names.concepts.length d16, .slice A19 b.names.roles.length d20, .slice A23 b.names.inds.length d24, .slice A3 b.incls.length d4, .slice A6 b.roles.length d7, .slice A9 b.facts.length d10, .slice A12 b.links.length d13] rfl ld30 rfl rfl) ?_
    refine tl_callo ca38 rfl (fun w hw => isagogeref02_Concepts_ok b hr_b (by (have h_ : axiomsN b ≤ 60 := (by omega)); unfold axiomsN at h_; omega) hw) rfl ?_
    rintro _ R41 _ hle42 ⟨A_z40_0, d_z40_0, rfl, rfl, hs_z40_0⟩
    try replace hr2 := kNames.mono _ _ _ _ hle42 hr2
    try replace hs8 := hs8.mono hle42
    try replace hs11 := hs11.mono hle42
    try replace hs14 := hs14.mono hle42
    have z43 := hs_z40_0.size
    unfold big at z43
    have hf44 := conceptsB_len b
    refine tl (v_len rfl sl35) ?_
    refine tl (v_move rfl) ?_
    refine tl_nil <| tx_then <| tc_block ?_
    refine tc_loop ?_
    refine th_loopS (fun i : Nat => (conceptsB b).length - i) (fun i : Nat => [(1, .pointer (some ⟨b31, 0, none⟩)), (24, .slice A_z40_0 ((conceptsB b).length) d_z40_0), (25, .int .i64 ((conceptsB b).length : Int)), (26, .int .i64 (i : Int)), (3, .int .i64 ((nodesL ((conceptsB b).take i) : Nat) : Int))]) (fun i : Nat => (.blk b31 [.slice A15 b.names.concepts.length d16, .slice A19 b.names.roles.length d20, .slice A23 b.names.inds.length d24, .slice A3 b.incls.length d4, .slice A6 b.roles.length d7, .slice A9 b.facts.length d10, .slice A12 b.links.length d13] 30 :: G)) (fun (i : Nat) => i ≤ (conceptsB b).length ∧ nodesL ((conceptsB b).take i) ≤ i * 400 ∧ ∀ c ∈ (conceptsB b).take i, okC b.names c) (0) ⟨rfl, rfl, rfl, rfl, congrArg (fun z => some (Value.int .i64 z)) (show (0 : Int) = ((nodesL ((conceptsB b).take 0) : Nat) : Int) by first | rfl | omega | (simp; done) | (simp; omega)), trivial⟩ (by exact ⟨by omega, by simp [nodesL], by simp⟩) (fun w hw => hw) ?_
    rintro i hI45 ih46
    show TC Tryz.prog _ _ _ [] [(1, .pointer (some ⟨b31, 0, none⟩)), (24, .slice A_z40_0 ((conceptsB b).length) d_z40_0), (25, .int .i64 ((conceptsB b).length : Int)), (26, .int .i64 (i : Int)), (3, .int .i64 ((nodesL ((conceptsB b).take i) : Nat) : Int))] R41 (.blk b31 [.slice A15 b.names.concepts.length d16, .slice A19 b.names.roles.length d20, .slice A23 b.names.inds.length d24, .slice A3 b.incls.length d4, .slice A6 b.roles.length d7, .slice A9 b.facts.length d10, .slice A12 b.links.length d13] 30 :: G)
    obtain ⟨hi1, hi2, hi3⟩ := hI45
    have hc_ := conceptsB_len b
    have hx_ : axiomsN b ≤ 60 := by omega
    unfold axiomsN at hx_
    refine tc_seq <| tc_region ?_
    refine tl (v_ib rfl rfl rfl) ?_
    refine tl_nil <| tx_then <| tc_seq ?_
    refine tc_split 27 rfl (fun h49 => ?_) (fun h49 => ?_)
    ·
     refine tc_yes rfl ?_
     refine tc_skip <| tx_then <| tc_seq <| tc_block <| tc_seq <| tc_region ?_
     have hb55 : i < (conceptsB b).length := by omega
     obtain ⟨x50, hx51⟩ : ∃ x, (conceptsB b)[i]? = some x := ⟨_, List.getElem?_eq_getElem hb55⟩
     obtain ⟨c52, hr53, ha54⟩ := hs_z40_0.get _ x50 hx51
     obtain ⟨A56, d57, rfl, i58, i59, hs60⟩ := kConcept_open hr53
     unfold i64 at i58 i59
     have z61 := hs60.size
     unfold big at z61
     have hf62 := nodesL_take hx51
     refine tl (v_idxS (i := i) hs_z40_0 rfl rfl rfl sl35 hb55) ?_
     refine tl (v_ldA_agg 0 [.int .i64 x50.op, .int .i64 x50.n, .slice A56 x50.args.length d57] ha54 rfl ld37 rfl rfl) ?_
     refine tl_alloc zc37 rfl fun b63 => ?_
     refine tl_st 0 [.int .i64 x50.op, .int .i64 x50.n, .slice A56 x50.args.length d57] rfl rfl ld37 rfl rfl rfl rfl rfl rfl ?_
     refine tl_nil <| tx_then <| tc_seq <| tc_seq <| tc_region ?_
     refine tl (v_fieldAddr 0 rfl fo30_0 rfl) ?_
     refine tl (v_ld_agg 1 [.slice A15 b.names.concepts.length d16, .slice A19 b.names.roles.length d20, .slice A23 b.names.inds.length d24] rfl ld24 rfl rfl) ?_
     refine tl (v_ld_agg 0 [.int .i64 x50.op, .int .i64 x50.n, .slice A56 x50.args.length d57] rfl ld37 rfl rfl) ?_
     refine tl_callv ca29 rfl (fun w hw => isagogeref01_Is_ok b.names x50 hr2 hr53 hw) rfl ?_
     refine tl (v_negd rfl) ?_
     refine tl_nil <| tx_then ?_
     refine tc_split 34 rfl (fun h64 => ?_) (fun h64 => ?_)
     ·
      refine tc_yes rfl ?_
      refine tc_seq <| tc_region ?_
      refine tl (v_assign rfl) ?_
      refine tl_nil <| tx_then <| tc_ret <| tx_then_ret <| tx_blk_ret <| tx_then_ret <| tx_then_ret <| tx_blk_ret <| tx_then_ret ?_
      refine tx_ret1 (.inl rfl) rfl rfl ?_
      have e65 : (false : Bool) = baseB b := by (rw [eq_comm]; unfold baseB; rw [decide_eq_false_iff_not]; intro h_; have h1_ := h_.concepts _ (List.mem_of_getElem? hx51); unfold okC at h1_; grind)
      exact fun w hw => ⟨congrArg Ending.returned (congrArg (fun x0 => Value.bool x0) e65), (hw.drop 2).weaken hle42⟩
     ·
      refine tc_no rfl ?_
      refine tc_skip <| tx_then <| tc_seq <| tc_region ?_
      refine tl (v_ld_agg 0 [.int .i64 x50.op, .int .i64 x50.n, .slice A56 x50.args.length d57] rfl ld37 rfl rfl) ?_
      refine tl_callv ca39 rfl (fun w hw => isagogeref01_Size_ok x50 hr53 (by grind) hw) rfl ?_
      refine tl (v_move rfl) ?_
      refine tl (v_extract rfl rfl) ?_
      refine tl (v_extract rfl rfl) ?_
      refine tl (v_assign rfl) ?_
      refine tl (v_assign rfl) ?_
      refine tl_nil <| tx_then <| tc_region ?_
      refine tl (v_move rfl) ?_
      refine tl (v_move rfl) ?_
      refine tl (v_add rfl rfl (by omega) (by omega)) ?_
      refine tl (v_assign rfl) ?_
      refine tl_nil <| tx_blk <| tx_then <| tc_region ?_
      refine tl (v_add rfl rfl (by omega) (by omega)) ?_
      refine tl (v_move rfl) ?_
      refine tl_nil ?_
      refine tx_round ?_
      exact fun a w ha hw => ih46.out (i + 1) (by exact ⟨by omega, by grind, all_take hi3 hx51 (by unfold okC; grind)⟩) (by (try dsimp only); omega) a w (ha.sub (lkAll_lk ⟨rfl, rfl, rfl, rfl, congrArg (fun z => some (Value.int .i64 z)) (show (((nodesL ((conceptsB b).take i) : Nat) : Int) + (nodesC x50 : Int) : Int) = ((nodesL ((conceptsB b).take (i + 1)) : Nat) : Int) by first | rfl | omega), trivial⟩)) (hw.drop 1)
    ·
     refine tc_no rfl ?_
     refine tc_exit <| tx_then_exit <| tx_then_exit <| tx_blk_exit <| tx_then <| tc_seq <| tc_seq <| tc_region ?_
     refine tl (v_fieldAddr 4 rfl fo30_2 rfl) ?_
     refine tl (v_ld 0 rfl ld26 rfl rfl) ?_
     refine tl (v_len rfl sl26) ?_
     refine tl (v_move rfl) ?_
     refine tl_nil <| tx_then <| tc_block ?_
     refine tc_loop ?_
     refine th_loopS (fun j : Nat => b.roles.length - j) (fun j : Nat => [(1, .pointer (some ⟨b31, 0, none⟩)), (3, .int .i64 ((nodesL ((conceptsB b).take i) : Nat) : Int)), (45, .slice A6 b.roles.length d7), (46, .int .i64 (b.roles.length : Int)), (47, .int .i64 (j : Int))]) (fun j : Nat => (.blk b31 [.slice A15 b.names.concepts.length d16, .slice A19 b.names.roles.length d20, .slice A23 b.names.inds.length d24, .slice A3 b.incls.length d4, .slice A6 b.roles.length d7, .slice A9 b.facts.length d10, .slice A12 b.links.length d13] 30 :: G)) (fun (j : Nat) => j ≤ b.roles.length ∧ ∀ x ∈ b.roles.take j, okR b.names x.sub ∧ okR b.names x.sup) (0) ⟨rfl, rfl, rfl, rfl, rfl, trivial⟩ (by exact ⟨by omega, by simp⟩) (fun w hw => hw) ?_
     rintro j hI66 ih67
     show TC Tryz.prog _ _ _ [] [(1, .pointer (some ⟨b31, 0, none⟩)), (3, .int .i64 ((nodesL ((conceptsB b).take i) : Nat) : Int)), (45, .slice A6 b.roles.length d7), (46, .int .i64 (b.roles.length : Int)), (47, .int .i64 (j : Int))] R41 (.blk b31 [.slice A15 b.names.concepts.length d16, .slice A19 b.names.roles.length d20, .slice A23 b.names.inds.length d24, .slice A3 b.incls.length d4, .slice A6 b.roles.length d7, .slice A9 b.facts.length d10, .slice A12 b.links.length d13] 30 :: G)
     obtain ⟨hj1, hj2⟩ := hI66
     refine tc_seq <| tc_region ?_
     refine tl (v_ib rfl rfl rfl) ?_
     refine tl_nil <| tx_then <| tc_seq ?_
     refine tc_split 48 rfl (fun h70 => ?_) (fun h70 => ?_)
     ·
      refine tc_yes rfl ?_
      refine tc_skip <| tx_then <| tc_seq <| tc_block <| tc_seq <| tc_region ?_
      have hb76 : j < b.roles.length := by omega
      obtain ⟨x71, hx72⟩ : ∃ x, b.roles[j]? = some x := ⟨_, List.getElem?_eq_getElem hb76⟩
      obtain ⟨c73, hr74, ha75⟩ := hs8.get _ x71 hx72
      obtain ⟨rfl, i77, i78⟩ := id hr74
      unfold i64 at i77
      unfold i64 at i78
      refine tl (v_idxS (i := j) hs8 rfl rfl rfl sl26 hb76) ?_
      refine tl (v_ldA_agg 0 [.int .i64 x71.sub, .int .i64 x71.sup] ha75 rfl ld84 rfl rfl) ?_
      refine tl_alloc zc84 rfl fun b79 => ?_
      refine tl_st 0 [.int .i64 x71.sub, .int .i64 x71.sup] rfl rfl ld84 rfl rfl rfl rfl rfl rfl ?_
      refine tl_nil <| tx_then ?_
      refine tc_cut [(1, .pointer (some ⟨b31, 0, none⟩)), (3, .int .i64 ((nodesL ((conceptsB b).take i) : Nat) : Int)), (45, .slice A6 b.roles.length d7), (46, .int .i64 (b.roles.length : Int)), (47, .int .i64 (j : Int)), (48, .bool true), (9, .pointer (some ⟨b79, 0, none⟩)), (64, .bool (decide ((¬ (0 ≤ x71.sub ∧ x71.sub < 2 * (b.names.roles.length : Int))) ∨ (¬ (0 ≤ x71.sup ∧ x71.sup < 2 * (b.names.roles.length : Int))))))] (.blk b79 [.int .i64 x71.sub, .int .i64 x71.sup] 84 :: .blk b31 [.slice A15 b.names.concepts.length d16, .slice A19 b.names.roles.length d20, .slice A23 b.names.inds.length d24, .slice A3 b.incls.length d4, .slice A6 b.roles.length d7, .slice A9 b.facts.length d10, .slice A12 b.links.length d13] 30 :: G) (fun _ => True) (fun K hK80 hE81 => ?_) ?_
      ·
       refine tc_region ?_
       refine tl (v_fieldAddr 0 rfl fo30_0 rfl) ?_
       refine tl (v_ld_agg 1 [.slice A15 b.names.concepts.length d16, .slice A19 b.names.roles.length d20, .slice A23 b.names.inds.length d24] rfl ld24 rfl rfl) ?_
       refine tl (v_fieldAddr 0 rfl fo84_0 rfl) ?_
       refine tl (v_ld 0 rfl ld3 rfl rfl) ?_
       refine tl_callv ca40 rfl (fun w hw => isagogeref02_Role_ok b.names x71.sub hr2 (by unfold i64; omega) hw) rfl ?_
       refine tl (v_negd rfl) ?_
       refine tl (v_move rfl) ?_
       refine tl_split 57 rfl (fun h82 => ?_) (fun h82 => ?_)
       ·
        refine tl_gskip 57 rfl rfl rfl ?_
        refine tl_gskip 57 rfl rfl rfl ?_
        refine tl_gskip 57 rfl rfl rfl ?_
        refine tl_gskip 57 rfl rfl rfl ?_
        refine tl_gskip 57 rfl rfl rfl ?_
        refine tl_gskip 57 rfl rfl rfl ?_
        refine tl (v_pick_t rfl rfl) ?_
        refine tl_nil ?_
        exact tx_cut hK80 (.refl _) (trivial) ⟨rfl, rfl, rfl, rfl, rfl, rfl, rfl, show some (Value.bool true) = some (Value.bool (decide ((¬ (0 ≤ x71.sub ∧ x71.sub < 2 * (b.names.roles.length : Int))) ∨ (¬ (0 ≤ x71.sup ∧ x71.sup < 2 * (b.names.roles.length : Int)))))) by first | (simp [h82]; done) | grind | (simp [h82] <;> omega), trivial⟩ (fun w hw => hw)
       ·
        refine tl_grun 57 rfl rfl ?_
        refine tl (v_fieldAddr 0 rfl fo30_0 rfl) ?_
        refine tl_grun 57 rfl rfl ?_
        refine tl (v_ld_agg 1 [.slice A15 b.names.concepts.length d16, .slice A19 b.names.roles.length d20, .slice A23 b.names.inds.length d24] rfl ld24 rfl rfl) ?_
        refine tl_grun 57 rfl rfl ?_
        refine tl (v_fieldAddr 1 rfl fo84_1 rfl) ?_
        refine tl_grun 57 rfl rfl ?_
        refine tl (v_ld 0 rfl ld3 rfl rfl) ?_
        refine tl_grun 57 rfl rfl ?_
        refine tl_callv ca40 rfl (fun w hw => isagogeref02_Role_ok b.names x71.sup hr2 (by unfold i64; omega) hw) rfl ?_
        refine tl_grun 57 rfl rfl ?_
        refine tl (v_negd rfl) ?_
        refine tl (v_pick_f rfl rfl) ?_
        refine tl_nil ?_
        exact tx_cut hK80 (.refl _) (trivial) ⟨rfl, rfl, rfl, rfl, rfl, rfl, rfl, show some (Value.bool (decide (¬ (0 ≤ x71.sup ∧ x71.sup < 2 * (b.names.roles.length : Int))))) = some (Value.bool (decide ((¬ (0 ≤ x71.sub ∧ x71.sub < 2 * (b.names.roles.length : Int))) ∨ (¬ (0 ≤ x71.sup ∧ x71.sup < 2 * (b.names.roles.length : Int)))))) by first | (simp [h82]; done) | grind | (simp [h82] <;> omega), trivial⟩ (fun w hw => hw)
      ·
       refine fun R84 hle85 hj83 => tc_weaken hle85 ?_
       refine tc_split 64 rfl (fun h86 => ?_) (fun h86 => ?_)
       ·
        refine tc_yes rfl ?_
        refine tc_seq <| tc_region ?_
        refine tl (v_assign rfl) ?_
        refine tl_nil <| tx_then <| tc_ret <| tx_blk_ret <| tx_then_ret <| tx_then_ret <| tx_blk_ret <| tx_then_ret ?_
        refine tx_ret1 (.inl rfl) rfl rfl ?_
        have e87 : (false : Bool) = baseB b := by (rw [eq_comm]; unfold baseB; rw [decide_eq_false_iff_not]; intro h_; have h1_ := h_.roles _ (List.mem_of_getElem? hx72); unfold okR at h1_; grind)
        exact fun w hw => ⟨congrArg Ending.returned (congrArg (fun x0 => Value.bool x0) e87), (hw.drop 2).weaken hle42⟩
       ·
        refine tc_no rfl ?_
        refine tc_skip <| tx_blk <| tx_then <| tc_region ?_
        refine tl (v_add rfl rfl (by omega) (by omega)) ?_
        refine tl (v_move rfl) ?_
        refine tl_nil ?_
        refine tx_round ?_
        exact fun a w ha hw => ih67.out (j + 1) (by exact ⟨by omega, all_take hj2 hx72 (by unfold okR; grind)⟩) (by (try dsimp only); omega) a w (ha.sub (lkAll_lk ⟨rfl, rfl, rfl, rfl, congrArg (fun z => some (Value.int .i64 z)) (show ((j : Int) + 1 : Int) = ((j + 1) : Int) by first | rfl | omega), trivial⟩)) (hw.drop 1)
     ·
      refine tc_no rfl ?_
      refine tc_exit <| tx_then_exit <| tx_then_exit <| tx_blk_exit <| tx_then <| tc_seq <| tc_seq <| tc_region ?_
      refine tl (v_fieldAddr 5 rfl fo30_3 rfl) ?_
      refine tl (v_ld 0 rfl ld27 rfl rfl) ?_
      refine tl (v_len rfl sl27) ?_
      refine tl (v_move rfl) ?_
      refine tl_nil <| tx_then <| tc_block ?_
      refine tc_loop ?_
      refine th_loopS (fun k : Nat => b.facts.length - k) (fun k : Nat => [(1, .pointer (some ⟨b31, 0, none⟩)), (3, .int .i64 ((nodesL ((conceptsB b).take i) : Nat) : Int)), (67, .slice A9 b.facts.length d10), (68, .int .i64 (b.facts.length : Int)), (69, .int .i64 (k : Int))]) (fun k : Nat => (.blk b31 [.slice A15 b.names.concepts.length d16, .slice A19 b.names.roles.length d20, .slice A23 b.names.inds.length d24, .slice A3 b.incls.length d4, .slice A6 b.roles.length d7, .slice A9 b.facts.length d10, .slice A12 b.links.length d13] 30 :: G)) (fun (k : Nat) => k ≤ b.facts.length ∧ ∀ x ∈ b.facts.take k, okI b.names x.ind) (0) ⟨rfl, rfl, rfl, rfl, rfl, trivial⟩ (by exact ⟨by omega, by simp⟩) (fun w hw => hw) ?_
      rintro k hI88 ih89
      show TC Tryz.prog _ _ _ [] [(1, .pointer (some ⟨b31, 0, none⟩)), (3, .int .i64 ((nodesL ((conceptsB b).take i) : Nat) : Int)), (67, .slice A9 b.facts.length d10), (68, .int .i64 (b.facts.length : Int)), (69, .int .i64 (k : Int))] R41 (.blk b31 [.slice A15 b.names.concepts.length d16, .slice A19 b.names.roles.length d20, .slice A23 b.names.inds.length d24, .slice A3 b.incls.length d4, .slice A6 b.roles.length d7, .slice A9 b.facts.length d10, .slice A12 b.links.length d13] 30 :: G)
      obtain ⟨hk1, hk2⟩ := hI88
      refine tc_seq <| tc_region ?_
      refine tl (v_ib rfl rfl rfl) ?_
      refine tl_nil <| tx_then <| tc_seq ?_
      refine tc_split 70 rfl (fun h92 => ?_) (fun h92 => ?_)
      ·
       refine tc_yes rfl ?_
       refine tc_skip <| tx_then <| tc_seq <| tc_block <| tc_seq <| tc_region ?_
       have hb98 : k < b.facts.length := by omega
       obtain ⟨x93, hx94⟩ : ∃ x, b.facts[k]? = some x := ⟨_, List.getElem?_eq_getElem hb98⟩
       obtain ⟨c95, hr96, ha97⟩ := hs11.get _ x93 hx94
       obtain ⟨c99, rfl, i100, hr101⟩ := id hr96
       unfold i64 at i100
       obtain ⟨A102, d103, rfl, i104, i105, hs106⟩ := kConcept_open hr101
       unfold i64 at i104 i105
       have z107 := hs106.size
       unfold big at z107
       refine tl (v_idxS (i := k) hs11 rfl rfl rfl sl27 hb98) ?_
       refine tl (v_ldA_agg 0 [.int .i64 x93.ind, .int .i64 x93.con.op, .int .i64 x93.con.n, .slice A102 x93.con.args.length d103] ha97 rfl ld87 rfl rfl) ?_
       refine tl_alloc zc87 rfl fun b108 => ?_
       refine tl_st 0 [.int .i64 x93.ind, .int .i64 x93.con.op, .int .i64 x93.con.n, .slice A102 x93.con.args.length d103] rfl rfl ld87 rfl rfl rfl rfl rfl rfl ?_
       refine tl_nil <| tx_then <| tc_seq <| tc_region ?_
       refine tl (v_fieldAddr 0 rfl fo30_0 rfl) ?_
       refine tl (v_ld_agg 1 [.slice A15 b.names.concepts.length d16, .slice A19 b.names.roles.length d20, .slice A23 b.names.inds.length d24] rfl ld24 rfl rfl) ?_
       refine tl (v_fieldAddr 0 rfl fo87_0 rfl) ?_
       refine tl (v_ld 0 rfl ld3 rfl rfl) ?_
       refine tl_callv ca41 rfl (fun w hw => isagogeref02_Ind_ok b.names x93.ind hr2 (by unfold i64; omega) hw) rfl ?_
       refine tl (v_negd rfl) ?_
       refine tl_nil <| tx_then ?_
       refine tc_split 78 rfl (fun h109 => ?_) (fun h109 => ?_)
       ·
        refine tc_yes rfl ?_
        refine tc_seq <| tc_region ?_
        refine tl (v_assign rfl) ?_
        refine tl_nil <| tx_then <| tc_ret <| tx_blk_ret <| tx_then_ret <| tx_then_ret <| tx_blk_ret <| tx_then_ret ?_
        refine tx_ret1 (.inl rfl) rfl rfl ?_
        have e110 : (false : Bool) = baseB b := by (rw [eq_comm]; unfold baseB; rw [decide_eq_false_iff_not]; intro h_; have h1_ := h_.facts _ (List.mem_of_getElem? hx94); unfold okI at h1_; grind)
        exact fun w hw => ⟨congrArg Ending.returned (congrArg (fun x0 => Value.bool x0) e110), (hw.drop 2).weaken hle42⟩
       ·
        refine tc_no rfl ?_
        refine tc_skip <| tx_blk <| tx_then <| tc_region ?_
        refine tl (v_add rfl rfl (by omega) (by omega)) ?_
        refine tl (v_move rfl) ?_
        refine tl_nil ?_
        refine tx_round ?_
        exact fun a w ha hw => ih89.out (k + 1) (by exact ⟨by omega, all_take hk2 hx94 (by unfold okI; grind)⟩) (by (try dsimp only); omega) a w (ha.sub (lkAll_lk ⟨rfl, rfl, rfl, rfl, congrArg (fun z => some (Value.int .i64 z)) (show ((k : Int) + 1 : Int) = ((k + 1) : Int) by first | rfl | omega), trivial⟩)) (hw.drop 1)
      ·
       refine tc_no rfl ?_
       refine tc_exit <| tx_then_exit <| tx_then_exit <| tx_blk_exit <| tx_then <| tc_seq <| tc_seq <| tc_region ?_
       refine tl (v_fieldAddr 6 rfl fo30_4 rfl) ?_
       refine tl (v_ld 0 rfl ld28 rfl rfl) ?_
       refine tl (v_len rfl sl28) ?_
       refine tl (v_move rfl) ?_
       refine tl_nil <| tx_then <| tc_block ?_
       refine tc_loop ?_
       refine th_loopS (fun q : Nat => b.links.length - q) (fun q : Nat => [(1, .pointer (some ⟨b31, 0, none⟩)), (3, .int .i64 ((nodesL ((conceptsB b).take i) : Nat) : Int)), (81, .slice A12 b.links.length d13), (82, .int .i64 (b.links.length : Int)), (83, .int .i64 (q : Int))]) (fun q : Nat => (.blk b31 [.slice A15 b.names.concepts.length d16, .slice A19 b.names.roles.length d20, .slice A23 b.names.inds.length d24, .slice A3 b.incls.length d4, .slice A6 b.roles.length d7, .slice A9 b.facts.length d10, .slice A12 b.links.length d13] 30 :: G)) (fun (q : Nat) => q ≤ b.links.length ∧ ∀ x ∈ b.links.take q, okL b.names x) (0) ⟨rfl, rfl, rfl, rfl, rfl, trivial⟩ (by exact ⟨by omega, by simp⟩) (fun w hw => hw) ?_
       rintro q hI111 ih112
       show TC Tryz.prog _ _ _ [] [(1, .pointer (some ⟨b31, 0, none⟩)), (3, .int .i64 ((nodesL ((conceptsB b).take i) : Nat) : Int)), (81, .slice A12 b.links.length d13), (82, .int .i64 (b.links.length : Int)), (83, .int .i64 (q : Int))] R41 (.blk b31 [.slice A15 b.names.concepts.length d16, .slice A19 b.names.roles.length d20, .slice A23 b.names.inds.length d24, .slice A3 b.incls.length d4, .slice A6 b.roles.length d7, .slice A9 b.facts.length d10, .slice A12 b.links.length d13] 30 :: G)
       obtain ⟨hq1, hq2⟩ := hI111
       refine tc_seq <| tc_region ?_
       refine tl (v_ib rfl rfl rfl) ?_
       refine tl_nil <| tx_then <| tc_seq ?_
       refine tc_split 84 rfl (fun h115 => ?_) (fun h115 => ?_)
       ·
        refine tc_yes rfl ?_
        refine tc_skip <| tx_then <| tc_seq <| tc_block <| tc_seq <| tc_region ?_
        have hb121 : q < b.links.length := by omega
        obtain ⟨x116, hx117⟩ : ∃ x, b.links[q]? = some x := ⟨_, List.getElem?_eq_getElem hb121⟩
        obtain ⟨c118, hr119, ha120⟩ := hs14.get _ x116 hx117
        obtain ⟨rfl, i122, i123, i124⟩ := id hr119
        unfold i64 at i122
        unfold i64 at i123
        unfold i64 at i124
        refine tl (v_idxS (i := q) hs14 rfl rfl rfl sl28 hb121) ?_
        refine tl (v_ldA_agg 0 [.int .i64 x116.role, .int .i64 x116.frm, .int .i64 x116.to] ha120 rfl ld89 rfl rfl) ?_
        refine tl_alloc zc89 rfl fun b125 => ?_
        refine tl_st 0 [.int .i64 x116.role, .int .i64 x116.frm, .int .i64 x116.to] rfl rfl ld89 rfl rfl rfl rfl rfl rfl ?_
        refine tl_nil <| tx_then ?_
        refine tc_cut [(1, .pointer (some ⟨b31, 0, none⟩)), (3, .int .i64 ((nodesL ((conceptsB b).take i) : Nat) : Int)), (81, .slice A12 b.links.length d13), (82, .int .i64 (b.links.length : Int)), (83, .int .i64 (q : Int)), (84, .bool true), (13, .pointer (some ⟨b125, 0, none⟩)), (114, .bool (decide ((((x116.role < 0) ∨ ((b.names.roles.length : Int) ≤ x116.role)) ∨ (¬ (0 ≤ x116.frm ∧ x116.frm < (b.names.inds.length : Int)))) ∨ (¬ (0 ≤ x116.to ∧ x116.to < (b.names.inds.length : Int))))))] (.blk b125 [.int .i64 x116.role, .int .i64 x116.frm, .int .i64 x116.to] 89 :: .blk b31 [.slice A15 b.names.concepts.length d16, .slice A19 b.names.roles.length d20, .slice A23 b.names.inds.length d24, .slice A3 b.incls.length d4, .slice A6 b.roles.length d7, .slice A9 b.facts.length d10, .slice A12 b.links.length d13] 30 :: G) (fun _ => True) (fun K hK126 hE127 => ?_) ?_
        ·
         refine tc_region ?_
         refine tl (v_fieldAddr 0 rfl fo89_0 rfl) ?_
         refine tl (v_ld 0 rfl ld3 rfl rfl) ?_
         refine tl (v_ib rfl rfl rfl) ?_
         refine tl (v_move rfl) ?_
         refine tl_split 90 rfl (fun h128 => ?_) (fun h128 => ?_)
         ·
          refine tl_gskip 90 rfl rfl rfl ?_
          refine tl_gskip 90 rfl rfl rfl ?_
          refine tl_gskip 90 rfl rfl rfl ?_
          refine tl_gskip 90 rfl rfl rfl ?_
          refine tl_gskip 90 rfl rfl rfl ?_
          refine tl_gskip 90 rfl rfl rfl ?_
          refine tl_gskip 90 rfl rfl rfl ?_
          refine tl (v_pick_t rfl rfl) ?_
          refine tl (v_move rfl) ?_
          refine tl_gskip 99 rfl rfl rfl ?_
          refine tl_gskip 99 rfl rfl rfl ?_
          refine tl_gskip 99 rfl rfl rfl ?_
          refine tl_gskip 99 rfl rfl rfl ?_
          refine tl_gskip 99 rfl rfl rfl ?_
          refine tl_gskip 99 rfl rfl rfl ?_
          refine tl (v_pick_t rfl rfl) ?_
          refine tl (v_move rfl) ?_
          refine tl_gskip 107 rfl rfl rfl ?_
          refine tl_gskip 107 rfl rfl rfl ?_
          refine tl_gskip 107 rfl rfl rfl ?_
          refine tl_gskip 107 rfl rfl rfl ?_
          refine tl_gskip 107 rfl rfl rfl ?_
          refine tl_gskip 107 rfl rfl rfl ?_
          refine tl (v_pick_t rfl rfl) ?_
          refine tl_nil ?_
          exact tx_cut hK126 (.refl _) (trivial) ⟨rfl, rfl, rfl, rfl, rfl, rfl, rfl, show some (Value.bool true) = some (Value.bool (decide ((((x116.role < 0) ∨ ((b.names.roles.length : Int) ≤ x116.role)) ∨ (¬ (0 ≤ x116.frm ∧ x116.frm < (b.names.inds.length : Int)))) ∨ (¬ (0 ≤ x116.to ∧ x116.to < (b.names.inds.length : Int)))))) by first | (simp [h128]; done) | grind | (simp [h128] <;> omega), trivial⟩ (fun w hw => hw)
         ·
          refine tl_grun 90 rfl rfl ?_
          refine tl (v_fieldAddr 0 rfl fo89_0 rfl) ?_
          refine tl_grun 90 rfl rfl ?_
          refine tl (v_ld 0 rfl ld3 rfl rfl) ?_
          refine tl_grun 90 rfl rfl ?_
          refine tl (v_fieldAddr 0 rfl fo30_0 rfl) ?_
          refine tl_grun 90 rfl rfl ?_
          refine tl (v_fieldAddr 1 rfl fo24_1 rfl) ?_
          refine tl_grun 90 rfl rfl ?_
          refine tl (v_ld 1 rfl ld22 rfl rfl) ?_
          refine tl_grun 90 rfl rfl ?_
          refine tl (v_len rfl sl22) ?_
          refine tl_grun 90 rfl rfl ?_
          refine tl (v_ib rfl rfl rfl) ?_
          refine tl (v_pick_f rfl rfl) ?_
          refine tl (v_move rfl) ?_
          refine tl_split 99 rfl (fun h129 => ?_) (fun h129 => ?_)
          ·
           refine tl_gskip 99 rfl rfl rfl ?_
           refine tl_gskip 99 rfl rfl rfl ?_
           refine tl_gskip 99 rfl rfl rfl ?_
           refine tl_gskip 99 rfl rfl rfl ?_
           refine tl_gskip 99 rfl rfl rfl ?_
           refine tl_gskip 99 rfl rfl rfl ?_
           refine tl (v_pick_t rfl rfl) ?_
           refine tl (v_move rfl) ?_
           refine tl_gskip 107 rfl rfl rfl ?_
           refine tl_gskip 107 rfl rfl rfl ?_
           refine tl_gskip 107 rfl rfl rfl ?_
           refine tl_gskip 107 rfl rfl rfl ?_
           refine tl_gskip 107 rfl rfl rfl ?_
           refine tl_gskip 107 rfl rfl rfl ?_
           refine tl (v_pick_t rfl rfl) ?_
           refine tl_nil ?_
           exact tx_cut hK126 (.refl _) (trivial) ⟨rfl, rfl, rfl, rfl, rfl, rfl, rfl, show some (Value.bool true) = some (Value.bool (decide ((((x116.role < 0) ∨ ((b.names.roles.length : Int) ≤ x116.role)) ∨ (¬ (0 ≤ x116.frm ∧ x116.frm < (b.names.inds.length : Int)))) ∨ (¬ (0 ≤ x116.to ∧ x116.to < (b.names.inds.length : Int)))))) by first | (simp [h128, h129]; done) | grind | (simp [h128, h129] <;> omega), trivial⟩ (fun w hw => hw)
          ·
           refine tl_grun 99 rfl rfl ?_
           refine tl (v_fieldAddr 0 rfl fo30_0 rfl) ?_
           refine tl_grun 99 rfl rfl ?_
           refine tl (v_ld_agg 1 [.slice A15 b.names.concepts.length d16, .slice A19 b.names.roles.length d20, .slice A23 b.names.inds.length d24] rfl ld24 rfl rfl) ?_
           refine tl_grun 99 rfl rfl ?_
           refine tl (v_fieldAddr 1 rfl fo89_1 rfl) ?_
           refine tl_grun 99 rfl rfl ?_
           refine tl (v_ld 0 rfl ld3 rfl rfl) ?_
           refine tl_grun 99 rfl rfl ?_
           refine tl_callv ca41 rfl (fun w hw => isagogeref02_Ind_ok b.names x116.frm hr2 (by unfold i64; omega) hw) rfl ?_
           refine tl_grun 99 rfl rfl ?_
           refine tl (v_negd rfl) ?_
           refine tl (v_pick_f rfl rfl) ?_
           refine tl (v_move rfl) ?_
           refine tl_split 107 rfl (fun h130 => ?_) (fun h130 => ?_)
           ·
            refine tl_gskip 107 rfl rfl rfl ?_
            refine tl_gskip 107 rfl rfl rfl ?_
            refine tl_gskip 107 rfl rfl rfl ?_
            refine tl_gskip 107 rfl rfl rfl ?_
            refine tl_gskip 107 rfl rfl rfl ?_
            refine tl_gskip 107 rfl rfl rfl ?_
            refine tl (v_pick_t rfl rfl) ?_
            refine tl_nil ?_
            exact tx_cut hK126 (.refl _) (trivial) ⟨rfl, rfl, rfl, rfl, rfl, rfl, rfl, show some (Value.bool true) = some (Value.bool (decide ((((x116.role < 0) ∨ ((b.names.roles.length : Int) ≤ x116.role)) ∨ (¬ (0 ≤ x116.frm ∧ x116.frm < (b.names.inds.length : Int)))) ∨ (¬ (0 ≤ x116.to ∧ x116.to < (b.names.inds.length : Int)))))) by first | (simp [h128, h129, h130]; done) | grind | (simp [h128, h129, h130] <;> omega), trivial⟩ (fun w hw => hw)
           ·
            refine tl_grun 107 rfl rfl ?_
            refine tl (v_fieldAddr 0 rfl fo30_0 rfl) ?_
            refine tl_grun 107 rfl rfl ?_
            refine tl (v_ld_agg 1 [.slice A15 b.names.concepts.length d16, .slice A19 b.names.roles.length d20, .slice A23 b.names.inds.length d24] rfl ld24 rfl rfl) ?_
            refine tl_grun 107 rfl rfl ?_
            refine tl (v_fieldAddr 2 rfl fo89_2 rfl) ?_
            refine tl_grun 107 rfl rfl ?_
            refine tl (v_ld 0 rfl ld3 rfl rfl) ?_
            refine tl_grun 107 rfl rfl ?_
            refine tl_callv ca41 rfl (fun w hw => isagogeref02_Ind_ok b.names x116.to hr2 (by unfold i64; omega) hw) rfl ?_
            refine tl_grun 107 rfl rfl ?_
            refine tl (v_negd rfl) ?_
            refine tl (v_pick_f rfl rfl) ?_
            refine tl_nil ?_
            exact tx_cut hK126 (.refl _) (trivial) ⟨rfl, rfl, rfl, rfl, rfl, rfl, rfl, show some (Value.bool (decide (¬ (0 ≤ x116.to ∧ x116.to < (b.names.inds.length : Int))))) = some (Value.bool (decide ((((x116.role < 0) ∨ ((b.names.roles.length : Int) ≤ x116.role)) ∨ (¬ (0 ≤ x116.frm ∧ x116.frm < (b.names.inds.length : Int)))) ∨ (¬ (0 ≤ x116.to ∧ x116.to < (b.names.inds.length : Int)))))) by first | (simp [h128, h129, h130]; done) | grind | (simp [h128, h129, h130] <;> omega), trivial⟩ (fun w hw => hw)
        ·
         refine fun R132 hle133 hj131 => tc_weaken hle133 ?_
         refine tc_split 114 rfl (fun h134 => ?_) (fun h134 => ?_)
         ·
          refine tc_yes rfl ?_
          refine tc_seq <| tc_region ?_
          refine tl (v_assign rfl) ?_
          refine tl_nil <| tx_then <| tc_ret <| tx_blk_ret <| tx_then_ret <| tx_then_ret <| tx_blk_ret <| tx_then_ret ?_
          refine tx_ret1 (.inl rfl) rfl rfl ?_
          have e135 : (false : Bool) = baseB b := by (rw [eq_comm]; unfold baseB; rw [decide_eq_false_iff_not]; intro h_; have h1_ := h_.links _ (List.mem_of_getElem? hx117); unfold okL okI at h1_; grind)
          exact fun w hw => ⟨congrArg Ending.returned (congrArg (fun x0 => Value.bool x0) e135), (hw.drop 2).weaken hle42⟩
         ·
          refine tc_no rfl ?_
          refine tc_skip <| tx_blk <| tx_then <| tc_region ?_
          refine tl (v_add rfl rfl (by omega) (by omega)) ?_
          refine tl (v_move rfl) ?_
          refine tl_nil ?_
          refine tx_round ?_
          exact fun a w ha hw => ih112.out (q + 1) (by exact ⟨by omega, all_take hq2 hx117 (by unfold okL okI; grind)⟩) (by (try dsimp only); omega) a w (ha.sub (lkAll_lk ⟨rfl, rfl, rfl, rfl, congrArg (fun z => some (Value.int .i64 z)) (show ((q : Int) + 1 : Int) = ((q + 1) : Int) by first | rfl | omega), trivial⟩)) (hw.drop 1)
       ·
        refine tc_no rfl ?_
        refine tc_exit <| tx_then_exit <| tx_then_exit <| tx_blk_exit <| tx_then <| tc_seq <| tc_region ?_
        refine tl (v_move rfl) ?_
        refine tl (v_ib rfl rfl rfl) ?_
        refine tl (v_assign rfl) ?_
        refine tl_nil <| tx_then <| tc_ret ?_
        refine tx_ret1 (.inl rfl) rfl rfl ?_
        have e136 : (decide (((nodesL ((conceptsB b).take i) : Nat) : Int) ≤ 400) : Bool) = baseB b := by (rw [take_all (by assumption) (by assumption)] at hi3 ⊢; rw [take_all (by assumption) (by assumption)] at hj2; rw [take_all (by assumption) (by assumption)] at hk2; rw [take_all (by assumption) (by assumption)] at hq2; rw [Bool.eq_iff_iff, decide_eq_true_eq]; unfold baseB; rw [decide_eq_true_eq]; exact ⟨fun h => ⟨by grind, by omega, hi3, hj2, hk2, hq2, by omega⟩, fun h => by have := h.nodes; omega⟩)
        exact fun w hw => ⟨congrArg Ending.returned (congrArg (fun x0 => Value.bool x0) e136), (hw.drop 1).weaken hle42⟩

end Go.Proofs.YtcbcdlajnmkioaaGreatDoor
