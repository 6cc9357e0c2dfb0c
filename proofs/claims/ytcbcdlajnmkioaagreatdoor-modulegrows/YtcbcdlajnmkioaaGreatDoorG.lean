/- A part of the proof of the statement ModuleGrows of isagogelaw19: functions walked, and plain laws on what they answer. -/
import Derived.Test.YtcbcdlajnmkioaaGreatDoorF
namespace Go.Proofs.YtcbcdlajnmkioaaGreatDoor
open Go Go.Proofs
set_option linter.unusedSimpArgs false
set_option linter.unusedVariables false
theorem ap35 : apInfo Tryz.prog 35 = some (37, 3, 40, [.int .i64 0, .int .i64 0, .slice none 0 0]) := by kernel_rfl
theorem ca38 : Callable Tryz.prog 38 := ⟨by kernel_rfl⟩
theorem ca62 : Callable Tryz.prog 62 := ⟨by kernel_rfl⟩
theorem fo30_0 : fieldOff Tryz.prog 30 0 = some 0 := by kernel_rfl
theorem fo30_1 : fieldOff Tryz.prog 30 1 = some 3 := by kernel_rfl
theorem fo30_2 : fieldOff Tryz.prog 30 2 = some 4 := by kernel_rfl
theorem fo30_3 : fieldOff Tryz.prog 30 3 = some 5 := by kernel_rfl
theorem fo30_4 : fieldOff Tryz.prog 30 4 = some 6 := by kernel_rfl
theorem fo87_1 : fieldOff Tryz.prog 87 1 = some 1 := by kernel_rfl
theorem fo92_0 : fieldOff Tryz.prog 92 0 = some 0 := by kernel_rfl
theorem fo92_1 : fieldOff Tryz.prog 92 1 = some 3 := by kernel_rfl
theorem ld25 : ldInfo Tryz.prog 25 = some (false, 1) := by kernel_rfl
theorem ld26 : ldInfo Tryz.prog 26 = some (false, 1) := by kernel_rfl
theorem ld27 : ldInfo Tryz.prog 27 = some (false, 1) := by kernel_rfl
theorem ld28 : ldInfo Tryz.prog 28 = some (false, 1) := by kernel_rfl
theorem ld30 : ldInfo Tryz.prog 30 = some (true, 7) := by kernel_rfl
theorem ld87 : ldInfo Tryz.prog 87 = some (true, 4) := by kernel_rfl
theorem ld92 : ldInfo Tryz.prog 92 = some (true, 6) := by kernel_rfl
theorem sl25 : slElem Tryz.prog 25 = some (92, 6) := by kernel_rfl
theorem sl26 : slElem Tryz.prog 26 = some (84, 2) := by kernel_rfl
theorem sl27 : slElem Tryz.prog 27 = some (87, 4) := by kernel_rfl
theorem sl28 : slElem Tryz.prog 28 = some (89, 3) := by kernel_rfl
theorem zc87 : zcells Tryz.prog 87 = some [.int .i64 0, .int .i64 0, .int .i64 0, .slice none 0 0] := by kernel_rfl
theorem zc92 : zcells Tryz.prog 92 = some [.int .i64 0, .int .i64 0, .slice none 0 0, .int .i64 0, .int .i64 0, .slice none 0 0] := by kernel_rfl

def axiomsN (b : Base) : Nat := b.incls.length + b.roles.length + b.facts.length + b.links.length
def hasB (l : List Int) (x : Int) : Bool := decide (x ∈ l)
def risingB (l : List Int) (n : Int) : Bool := decide (Up l ∧ ∀ x ∈ l, 0 ≤ x ∧ x < n)
theorem up_get {l : List Int} (h : Up l) {i j : Nat} {x y : Int} (hx : l[i]? = some x) (hy : l[j]? = some y) (hij : j < i) : y < x := by
  obtain ⟨h1, rfl⟩ := List.getElem?_eq_some_iff.1 hx
  obtain ⟨h2, rfl⟩ := List.getElem?_eq_some_iff.1 hy
  exact (List.pairwise_iff_getElem.1 h) j i h2 h1 hij
theorem up_snoc {l : List Int} {x : Int} (h : Up l) (hx : ∀ y ∈ l, y < x) : Up (l ++ [x]) := by
  unfold Up; rw [List.pairwise_append]
  exact ⟨h, by simp, fun a ha b hb => by simp at hb; subst hb; exact hx a ha⟩
theorem up_take_last {l : List Int} {i : Nat} {x y : Int} (h : Up (l.take i)) (hx : l[i]? = some x) (hy : l[i - 1]? = some y) (h0 : 0 < i) (hxy : y < x) : ∀ z ∈ l.take i, z < x := by
  intro z hz
  obtain ⟨j, hj⟩ := List.mem_iff_getElem?.1 hz
  have hji : j < i := by have := (List.getElem?_eq_some_iff.1 hj).1; rw [List.length_take] at this; omega
  by_cases e : j = i - 1
  · subst e; rw [List.getElem?_take, if_pos hji, hy] at hj; cases hj; exact hxy
  · have := up_get h (i := i - 1) (j := j) (x := y) (by rw [List.getElem?_take, if_pos (by omega)]; exact hy) hj (by omega)
    omega

set_option maxRecDepth 20000 in
set_option maxHeartbeats 8000000 in
theorem isagogeref02_Axioms_ok {R : RO} {G : List Res} {w : World} {c_b : List Value} (b : Base) (hr_b : kBase.rep R b c_b) (hw : Own w R (G)) :
    Calls Tryz.prog 25 [.agg c_b.toArray].toArray w (Gives R G (.int .i64 (axiomsN b : Int))) := by
  obtain ⟨c1, A3, d4, A6, d7, A9, d10, A12, d13, rfl, hr2, hs5, hs8, hs11, hs14⟩ := id hr_b
  have z27 := hs5.size
  unfold big at z27
  have z28 := hs8.size
  unfold big at z28
  have z29 := hs11.size
  unfold big at z29
  have z30 := hs14.size
  unfold big at z30
  obtain ⟨A15, d16, A19, d20, A23, d24, rfl, hs17, hs21, hs25⟩ := id hr2
  have z18 := hs17.size
  unfold big at z18
  have z22 := hs21.size
  unfold big at z22
  have z26 := hs25.size
  unfold big at z26
  refine fn_enter (vs := [.agg #[.slice A15 b.names.concepts.length d16, .slice A19 b.names.roles.length d20, .slice A23 b.names.inds.length d24, .slice A3 b.incls.length d4, .slice A6 b.roles.length d7, .slice A9 b.facts.length d10, .slice A12 b.links.length d13]]) Tryz.func25 rfl rfl rfl ?_ hw
  refine tc_seq <| tc_region ?_
  refine tl_box_agg (l := [.slice A15 b.names.concepts.length d16, .slice A19 b.names.roles.length d20, .slice A23 b.names.inds.length d24, .slice A3 b.incls.length d4, .slice A6 b.roles.length d7, .slice A9 b.facts.length d10, .slice A12 b.links.length d13]) rfl rfl fun b31 => ?_
  refine tl (v_assign rfl) ?_
  refine tl_nil <| tx_then <| tc_seq <| tc_region ?_
  refine tl (v_fieldAddr 3 rfl fo30_1 rfl) ?_
  refine tl (v_ld 0 rfl ld25 rfl rfl) ?_
  refine tl (v_len rfl sl25) ?_
  refine tl (v_fieldAddr 4 rfl fo30_2 rfl) ?_
  refine tl (v_ld 0 rfl ld26 rfl rfl) ?_
  refine tl (v_len rfl sl26) ?_
  refine tl (v_add rfl rfl (by omega) (by omega)) ?_
  refine tl (v_fieldAddr 5 rfl fo30_3 rfl) ?_
  refine tl (v_ld 0 rfl ld27 rfl rfl) ?_
  refine tl (v_len rfl sl27) ?_
  refine tl (v_add rfl rfl (by omega) (by omega)) ?_
  refine tl (v_fieldAddr 6 rfl fo30_4 rfl) ?_
  refine tl (v_ld 0 rfl ld28 rfl rfl) ?_
  refine tl (v_len rfl sl28) ?_
  refine tl (v_add rfl rfl (by omega) (by omega)) ?_
  refine tl (v_assign rfl) ?_
  refine tl_nil <| tx_then <| tc_ret ?_
  refine tx_ret1 (.inl rfl) rfl rfl ?_
  have e32 : ((((b.incls.length : Int) + (b.roles.length : Int)) + (b.facts.length : Int)) + (b.links.length : Int) : Int) = (axiomsN b : Int) := by (simp only [axiomsN]; omega)
  exact fun w hw => ⟨congrArg Ending.returned (congrArg (fun x0 => Value.int .i64 x0) e32), hw.drop 1⟩

set_option maxRecDepth 20000 in
set_option maxHeartbeats 8000000 in
theorem isagogeref02_Rising_ok {R : RO} {G : List Res} {w : World} {A_l : Option Addr} {d_l : Nat} (l : List (Int)) (n : Int) (hs_l : SlAt kInt R A_l l) (hi_n : i64 n) (hw : Own w R (G)) :
    Calls Tryz.prog 24 [.slice A_l l.length d_l, .int .i64 n].toArray w (Gives R G (.bool (risingB l n))) := by
  have hz_l := hs_l.size
  unfold big at hz_l
  unfold i64 at hi_n
  refine fn_enter (vs := [.slice A_l l.length d_l, .int .i64 n]) Tryz.func24 rfl rfl rfl ?_ hw
  refine tc_seq <| tc_region ?_
  refine tl (v_assign rfl) ?_
  refine tl_nil <| tx_then <| tc_seq <| tc_seq <| tc_region ?_
  refine tl (v_move rfl) ?_
  refine tl (v_len rfl sl31) ?_
  refine tl (v_move rfl) ?_
  refine tl_nil <| tx_then <| tc_block ?_
  refine tc_loop ?_
  refine th_loopS (fun i : Nat => l.length - i) (fun i : Nat => [(0, .slice A_l l.length d_l), (1, .int .i64 n), (7, .slice A_l l.length d_l), (8, .int .i64 (l.length : Int)), (9, .int .i64 (i : Int))]) (fun i : Nat => (G)) (fun (i : Nat) => i ≤ l.length ∧ Up (l.take i) ∧ ∀ y ∈ l.take i, 0 ≤ y ∧ y < n) (0) ⟨rfl, rfl, rfl, rfl, rfl, trivial⟩ (by exact ⟨by omega, List.Pairwise.nil, by simp⟩) (fun w hw => hw) ?_
  rintro i hI1 ih2
  show TC Tryz.prog _ _ _ [] [(0, .slice A_l l.length d_l), (1, .int .i64 n), (7, .slice A_l l.length d_l), (8, .int .i64 (l.length : Int)), (9, .int .i64 (i : Int))] R (G)
  obtain ⟨hi1, hi2, hi3⟩ := hI1
  refine tc_seq <| tc_region ?_
  refine tl (v_ib rfl rfl rfl) ?_
  refine tl_nil <| tx_then <| tc_seq ?_
  refine tc_split 10 rfl (fun h5 => ?_) (fun h5 => ?_)
  ·
   refine tc_yes rfl ?_
   refine tc_skip <| tx_then <| tc_seq <| tc_block <| tc_seq <| tc_region ?_
   refine tl (v_move rfl) ?_
   have hb11 : i < l.length := by omega
   obtain ⟨x6, hx7⟩ : ∃ x, l[i]? = some x := ⟨_, List.getElem?_eq_getElem hb11⟩
   obtain ⟨c8, hr9, ha10⟩ := hs_l.get _ x6 hx7
   obtain ⟨rfl, i12⟩ := hr9
   unfold i64 at i12
   refine tl (v_idxS (i := i) hs_l rfl rfl rfl sl31 hb11) ?_
   refine tl (v_ldA 0 ha10 rfl ld3 rfl rfl) ?_
   refine tl (v_assign rfl) ?_
   refine tl (v_assign rfl) ?_
   refine tl_nil <| tx_then <| tc_seq <| tc_region ?_
   refine tl (v_move rfl) ?_
   refine tl (v_ib rfl rfl rfl) ?_
   refine tl (v_move rfl) ?_
   refine tl_split 16 rfl (fun h13 => ?_) (fun h13 => ?_)
   ·
    refine tl_gskip 16 rfl rfl rfl ?_
    refine tl_gskip 16 rfl rfl rfl ?_
    refine tl_gskip 16 rfl rfl rfl ?_
    refine tl (v_pick_t rfl rfl) ?_
    refine tl (v_move rfl) ?_
    refine tl_gskip 21 rfl rfl rfl ?_
    refine tl_gskip 21 rfl rfl rfl ?_
    refine tl_gskip 21 rfl rfl rfl ?_
    refine tl_gskipu 24 rfl rfl rfl ?_
    refine tl_gskipu 24 rfl rfl rfl ?_
    refine tl_gskipu 24 rfl rfl rfl ?_
    refine tl_gskipu 24 rfl rfl rfl ?_
    refine tl_gskipu 24 rfl rfl rfl ?_
    refine tl_gskipu 24 rfl rfl rfl ?_
    refine tl_gskipu 24 rfl rfl rfl ?_
    refine tl_gskip 21 rfl rfl rfl ?_
    refine tl (v_pick_t rfl rfl) ?_
    refine tl_nil <| tx_then ?_
    refine tc_yes rfl ?_
    refine tc_seq <| tc_region ?_
    refine tl (v_assign rfl) ?_
    refine tl_nil <| tx_then <| tc_ret <| tx_blk_ret <| tx_then_ret <| tx_then_ret <| tx_blk_ret <| tx_then_ret ?_
    refine tx_ret1 (.inl rfl) rfl rfl ?_
    have e14 : (false : Bool) = risingB l n := by (rw [eq_comm]; unfold risingB; rw [decide_eq_false_iff_not]; rintro ⟨h1_, h2_⟩; have h3_ := h2_ _ (List.mem_of_getElem? hx7); omega)
    exact fun w hw => ⟨congrArg Ending.returned (congrArg (fun x0 => Value.bool x0) e14), hw⟩
   ·
    refine tl_grun 16 rfl rfl ?_
    refine tl (v_move rfl) ?_
    refine tl_grun 16 rfl rfl ?_
    refine tl (v_move rfl) ?_
    refine tl_grun 16 rfl rfl ?_
    refine tl (v_ib rfl rfl rfl) ?_
    refine tl (v_pick_f rfl rfl) ?_
    refine tl (v_move rfl) ?_
    refine tl_split 21 rfl (fun h15 => ?_) (fun h15 => ?_)
    ·
     refine tl_gskip 21 rfl rfl rfl ?_
     refine tl_gskip 21 rfl rfl rfl ?_
     refine tl_gskip 21 rfl rfl rfl ?_
     refine tl_gskipu 24 rfl rfl rfl ?_
     refine tl_gskipu 24 rfl rfl rfl ?_
     refine tl_gskipu 24 rfl rfl rfl ?_
     refine tl_gskipu 24 rfl rfl rfl ?_
     refine tl_gskipu 24 rfl rfl rfl ?_
     refine tl_gskipu 24 rfl rfl rfl ?_
     refine tl_gskipu 24 rfl rfl rfl ?_
     refine tl_gskip 21 rfl rfl rfl ?_
     refine tl (v_pick_t rfl rfl) ?_
     refine tl_nil <| tx_then ?_
     refine tc_yes rfl ?_
     refine tc_seq <| tc_region ?_
     refine tl (v_assign rfl) ?_
     refine tl_nil <| tx_then <| tc_ret <| tx_blk_ret <| tx_then_ret <| tx_then_ret <| tx_blk_ret <| tx_then_ret ?_
     refine tx_ret1 (.inl rfl) rfl rfl ?_
     have e16 : (false : Bool) = risingB l n := by (rw [eq_comm]; unfold risingB; rw [decide_eq_false_iff_not]; rintro ⟨h1_, h2_⟩; have h3_ := h2_ _ (List.mem_of_getElem? hx7); omega)
     exact fun w hw => ⟨congrArg Ending.returned (congrArg (fun x0 => Value.bool x0) e16), hw⟩
    ·
     refine tl_grun 21 rfl rfl ?_
     refine tl (v_move rfl) ?_
     refine tl_grun 21 rfl rfl ?_
     refine tl (v_ib rfl rfl rfl) ?_
     refine tl_grun 21 rfl rfl ?_
     refine tl (v_move rfl) ?_
     refine tl_split 24 rfl (fun h17 => ?_) (fun h17 => ?_)
     ·
      refine tl_grun 24 rfl rfl ?_
      refine tl (v_move rfl) ?_
      refine tl_grun 24 rfl rfl ?_
      refine tl (v_move rfl) ?_
      refine tl_grun 24 rfl rfl ?_
      refine tl (v_move rfl) ?_
      refine tl_grun 24 rfl rfl ?_
      refine tl (v_sub rfl rfl (by omega) (by omega)) ?_
      refine tl_grun 24 rfl rfl ?_
      have hb23 : 0 ≤ (i : Int) - 1 ∧ ((i : Int) - 1).toNat < l.length := by omega
      obtain ⟨x18, hx19⟩ : ∃ x, l[((i : Int) - 1).toNat]? = some x := ⟨_, List.getElem?_eq_getElem hb23.2⟩
      obtain ⟨c20, hr21, ha22⟩ := hs_l.get _ x18 hx19
      obtain ⟨rfl, i24⟩ := hr21
      unfold i64 at i24
      refine tl (v_idxI hs_l rfl rfl rfl sl31 hb23.1 hb23.2) ?_
      refine tl_grun 24 rfl rfl ?_
      refine tl (v_ldA 0 ha22 rfl ld3 rfl rfl) ?_
      refine tl_grun 24 rfl rfl ?_
      refine tl (v_ib rfl rfl rfl) ?_
      refine tl_grun 21 rfl rfl ?_
      refine tl (v_pick_t rfl rfl) ?_
      refine tl (v_pick_f rfl rfl) ?_
      refine tl_nil <| tx_then ?_
      refine tc_split 33 rfl (fun h25 => ?_) (fun h25 => ?_)
      ·
       refine tc_yes rfl ?_
       refine tc_seq <| tc_region ?_
       refine tl (v_assign rfl) ?_
       refine tl_nil <| tx_then <| tc_ret <| tx_blk_ret <| tx_then_ret <| tx_then_ret <| tx_blk_ret <| tx_then_ret ?_
       refine tx_ret1 (.inl rfl) rfl rfl ?_
       have e26 : (false : Bool) = risingB l n := by (rw [eq_comm]; unfold risingB; rw [decide_eq_false_iff_not]; rintro ⟨h1_, h2_⟩; have h3_ := h2_ _ (List.mem_of_getElem? hx7); have h4_ := up_get h1_ hx7 hx19 (by omega); omega)
       exact fun w hw => ⟨congrArg Ending.returned (congrArg (fun x0 => Value.bool x0) e26), hw⟩
      ·
       refine tc_no rfl ?_
       refine tc_skip <| tx_blk <| tx_then <| tc_region ?_
       refine tl (v_add rfl rfl (by omega) (by omega)) ?_
       refine tl (v_move rfl) ?_
       refine tl_nil ?_
       refine tx_round ?_
       exact fun a w ha hw => ih2.out (i + 1) (by refine ⟨by omega, ?_, all_take hi3 hx7 (by omega)⟩; rw [take_succ_at hx7]; refine up_snoc hi2 ?_; exact up_take_last hi2 hx7 (by have := hx19; rwa [show ((i : Int) - 1).toNat = i - 1 by omega] at this) (by omega) (by omega)) (by (try dsimp only); omega) a w (ha.sub (lkAll_lk ⟨rfl, rfl, rfl, rfl, rfl, trivial⟩)) (hw)
     ·
      refine tl_gskip 24 rfl rfl rfl ?_
      refine tl_gskip 24 rfl rfl rfl ?_
      refine tl_gskip 24 rfl rfl rfl ?_
      refine tl_gskip 24 rfl rfl rfl ?_
      refine tl_gskip 24 rfl rfl rfl ?_
      refine tl_gskip 24 rfl rfl rfl ?_
      refine tl_gskip 24 rfl rfl rfl ?_
      refine tl_grun 21 rfl rfl ?_
      refine tl (v_pick_f rfl rfl) ?_
      refine tl (v_pick_f rfl rfl) ?_
      refine tl_nil <| tx_then ?_
      refine tc_no rfl ?_
      refine tc_skip <| tx_blk <| tx_then <| tc_region ?_
      refine tl (v_add rfl rfl (by omega) (by omega)) ?_
      refine tl (v_move rfl) ?_
      refine tl_nil ?_
      refine tx_round ?_
      exact fun a w ha hw => ih2.out (i + 1) (by refine ⟨by omega, ?_, all_take hi3 hx7 (by omega)⟩; rw [take_succ_at hx7]; refine up_snoc hi2 ?_; (have e_ : i = 0 := by omega); subst e_; simp) (by (try dsimp only); omega) a w (ha.sub (lkAll_lk ⟨rfl, rfl, rfl, rfl, rfl, trivial⟩)) (hw)
  ·
   refine tc_no rfl ?_
   refine tc_exit <| tx_then_exit <| tx_then_exit <| tx_blk_exit <| tx_then <| tc_seq <| tc_region ?_
   refine tl (v_assign rfl) ?_
   refine tl_nil <| tx_then <| tc_ret ?_
   refine tx_ret1 (.inl rfl) rfl rfl ?_
   have e27 : (true : Bool) = risingB l n := by (rw [eq_comm]; unfold risingB; rw [decide_eq_true_eq]; rw [take_all (by assumption) (by assumption)] at hi2 hi3; exact ⟨hi2, hi3⟩)
   exact fun w hw => ⟨congrArg Ending.returned (congrArg (fun x0 => Value.bool x0) e27), hw⟩

set_option maxRecDepth 20000 in
set_option maxHeartbeats 8000000 in
theorem isagogeref02_Has_ok {R : RO} {G : List Res} {w : World} {A_l : Option Addr} {d_l : Nat} (l : List (Int)) (x : Int) (hs_l : SlAt kInt R A_l l) (hi_x : i64 x) (hw : Own w R (G)) :
    Calls Tryz.prog 43 [.slice A_l l.length d_l, .int .i64 x].toArray w (Gives R G (.bool (decide (x ∈ l)))) := by
  have hz_l := hs_l.size
  unfold big at hz_l
  unfold i64 at hi_x
  refine fn_enter (vs := [.slice A_l l.length d_l, .int .i64 x]) Tryz.func43 rfl rfl rfl ?_ hw
  refine tc_seq <| tc_region ?_
  refine tl (v_assign rfl) ?_
  refine tl_nil <| tx_then <| tc_seq <| tc_seq <| tc_region ?_
  refine tl (v_move rfl) ?_
  refine tl (v_len rfl sl31) ?_
  refine tl (v_move rfl) ?_
  refine tl_nil <| tx_then <| tc_block ?_
  refine tc_loop ?_
  refine th_loopS (fun i : Nat => l.length - i) (fun i : Nat => [(1, .int .i64 x), (7, .slice A_l l.length d_l), (8, .int .i64 (l.length : Int)), (9, .int .i64 (i : Int))]) (fun i : Nat => (G)) (fun (i : Nat) => i ≤ l.length ∧ ¬ x ∈ l.take i) (0) ⟨rfl, rfl, rfl, rfl, trivial⟩ (by exact ⟨by omega, by simp⟩) (fun w hw => hw) ?_
  rintro i hI1 ih2
  show TC Tryz.prog _ _ _ [] [(1, .int .i64 x), (7, .slice A_l l.length d_l), (8, .int .i64 (l.length : Int)), (9, .int .i64 (i : Int))] R (G)
  obtain ⟨hi1, hi2⟩ := hI1
  refine tc_seq <| tc_region ?_
  refine tl (v_ib rfl rfl rfl) ?_
  refine tl_nil <| tx_then <| tc_seq ?_
  refine tc_split 10 rfl (fun h5 => ?_) (fun h5 => ?_)
  ·
   refine tc_yes rfl ?_
   refine tc_skip <| tx_then <| tc_seq <| tc_block <| tc_seq <| tc_region ?_
   have hb11 : i < l.length := by omega
   obtain ⟨x6, hx7⟩ : ∃ x, l[i]? = some x := ⟨_, List.getElem?_eq_getElem hb11⟩
   obtain ⟨c8, hr9, ha10⟩ := hs_l.get _ x6 hx7
   obtain ⟨rfl, i12⟩ := hr9
   unfold i64 at i12
   refine tl (v_idxS (i := i) hs_l rfl rfl rfl sl31 hb11) ?_
   refine tl (v_ldA 0 ha10 rfl ld3 rfl rfl) ?_
   refine tl (v_assign rfl) ?_
   refine tl_nil <| tx_then <| tc_seq <| tc_region ?_
   refine tl (v_move rfl) ?_
   refine tl (v_move rfl) ?_
   refine tl (v_ib rfl rfl rfl) ?_
   refine tl_nil <| tx_then ?_
   refine tc_split 15 rfl (fun h13 => ?_) (fun h13 => ?_)
   ·
    refine tc_yes rfl ?_
    refine tc_seq <| tc_region ?_
    refine tl (v_assign rfl) ?_
    refine tl_nil <| tx_then <| tc_ret <| tx_blk_ret <| tx_then_ret <| tx_then_ret <| tx_blk_ret <| tx_then_ret ?_
    refine tx_ret1 (.inl rfl) rfl rfl ?_
    have e14 : (true : Bool) = decide (x ∈ l) := by (rw [eq_comm, decide_eq_true_eq]; have hm_ := List.mem_of_getElem? hx7; grind)
    exact fun w hw => ⟨congrArg Ending.returned (congrArg (fun x0 => Value.bool x0) e14), hw⟩
   ·
    refine tc_no rfl ?_
    refine tc_skip <| tx_blk <| tx_then <| tc_region ?_
    refine tl (v_add rfl rfl (by omega) (by omega)) ?_
    refine tl (v_move rfl) ?_
    refine tl_nil ?_
    refine tx_round ?_
    exact fun a w ha hw => ih2.out (i + 1) (by refine ⟨by omega, ?_⟩; rw [take_succ_at hx7]; simp only [List.mem_append, List.mem_singleton, not_or]; exact ⟨hi2, by omega⟩) (by (try dsimp only); omega) a w (ha.sub (lkAll_lk ⟨rfl, rfl, rfl, rfl, trivial⟩)) (hw)
  ·
   refine tc_no rfl ?_
   refine tc_exit <| tx_then_exit <| tx_then_exit <| tx_blk_exit <| tx_then <| tc_seq <| tc_region ?_
   refine tl (v_assign rfl) ?_
   refine tl_nil <| tx_then <| tc_ret ?_
   refine tx_ret1 (.inl rfl) rfl rfl ?_
   have e15 : (false : Bool) = decide (x ∈ l) := by (rw [eq_comm, decide_eq_false_iff_not]; rw [take_all (by assumption) (by assumption)] at hi2; exact hi2)
   exact fun w hw => ⟨congrArg Ending.returned (congrArg (fun x0 => Value.bool x0) e15), hw⟩

set_option maxRecDepth 20000 in
set_option maxHeartbeats 8000000 in
theorem isagogeref02_Role_ok {R : RO} {G : List Res} {w : World} {c_n : List Value} (n : Names) (r : Int) (hr_n : kNames.rep R n c_n) (hi_r : i64 r) (hw : Own w R (G)) :
    Calls Tryz.prog 40 [.agg c_n.toArray, .int .i64 r].toArray w (Gives R G (.bool (decide (0 ≤ r ∧ r < 2 * (n.roles.length : Int))))) := by
  obtain ⟨A1, d2, A5, d6, A9, d10, rfl, hs3, hs7, hs11⟩ := id hr_n
  have z4 := hs3.size
  unfold big at z4
  have z8 := hs7.size
  unfold big at z8
  have z12 := hs11.size
  unfold big at z12
  unfold i64 at hi_r
  refine fn_enter (vs := [.agg #[.slice A1 n.concepts.length d2, .slice A5 n.roles.length d6, .slice A9 n.inds.length d10], .int .i64 r]) Tryz.func40 rfl rfl rfl ?_ hw
  refine tc_seq <| tc_region ?_
  refine tl_box_agg (l := [.slice A1 n.concepts.length d2, .slice A5 n.roles.length d6, .slice A9 n.inds.length d10]) rfl rfl fun b13 => ?_
  refine tl (v_assign rfl) ?_
  refine tl_nil <| tx_then ?_
  refine tc_cut [(0, .agg #[.slice A1 n.concepts.length d2, .slice A5 n.roles.length d6, .slice A9 n.inds.length d10]), (4, .bool (decide ((0 ≤ r) ∧ (r < (2 * (n.roles.length : Int))))))] (.blk b13 [.slice A1 n.concepts.length d2, .slice A5 n.roles.length d6, .slice A9 n.inds.length d10] 24 :: G) (fun _ => True) (fun K hK14 hE15 => ?_) ?_
  ·
   refine tc_region ?_
   refine tl (v_move rfl) ?_
   refine tl (v_ib rfl rfl rfl) ?_
   refine tl (v_move rfl) ?_
   refine tl_split 7 rfl (fun h16 => ?_) (fun h16 => ?_)
   ·
    refine tl_grun 7 rfl rfl ?_
    refine tl (v_move rfl) ?_
    refine tl_grun 7 rfl rfl ?_
    refine tl (v_fieldAddr 1 rfl fo24_1 rfl) ?_
    refine tl_grun 7 rfl rfl ?_
    refine tl (v_ld 0 rfl ld22 rfl rfl) ?_
    refine tl_grun 7 rfl rfl ?_
    refine tl (v_len rfl sl22) ?_
    refine tl_grun 7 rfl rfl ?_
    refine tl (v_mul rfl rfl (by omega) (by omega)) ?_
    refine tl_grun 7 rfl rfl ?_
    refine tl (v_ib rfl rfl rfl) ?_
    refine tl (v_pick_t rfl rfl) ?_
    refine tl (v_assign rfl) ?_
    refine tl_nil ?_
    exact tx_cut hK14 (.refl _) (trivial) ⟨rfl, show some (Value.bool (decide (r < (2 * (n.roles.length : Int))))) = some (Value.bool (decide ((0 ≤ r) ∧ (r < (2 * (n.roles.length : Int)))))) by first | (simp [h16]; done) | grind | (simp [h16] <;> omega), trivial⟩ (fun w hw => hw)
   ·
    refine tl_gskip 7 rfl rfl rfl ?_
    refine tl_gskip 7 rfl rfl rfl ?_
    refine tl_gskip 7 rfl rfl rfl ?_
    refine tl_gskip 7 rfl rfl rfl ?_
    refine tl_gskip 7 rfl rfl rfl ?_
    refine tl_gskip 7 rfl rfl rfl ?_
    refine tl (v_pick_f rfl rfl) ?_
    refine tl (v_assign rfl) ?_
    refine tl_nil ?_
    exact tx_cut hK14 (.refl _) (trivial) ⟨rfl, show some (Value.bool false) = some (Value.bool (decide ((0 ≤ r) ∧ (r < (2 * (n.roles.length : Int)))))) by first | (simp [h16]; done) | grind | (simp [h16] <;> omega), trivial⟩ (fun w hw => hw)
  ·
   refine fun R18 hle19 hj17 => tc_weaken hle19 ?_
   refine tc_ret ?_
   refine tx_ret1 (.inl rfl) rfl rfl ?_
   have e20 : (decide ((0 ≤ r) ∧ (r < (2 * (n.roles.length : Int)))) : Bool) = decide (0 ≤ r ∧ r < 2 * (n.roles.length : Int)) := by first | rfl | grind
   exact fun w hw => ⟨congrArg Ending.returned (congrArg (fun x0 => Value.bool x0) e20), hw.drop 1⟩

set_option maxRecDepth 20000 in
set_option maxHeartbeats 8000000 in
theorem isagogeref02_Ind_ok {R : RO} {G : List Res} {w : World} {c_n : List Value} (n : Names) (x : Int) (hr_n : kNames.rep R n c_n) (hi_x : i64 x) (hw : Own w R (G)) :
    Calls Tryz.prog 41 [.agg c_n.toArray, .int .i64 x].toArray w (Gives R G (.bool (decide (0 ≤ x ∧ x < (n.inds.length : Int))))) := by
  obtain ⟨A1, d2, A5, d6, A9, d10, rfl, hs3, hs7, hs11⟩ := id hr_n
  have z4 := hs3.size
  unfold big at z4
  have z8 := hs7.size
  unfold big at z8
  have z12 := hs11.size
  unfold big at z12
  unfold i64 at hi_x
  refine fn_enter (vs := [.agg #[.slice A1 n.concepts.length d2, .slice A5 n.roles.length d6, .slice A9 n.inds.length d10], .int .i64 x]) Tryz.func41 rfl rfl rfl ?_ hw
  refine tc_seq <| tc_region ?_
  refine tl_box_agg (l := [.slice A1 n.concepts.length d2, .slice A5 n.roles.length d6, .slice A9 n.inds.length d10]) rfl rfl fun b13 => ?_
  refine tl (v_assign rfl) ?_
  refine tl_nil <| tx_then ?_
  refine tc_cut [(0, .agg #[.slice A1 n.concepts.length d2, .slice A5 n.roles.length d6, .slice A9 n.inds.length d10]), (4, .bool (decide ((0 ≤ x) ∧ (x < (n.inds.length : Int)))))] (.blk b13 [.slice A1 n.concepts.length d2, .slice A5 n.roles.length d6, .slice A9 n.inds.length d10] 24 :: G) (fun _ => True) (fun K hK14 hE15 => ?_) ?_
  ·
   refine tc_region ?_
   refine tl (v_move rfl) ?_
   refine tl (v_ib rfl rfl rfl) ?_
   refine tl (v_move rfl) ?_
   refine tl_split 7 rfl (fun h16 => ?_) (fun h16 => ?_)
   ·
    refine tl_grun 7 rfl rfl ?_
    refine tl (v_move rfl) ?_
    refine tl_grun 7 rfl rfl ?_
    refine tl (v_fieldAddr 2 rfl fo24_2 rfl) ?_
    refine tl_grun 7 rfl rfl ?_
    refine tl (v_ld 0 rfl ld22 rfl rfl) ?_
    refine tl_grun 7 rfl rfl ?_
    refine tl (v_len rfl sl22) ?_
    refine tl_grun 7 rfl rfl ?_
    refine tl (v_ib rfl rfl rfl) ?_
    refine tl (v_pick_t rfl rfl) ?_
    refine tl (v_assign rfl) ?_
    refine tl_nil ?_
    exact tx_cut hK14 (.refl _) (trivial) ⟨rfl, show some (Value.bool (decide (x < (n.inds.length : Int)))) = some (Value.bool (decide ((0 ≤ x) ∧ (x < (n.inds.length : Int))))) by first | (simp [h16]; done) | grind | (simp [h16] <;> omega), trivial⟩ (fun w hw => hw)
   ·
    refine tl_gskip 7 rfl rfl rfl ?_
    refine tl_gskip 7 rfl rfl rfl ?_
    refine tl_gskip 7 rfl rfl rfl ?_
    refine tl_gskip 7 rfl rfl rfl ?_
    refine tl_gskip 7 rfl rfl rfl ?_
    refine tl (v_pick_f rfl rfl) ?_
    refine tl (v_assign rfl) ?_
    refine tl_nil ?_
    exact tx_cut hK14 (.refl _) (trivial) ⟨rfl, show some (Value.bool false) = some (Value.bool (decide ((0 ≤ x) ∧ (x < (n.inds.length : Int))))) by first | (simp [h16]; done) | grind | (simp [h16] <;> omega), trivial⟩ (fun w hw => hw)
  ·
   refine fun R18 hle19 hj17 => tc_weaken hle19 ?_
   refine tc_ret ?_
   refine tx_ret1 (.inl rfl) rfl rfl ?_
   have e20 : (decide ((0 ≤ x) ∧ (x < (n.inds.length : Int))) : Bool) = decide (0 ≤ x ∧ x < (n.inds.length : Int)) := by first | rfl | grind
   exact fun w hw => ⟨congrArg Ending.returned (congrArg (fun x0 => Value.bool x0) e20), hw.drop 1⟩

def inclsC (l : List Incl) : List Concept := l.flatMap fun x => [x.sub, x.sup]
def factsC (l : List Fact) : List Concept := l.map fun x => x.con
def conceptsB (b : Base) : List Concept := inclsC b.incls ++ factsC b.facts
theorem inclsC_take {l : List Incl} {i : Nat} {x : Incl} (h : l[i]? = some x) : inclsC (l.take (i + 1)) = inclsC (l.take i) ++ [x.sub, x.sup] := by rw [take_succ_at h]; simp [inclsC]
theorem factsC_take {l : List Fact} {i : Nat} {x : Fact} (h : l[i]? = some x) : factsC (l.take (i + 1)) = factsC (l.take i) ++ [x.con] := by rw [take_succ_at h]; simp [factsC]
theorem inclsC_len : ∀ (l : List Incl), (inclsC l).length = 2 * l.length
  | [] => rfl
  | x :: xs => by have := inclsC_len xs; simp only [inclsC, List.flatMap_cons, List.length_append, List.length_cons, List.length_nil] at *; omega
theorem conceptsB_len (b : Base) : (conceptsB b).length = 2 * b.incls.length + b.facts.length := by simp [conceptsB, inclsC_len, factsC]

set_option maxRecDepth 20000 in
set_option maxHeartbeats 8000000 in
theorem isagogeref02_Concepts_ok {R : RO} {G : List Res} {w : World} {c_b : List Value} (b : Base) (hr_b : kBase.rep R b c_b) (hb : b.incls.length ≤ 1000 ∧ b.facts.length ≤ 1000) (hw : Own w R (G)) :
    Calls Tryz.prog 38 [.agg c_b.toArray].toArray w (RetO R G (fun v_ R' L_ => ∃ (A_0 : Option Addr) (d_0 : Nat), v_ = (.slice A_0 ((conceptsB b).length) d_0 : Value) ∧ L_ = ([] : List Res) ∧ SlAt kConcept R' A_0 (conceptsB b))) := by
  obtain ⟨c1, A3, d4, A6, d7, A9, d10, A12, d13, rfl, hr2, hs5, hs8, hs11, hs14⟩ := id hr_b
  have z27 := hs5.size
  unfold big at z27
  have z28 := hs8.size
  unfold big at z28
  have z29 := hs11.size
  unfold big at z29
  have z30 := hs14.size
  unfold big at z30
  obtain ⟨A15, d16, A19, d20, A23, d24, rfl, hs17, hs21, hs25⟩ := id hr2
  have z18 := hs17.size
  unfold big at z18
  have z22 := hs21.size
  unfold big at z22
  have z26 := hs25.size
  unfold big at z26
  refine fn_enter (vs := [.agg #[.slice A15 b.names.concepts.length d16, .slice A19 b.names.roles.length d20, .slice A23 b.names.inds.length d24, .slice A3 b.incls.length d4, .slice A6 b.roles.length d7, .slice A9 b.facts.length d10, .slice A12 b.links.length d13]]) Tryz.func38 rfl rfl rfl ?_ hw
  refine tc_seq <| tc_region ?_
  refine tl_box_agg (l := [.slice A15 b.names.concepts.length d16, .slice A19 b.names.roles.length d20, .slice A23 b.names.inds.length d24, .slice A3 b.incls.length d4, .slice A6 b.roles.length d7, .slice A9 b.facts.length d10, .slice A12 b.links.length d13]) rfl rfl fun b31 => ?_
  refine tl (v_assign rfl) ?_
  refine tl_nil <| tx_then <| tc_seq <| tc_region ?_
  refine tl_vecnil 37 3 ?_
  have hv32 : (kConcept).reps R [] [] := rfl
  refine tl (v_assign rfl) ?_
  refine tl_nil <| tx_then <| tc_seq <| tc_seq <| tc_region ?_
  refine tl (v_fieldAddr 3 rfl fo30_1 rfl) ?_
  refine tl (v_ld 1 rfl ld25 rfl rfl) ?_
  refine tl (v_len rfl sl25) ?_
  refine tl (v_move rfl) ?_
  refine tl_nil <| tx_then <| tc_block ?_
  refine tc_loop ?_
  refine th_loopS (fun b_ : Nat × List (Concept) × Option Addr × Nat × List Value => match b_ with | (i, l, A_l, c_l, l_l) => b.incls.length - i) (fun b_ : Nat × List (Concept) × Option Addr × Nat × List Value => match b_ with | (i, l, A_l, c_l, l_l) => [(1, .pointer (some ⟨b31, 0, none⟩)), (2, .slice none 0 0), (9, .slice A3 b.incls.length d4), (10, .int .i64 (b.incls.length : Int)), (11, .int .i64 (i : Int)), (3, .slice A_l l.length c_l)]) (fun b_ : Nat × List (Concept) × Option Addr × Nat × List Value => match b_ with | (i, l, A_l, c_l, l_l) => (.vec (.slice A_l l.length c_l) l.length 37 3 l_l :: .blk b31 [.slice A15 b.names.concepts.length d16, .slice A19 b.names.roles.length d20, .slice A23 b.names.inds.length d24, .slice A3 b.incls.length d4, .slice A6 b.roles.length d7, .slice A9 b.facts.length d10, .slice A12 b.links.length d13] 30 :: G)) (fun (b_ : Nat × List (Concept) × Option Addr × Nat × List Value) => match b_ with | (i, l, A_l, c_l, l_l) => (kConcept).reps R l l_l ∧ (i ≤ b.incls.length ∧ l = inclsC (b.incls.take i))) (0, ([] : List (Concept)), none, 0, []) ⟨rfl, rfl, rfl, rfl, rfl, rfl, trivial⟩ (by refine ⟨hv32, ?_⟩; exact ⟨by omega, rfl⟩) (fun w hw => hw) ?_
  rintro ⟨i, l, A_l, c_l, l_l⟩ hI36 ih37
  show TC Tryz.prog _ _ _ [] [(1, .pointer (some ⟨b31, 0, none⟩)), (2, .slice none 0 0), (9, .slice A3 b.incls.length d4), (10, .int .i64 (b.incls.length : Int)), (11, .int .i64 (i : Int)), (3, .slice A_l l.length c_l)] R (.vec (.slice A_l l.length c_l) l.length 37 3 l_l :: .blk b31 [.slice A15 b.names.concepts.length d16, .slice A19 b.names.roles.length d20, .slice A23 b.names.inds.length d24, .slice A3 b.incls.length d4, .slice A6 b.roles.length d7, .slice A9 b.facts.length d10, .slice A12 b.links.length d13] 30 :: G)
  obtain ⟨hv35, hI40⟩ := hI36
  obtain ⟨hi1, hi2⟩ := hI40
  refine tc_seq <| tc_region ?_
  refine tl (v_ib rfl rfl rfl) ?_
  refine tl_nil <| tx_then <| tc_seq ?_
  refine tc_split 12 rfl (fun h41 => ?_) (fun h41 => ?_)
  ·
   refine tc_yes rfl ?_
   refine tc_skip <| tx_then <| tc_seq <| tc_block <| tc_seq <| tc_region ?_
   have hb47 : i < b.incls.length := by omega
   obtain ⟨x42, hx43⟩ : ∃ x, b.incls[i]? = some x := ⟨_, List.getElem?_eq_getElem hb47⟩
   obtain ⟨c44, hr45, ha46⟩ := hs5.get _ x42 hx43
   obtain ⟨c48, c49, rfl, hr50, hr51⟩ := id hr45
   obtain ⟨A52, d53, rfl, i54, i55, hs56⟩ := kConcept_open hr50
   unfold i64 at i54 i55
   have z57 := hs56.size
   unfold big at z57
   obtain ⟨A58, d59, rfl, i60, i61, hs62⟩ := kConcept_open hr51
   unfold i64 at i60 i61
   have z63 := hs62.size
   unfold big at z63
   have hf64 := inclsC_take hx43
   refine tl (v_idxS (i := i) hs5 rfl rfl rfl sl25 hb47) ?_
   refine tl (v_ldA_agg 0 [.int .i64 x42.sub.op, .int .i64 x42.sub.n, .slice A52 x42.sub.args.length d53, .int .i64 x42.sup.op, .int .i64 x42.sup.n, .slice A58 x42.sup.args.length d59] ha46 rfl ld92 rfl rfl) ?_
   refine tl_alloc zc92 rfl fun b65 => ?_
   refine tl_st 0 [.int .i64 x42.sub.op, .int .i64 x42.sub.n, .slice A52 x42.sub.args.length d53, .int .i64 x42.sup.op, .int .i64 x42.sup.n, .slice A58 x42.sup.args.length d59] rfl rfl ld92 rfl rfl rfl rfl rfl rfl ?_
   refine tl_nil <| tx_then <| tc_region ?_
   refine tl (v_move rfl) ?_
   refine tl (v_fieldAddr 0 rfl fo92_0 rfl) ?_
   refine tl (v_ld_agg 0 [.int .i64 x42.sub.op, .int .i64 x42.sub.n, .slice A52 x42.sub.args.length d53] rfl ld37 rfl rfl) ?_
   refine tl (v_fieldAddr 3 rfl fo92_1 rfl) ?_
   refine tl (v_ld_agg 0 [.int .i64 x42.sup.op, .int .i64 x42.sup.n, .slice A58 x42.sup.args.length d59] rfl ld37 rfl rfl) ?_
   refine tl_bslice [.int .i64 x42.sub.op, .int .i64 x42.sub.n, .slice A52 x42.sub.args.length d53, .int .i64 x42.sup.op, .int .i64 x42.sup.n, .slice A58 x42.sup.args.length d59] ap35 rfl rfl rfl rfl rfl rfl rfl fun b66 => ?_
   refine tl_appS' (k := kConcept) (m := [x42.sub, x42.sup]) 2 hv35 ((⟨_, _, rfl, hr50, ⟨_, _, rfl, hr51, rfl⟩⟩)) ap35 rfl rfl rfl (rfl) (src_blk (i := 0) rfl rfl rfl) (by first | omega | (rw [hi2, inclsC_len, List.length_take]; omega) | (rw [hj2]; simp only [conceptsB, List.length_append, inclsC_len, factsC, List.length_map, List.length_take]; omega) | (simp only [List.length_append, List.length_cons, List.length_nil]; rw [hi2, inclsC_len, List.length_take]; omega)) rfl rfl fun A67 c68 l69 hv70 => ?_
   refine tl (v_assign rfl) ?_
   refine tl_nil <| tx_blk <| tx_then <| tc_region ?_
   refine tl (v_add rfl rfl (by omega) (by omega)) ?_
   refine tl (v_move rfl) ?_
   refine tl_nil ?_
   refine tx_round ?_
   exact fun a w ha hw => ih37.out (i + 1, (l ++ [x42.sub, x42.sup]), A67, c68, l69) (by refine ⟨hv70, ?_⟩; refine ⟨by omega, ?_⟩; rw [inclsC_take hx43, hi2]) (by (try dsimp only); omega) a w (ha.sub (lkAll_lk ⟨rfl, rfl, rfl, rfl, rfl, rfl, trivial⟩)) (hw.drop 2)
  ·
   refine tc_no rfl ?_
   refine tc_exit <| tx_then_exit <| tx_then_exit <| tx_blk_exit <| tx_then <| tc_seq <| tc_seq <| tc_region ?_
   refine tl (v_fieldAddr 5 rfl fo30_3 rfl) ?_
   refine tl (v_ld 1 rfl ld27 rfl rfl) ?_
   refine tl (v_len rfl sl27) ?_
   refine tl (v_move rfl) ?_
   refine tl_nil <| tx_then <| tc_block ?_
   refine tc_loop ?_
   refine th_loopS (fun b_ : Nat × List (Concept) × Option Addr × Nat × List Value => match b_ with | (j, m, A_m, c_m, l_m) => b.facts.length - j) (fun b_ : Nat × List (Concept) × Option Addr × Nat × List Value => match b_ with | (j, m, A_m, c_m, l_m) => [(2, .slice none 0 0), (24, .slice A9 b.facts.length d10), (25, .int .i64 (b.facts.length : Int)), (26, .int .i64 (j : Int)), (3, .slice A_m m.length c_m)]) (fun b_ : Nat × List (Concept) × Option Addr × Nat × List Value => match b_ with | (j, m, A_m, c_m, l_m) => (.vec (.slice A_m m.length c_m) m.length 37 3 l_m :: .blk b31 [.slice A15 b.names.concepts.length d16, .slice A19 b.names.roles.length d20, .slice A23 b.names.inds.length d24, .slice A3 b.incls.length d4, .slice A6 b.roles.length d7, .slice A9 b.facts.length d10, .slice A12 b.links.length d13] 30 :: G)) (fun (b_ : Nat × List (Concept) × Option Addr × Nat × List Value) => match b_ with | (j, m, A_m, c_m, l_m) => (kConcept).reps R m l_m ∧ (j ≤ b.facts.length ∧ m = inclsC b.incls ++ factsC (b.facts.take j))) (0, l, A_l, c_l, l_l) ⟨rfl, rfl, rfl, rfl, rfl, trivial⟩ (by refine ⟨hv35, ?_⟩; (refine ⟨by omega, ?_⟩; rw [hi2, take_all (by assumption) (by assumption)]; simp [factsC])) (fun w hw => hw) ?_
   rintro ⟨j, m, A_m, c_m, l_m⟩ hI74 ih75
   show TC Tryz.prog _ _ _ [] [(2, .slice none 0 0), (24, .slice A9 b.facts.length d10), (25, .int .i64 (b.facts.length : Int)), (26, .int .i64 (j : Int)), (3, .slice A_m m.length c_m)] R (.vec (.slice A_m m.length c_m) m.length 37 3 l_m :: .blk b31 [.slice A15 b.names.concepts.length d16, .slice A19 b.names.roles.length d20, .slice A23 b.names.inds.length d24, .slice A3 b.incls.length d4, .slice A6 b.roles.length d7, .slice A9 b.facts.length d10, .slice A12 b.links.length d13] 30 :: G)
   obtain ⟨hv73, hI78⟩ := hI74
   obtain ⟨hj1, hj2⟩ := hI78
   refine tc_seq <| tc_region ?_
   refine tl (v_ib rfl rfl rfl) ?_
   refine tl_nil <| tx_then <| tc_seq ?_
   refine tc_split 27 rfl (fun h79 => ?_) (fun h79 => ?_)
   ·
    refine tc_yes rfl ?_
    refine tc_skip <| tx_then <| tc_seq <| tc_block <| tc_seq <| tc_region ?_
    have hb85 : j < b.facts.length := by omega
    obtain ⟨x80, hx81⟩ : ∃ x, b.facts[j]? = some x := ⟨_, List.getElem?_eq_getElem hb85⟩
    obtain ⟨c82, hr83, ha84⟩ := hs11.get _ x80 hx81
    obtain ⟨c86, rfl, i87, hr88⟩ := id hr83
    unfold i64 at i87
    obtain ⟨A89, d90, rfl, i91, i92, hs93⟩ := kConcept_open hr88
    unfold i64 at i91 i92
    have z94 := hs93.size
    unfold big at z94
    have hf95 := factsC_take hx81
    refine tl (v_idxS (i := j) hs11 rfl rfl rfl sl27 hb85) ?_
    refine tl (v_ldA_agg 0 [.int .i64 x80.ind, .int .i64 x80.con.op, .int .i64 x80.con.n, .slice A89 x80.con.args.length d90] ha84 rfl ld87 rfl rfl) ?_
    refine tl_alloc zc87 rfl fun b96 => ?_
    refine tl_st 0 [.int .i64 x80.ind, .int .i64 x80.con.op, .int .i64 x80.con.n, .slice A89 x80.con.args.length d90] rfl rfl ld87 rfl rfl rfl rfl rfl rfl ?_
    refine tl_nil <| tx_then <| tc_region ?_
    refine tl (v_move rfl) ?_
    refine tl (v_fieldAddr 1 rfl fo87_1 rfl) ?_
    refine tl (v_ld_agg 0 [.int .i64 x80.con.op, .int .i64 x80.con.n, .slice A89 x80.con.args.length d90] rfl ld37 rfl rfl) ?_
    refine tl_bslice [.int .i64 x80.con.op, .int .i64 x80.con.n, .slice A89 x80.con.args.length d90] ap35 rfl rfl rfl rfl rfl rfl rfl fun b97 => ?_
    refine tl_app (k := kConcept) (e := x80.con) 2 0 hv73 (hr88) ap35 rfl rfl rfl rfl rfl (by first | omega | (rw [hi2, inclsC_len, List.length_take]; omega) | (rw [hj2]; simp only [conceptsB, List.length_append, inclsC_len, factsC, List.length_map, List.length_take]; omega) | (simp only [List.length_append, List.length_cons, List.length_nil]; rw [hi2, inclsC_len, List.length_take]; omega)) rfl rfl fun A98 c99 l100 hv101 => ?_
    refine tl (v_assign rfl) ?_
    refine tl_nil <| tx_blk <| tx_then <| tc_region ?_
    refine tl (v_add rfl rfl (by omega) (by omega)) ?_
    refine tl (v_move rfl) ?_
    refine tl_nil ?_
    refine tx_round ?_
    exact fun a w ha hw => ih75.out (j + 1, (m ++ [x80.con]), A98, c99, l100) (by refine ⟨hv101, ?_⟩; refine ⟨by omega, ?_⟩; rw [factsC_take hx81, hj2]; simp) (by (try dsimp only); omega) a w (ha.sub (lkAll_lk ⟨rfl, rfl, rfl, congrArg (fun z => some (Value.int .i64 z)) (show ((j : Int) + 1 : Int) = ((j + 1) : Int) by first | rfl | omega), rfl, trivial⟩)) (hw.drop 2)
   ·
    refine tc_no rfl ?_
    refine tc_exit <| tx_then_exit <| tx_then_exit <| tx_blk_exit <| tx_then <| tc_seq <| tc_region ?_
    refine tl (v_move rfl) ?_
    refine tl (v_assign rfl) ?_
    refine tl_nil <| tx_then <| tc_ret ?_
    refine tx_retireV (k := kConcept) (l := m) 0 rfl hv73 rfl (by (unfold big; rw [hj2]; simp only [List.length_append, inclsC_len, factsC, List.length_map, List.length_take]; omega)) fun R104 hle105 hs103 => ?_
    have z106 := hs103.size
    unfold big at z106
    refine tx_ret1 (.inl rfl) rfl rfl ?_
    have e107 : (m : List (Concept)) = conceptsB b := by (rw [hj2, take_all (by assumption) (by assumption)]; rfl)
    intro w hw
    exact ⟨_, _, [], rfl, hle105, hw.drop 1, A_m, c_m, (congrArg (fun (z0_ : List (Concept)) => (.slice A_m z0_.length c_m : Value)) e107), rfl, (Eq.mp (congrArg (fun z => SlAt kConcept R104 A_m z) e107) hs103)⟩

def fewB (b : Base) (m : Int) : Bool := decide (b.incls.length ≤ 200 ∧ b.roles.length ≤ 200 ∧ b.facts.length ≤ 200 ∧ b.links.length ≤ 200 ∧ fewNamesB b.names = true ∧ (nodesL (conceptsB b) : Int) ≤ m)
theorem nodesL_le_mem {l : List Concept} {x : Concept} (h : x ∈ l) : nodesC x ≤ nodesL l := by
  obtain ⟨i, hi⟩ := List.mem_iff_getElem?.1 h
  have := nodesL_mem hi; omega

set_option maxRecDepth 20000 in
set_option maxHeartbeats 8000000 in
theorem isagogeref02_Few_ok {R : RO} {G : List Res} {w : World} {c_b : List Value} (b : Base) (most : Int) (hr_b : kBase.rep R b c_b) (hi_most : i64 most) (hb : 0 ≤ most ∧ most ≤ 1000) (hw : Own w R (G)) :
    Calls Tryz.prog 31 [.agg c_b.toArray, .int .i64 most].toArray w (Gives R G (.bool (fewB b most))) := by
  obtain ⟨c1, A3, d4, A6, d7, A9, d10, A12, d13, rfl, hr2, hs5, hs8, hs11, hs14⟩ := id hr_b
  have z27 := hs5.size
  unfold big at z27
  have z28 := hs8.size
  unfold big at z28
  have z29 := hs11.size
  unfold big at z29
  have z30 := hs14.size
  unfold big at z30
  obtain ⟨A15, d16, A19, d20, A23, d24, rfl, hs17, hs21, hs25⟩ := id hr2
  have z18 := hs17.size
  unfold big at z18
  have z22 := hs21.size
  unfold big at z22
  have z26 := hs25.size
  unfold big at z26
  unfold i64 at hi_most
  refine fn_enter (vs := [.agg #[.slice A15 b.names.concepts.length d16, .slice A19 b.names.roles.length d20, .slice A23 b.names.inds.length d24, .slice A3 b.incls.length d4, .slice A6 b.roles.length d7, .slice A9 b.facts.length d10, .slice A12 b.links.length d13], .int .i64 most]) Tryz.func31 rfl rfl rfl ?_ hw
  refine tc_seq <| tc_region ?_
  refine tl_box_agg (l := [.slice A15 b.names.concepts.length d16, .slice A19 b.names.roles.length d20, .slice A23 b.names.inds.length d24, .slice A3 b.incls.length d4, .slice A6 b.roles.length d7, .slice A9 b.facts.length d10, .slice A12 b.links.length d13]) rfl rfl fun b31 => ?_
  refine tl (v_assign rfl) ?_
  refine tl_nil <| tx_then <| tc_seq ?_
  refine tc_cut [(0, .agg #[.slice A15 b.names.concepts.length d16, .slice A19 b.names.roles.length d20, .slice A23 b.names.inds.length d24, .slice A3 b.incls.length d4, .slice A6 b.roles.length d7, .slice A9 b.facts.length d10, .slice A12 b.links.length d13]), (1, .int .i64 most), (2, .pointer (some ⟨b31, 0, none⟩)), (4, .bool false), (37, .bool (decide (((((200 < (b.incls.length : Int)) ∨ (200 < (b.roles.length : Int))) ∨ (200 < (b.facts.length : Int))) ∨ (200 < (b.links.length : Int))) ∨ ((!(fewNamesB b.names)) = true))))] (.blk b31 [.slice A15 b.names.concepts.length d16, .slice A19 b.names.roles.length d20, .slice A23 b.names.inds.length d24, .slice A3 b.incls.length d4, .slice A6 b.roles.length d7, .slice A9 b.facts.length d10, .slice A12 b.links.length d13] 30 :: G) (fun _ => True) (fun K hK32 hE33 => ?_) ?_
  ·
   refine tc_region ?_
   refine tl (v_fieldAddr 3 rfl fo30_1 rfl) ?_
   refine tl (v_ld 0 rfl ld25 rfl rfl) ?_
   refine tl (v_len rfl sl25) ?_
   refine tl (v_ib rfl rfl rfl) ?_
   refine tl (v_move rfl) ?_
   refine tl_split 14 rfl (fun h34 => ?_) (fun h34 => ?_)
   ·
    refine tl_gskip 14 rfl rfl rfl ?_
    refine tl_gskip 14 rfl rfl rfl ?_
    refine tl_gskip 14 rfl rfl rfl ?_
    refine tl_gskip 14 rfl rfl rfl ?_
    refine tl (v_pick_t rfl rfl) ?_
    refine tl (v_move rfl) ?_
    refine tl_gskip 20 rfl rfl rfl ?_
    refine tl_gskip 20 rfl rfl rfl ?_
    refine tl_gskip 20 rfl rfl rfl ?_
    refine tl_gskip 20 rfl rfl rfl ?_
    refine tl (v_pick_t rfl rfl) ?_
    refine tl (v_move rfl) ?_
    refine tl_gskip 26 rfl rfl rfl ?_
    refine tl_gskip 26 rfl rfl rfl ?_
    refine tl_gskip 26 rfl rfl rfl ?_
    refine tl_gskip 26 rfl rfl rfl ?_
    refine tl (v_pick_t rfl rfl) ?_
    refine tl (v_move rfl) ?_
    refine tl_gskip 32 rfl rfl rfl ?_
    refine tl_gskip 32 rfl rfl rfl ?_
    refine tl_gskip 32 rfl rfl rfl ?_
    refine tl_gskip 32 rfl rfl rfl ?_
    refine tl (v_pick_t rfl rfl) ?_
    refine tl_nil ?_
    exact tx_cut hK32 (.refl _) (trivial) ⟨rfl, rfl, rfl, rfl, show some (Value.bool true) = some (Value.bool (decide (((((200 < (b.incls.length : Int)) ∨ (200 < (b.roles.length : Int))) ∨ (200 < (b.facts.length : Int))) ∨ (200 < (b.links.length : Int))) ∨ ((!(fewNamesB b.names)) = true)))) by first | (simp [h34]; done) | grind | (simp [h34] <;> omega), trivial⟩ (fun w hw => hw)
   ·
    refine tl_grun 14 rfl rfl ?_
    refine tl (v_fieldAddr 4 rfl fo30_2 rfl) ?_
    refine tl_grun 14 rfl rfl ?_
    refine tl (v_ld 0 rfl ld26 rfl rfl) ?_
    refine tl_grun 14 rfl rfl ?_
    refine tl (v_len rfl sl26) ?_
    refine tl_grun 14 rfl rfl ?_
    refine tl (v_ib rfl rfl rfl) ?_
    refine tl (v_pick_f rfl rfl) ?_
    refine tl (v_move rfl) ?_
    refine tl_split 20 rfl (fun h35 => ?_) (fun h35 => ?_)
    ·
     refine tl_gskip 20 rfl rfl rfl ?_
     refine tl_gskip 20 rfl rfl rfl ?_
     refine tl_gskip 20 rfl rfl rfl ?_
     refine tl_gskip 20 rfl rfl rfl ?_
     refine tl (v_pick_t rfl rfl) ?_
     refine tl (v_move rfl) ?_
     refine tl_gskip 26 rfl rfl rfl ?_
     refine tl_gskip 26 rfl rfl rfl ?_
     refine tl_gskip 26 rfl rfl rfl ?_
     refine tl_gskip 26 rfl rfl rfl ?_
     refine tl (v_pick_t rfl rfl) ?_
     refine tl (v_move rfl) ?_
     refine tl_gskip 32 rfl rfl rfl ?_
     refine tl_gskip 32 rfl rfl rfl ?_
     refine tl_gskip 32 rfl rfl rfl ?_
     refine tl_gskip 32 rfl rfl rfl ?_
     refine tl (v_pick_t rfl rfl) ?_
     refine tl_nil ?_
     exact tx_cut hK32 (.refl _) (trivial) ⟨rfl, rfl, rfl, rfl, show some (Value.bool true) = some (Value.bool (decide (((((200 < (b.incls.length : Int)) ∨ (200 < (b.roles.length : Int))) ∨ (200 < (b.facts.length : Int))) ∨ (200 < (b.links.length : Int))) ∨ ((!(fewNamesB b.names)) = true)))) by first | (simp [h34, h35]; done) | grind | (simp [h34, h35] <;> omega), trivial⟩ (fun w hw => hw)
    ·
     refine tl_grun 20 rfl rfl ?_
     refine tl (v_fieldAddr 5 rfl fo30_3 rfl) ?_
     refine tl_grun 20 rfl rfl ?_
     refine tl (v_ld 0 rfl ld27 rfl rfl) ?_
     refine tl_grun 20 rfl rfl ?_
     refine tl (v_len rfl sl27) ?_
     refine tl_grun 20 rfl rfl ?_
     refine tl (v_ib rfl rfl rfl) ?_
     refine tl (v_pick_f rfl rfl) ?_
     refine tl (v_move rfl) ?_
     refine tl_split 26 rfl (fun h36 => ?_) (fun h36 => ?_)
     ·
      refine tl_gskip 26 rfl rfl rfl ?_
      refine tl_gskip 26 rfl rfl rfl ?_
      refine tl_gskip 26 rfl rfl rfl ?_
      refine tl_gskip 26 rfl rfl rfl ?_
      refine tl (v_pick_t rfl rfl) ?_
      refine tl (v_move rfl) ?_
      refine tl_gskip 32 rfl rfl rfl ?_
      refine tl_gskip 32 rfl rfl rfl ?_
      refine tl_gskip 32 rfl rfl rfl ?_
      refine tl_gskip 32 rfl rfl rfl ?_
      refine tl (v_pick_t rfl rfl) ?_
      refine tl_nil ?_
      exact tx_cut hK32 (.refl _) (trivial) ⟨rfl, rfl, rfl, rfl, show some (Value.bool true) = some (Value.bool (decide (((((200 < (b.incls.length : Int)) ∨ (200 < (b.roles.length : Int))) ∨ (200 < (b.facts.length : Int))) ∨ (200 < (b.links.length : Int))) ∨ ((!(fewNamesB b.names)) = true)))) by first | (simp [h34, h35, h36]; done) | grind | (simp [h34, h35, h36] <;> omega), trivial⟩ (fun w hw => hw)
     ·
      refine tl_grun 26 rfl rfl ?_
      refine tl (v_fieldAddr 6 rfl fo30_4 rfl) ?_
      refine tl_grun 26 rfl rfl ?_
      refine tl (v_ld 0 rfl ld28 rfl rfl) ?_
      refine tl_grun 26 rfl rfl ?_
      refine tl (v_len rfl sl28) ?_
      refine tl_grun 26 rfl rfl ?_
      refine tl (v_ib rfl rfl rfl) ?_
      refine tl (v_pick_f rfl rfl) ?_
      refine tl (v_move rfl) ?_
      refine tl_split 32 rfl (fun h37 => ?_) (fun h37 => ?_)
      ·
       refine tl_gskip 32 rfl rfl rfl ?_
       refine tl_gskip 32 rfl rfl rfl ?_
       refine tl_gskip 32 rfl rfl rfl ?_
       refine tl_gskip 32 rfl rfl rfl ?_
       refine tl (v_pick_t rfl rfl) ?_
       refine tl_nil ?_
       exact tx_cut hK32 (.refl _) (trivial) ⟨rfl, rfl, rfl, rfl, show some (Value.bool true) = some (Value.bool (decide (((((200 < (b.incls.length : Int)) ∨ (200 < (b.roles.length : Int))) ∨ (200 < (b.facts.length : Int))) ∨ (200 < (b.links.length : Int))) ∨ ((!(fewNamesB b.names)) = true)))) by first | (simp [h34, h35, h36, h37]; done) | grind | (simp [h34, h35, h36, h37] <;> omega), trivial⟩ (fun w hw => hw)
      ·
       refine tl_grun 32 rfl rfl ?_
       refine tl (v_fieldAddr 0 rfl fo30_0 rfl) ?_
       refine tl_grun 32 rfl rfl ?_
       refine tl (v_ld_agg 0 [.slice A15 b.names.concepts.length d16, .slice A19 b.names.roles.length d20, .slice A23 b.names.inds.length d24] rfl ld24 rfl rfl) ?_
       refine tl_grun 32 rfl rfl ?_
       refine tl_callv ca62 rfl (fun w hw => isagogeref01_FewNames_ok b.names hr2 hw) rfl ?_
       refine tl_grun 32 rfl rfl ?_
       refine tl (v_neg rfl) ?_
       refine tl (v_pick_f rfl rfl) ?_
       refine tl_nil ?_
       exact tx_cut hK32 (.refl _) (trivial) ⟨rfl, rfl, rfl, rfl, show some (Value.bool (!(fewNamesB b.names))) = some (Value.bool (decide (((((200 < (b.incls.length : Int)) ∨ (200 < (b.roles.length : Int))) ∨ (200 < (b.facts.length : Int))) ∨ (200 < (b.links.length : Int))) ∨ ((!(fewNamesB b.names)) = true)))) by first | (simp [h34, h35, h36, h37]; done) | grind | (simp [h34, h35, h36, h37] <;> omega), trivial⟩ (fun w hw => hw)
  ·
   refine fun R39 hle40 hj38 => tc_weaken hle40 ?_
   refine tc_split 37 rfl (fun h41 => ?_) (fun h41 => ?_)
   ·
    refine tc_yes rfl ?_
    refine tc_seq <| tc_region ?_
    refine tl (v_assign rfl) ?_
    refine tl_nil <| tx_then <| tc_ret <| tx_then_ret ?_
    refine tx_ret1 (.inl rfl) rfl rfl ?_
    have e42 : (false : Bool) = fewB b most := by (rw [eq_comm]; unfold fewB; rw [decide_eq_false_iff_not]; grind)
    exact fun w hw => ⟨congrArg Ending.returned (congrArg (fun x0 => Value.bool x0) e42), hw.drop 1⟩
   ·
    refine tc_no rfl ?_
    refine tc_skip <| tx_then <| tc_seq <| tc_region ?_
    refine tl (v_assign rfl) ?_
    refine tl_nil <| tx_then <| tc_seq <| tc_seq <| tc_region ?_
    refine tl (v_ld_agg 0 [.slice A15 b.names.concepts.length d16, .slice A19 b.names.roles.length d20, .slice A23 b.names.inds.length d24, .slice A3 b.incls.length d4, .slice A6 b.roles.length d7, .slice A9 b.facts.length d10, .slice A12 b.links.length d13] rfl ld30 rfl rfl) ?_
    refine tl_callo ca38 rfl (fun w hw => isagogeref02_Concepts_ok b hr_b (by omega) hw) rfl ?_
    rintro _ R44 _ hle45 ⟨A_z43_0, d_z43_0, rfl, rfl, hs_z43_0⟩
    have z46 := hs_z43_0.size
    unfold big at z46
    have hf47 := conceptsB_len b
    refine tl (v_len rfl sl35) ?_
    refine tl (v_move rfl) ?_
    refine tl_nil <| tx_then <| tc_block ?_
    refine tc_loop ?_
    refine th_loopS (fun i : Nat => (conceptsB b).length - i) (fun i : Nat => [(1, .int .i64 most), (39, .slice A_z43_0 ((conceptsB b).length) d_z43_0), (40, .int .i64 ((conceptsB b).length : Int)), (41, .int .i64 (i : Int)), (5, .int .i64 ((nodesL ((conceptsB b).take i) : Nat) : Int))]) (fun i : Nat => (.blk b31 [.slice A15 b.names.concepts.length d16, .slice A19 b.names.roles.length d20, .slice A23 b.names.inds.length d24, .slice A3 b.incls.length d4, .slice A6 b.roles.length d7, .slice A9 b.facts.length d10, .slice A12 b.links.length d13] 30 :: G)) (fun (i : Nat) => i ≤ (conceptsB b).length ∧ ((nodesL ((conceptsB b).take i) : Nat) : Int) ≤ i * most) (0) ⟨rfl, rfl, rfl, rfl, congrArg (fun z => some (Value.int .i64 z)) (show (0 : Int) = ((nodesL ((conceptsB b).take 0) : Nat) : Int) by first | rfl | omega | (simp; done) | (simp; omega)), trivial⟩ (by (refine ⟨by omega, ?_⟩; simp [nodesL])) (fun w hw => hw) ?_
    rintro i hI48 ih49
    show TC Tryz.prog _ _ _ [] [(1, .int .i64 most), (39, .slice A_z43_0 ((conceptsB b).length) d_z43_0), (40, .int .i64 ((conceptsB b).length : Int)), (41, .int .i64 (i : Int)), (5, .int .i64 ((nodesL ((conceptsB b).take i) : Nat) : Int))] R44 (.blk b31 [.slice A15 b.names.concepts.length d16, .slice A19 b.names.roles.length d20, .slice A23 b.names.inds.length d24, .slice A3 b.incls.length d4, .slice A6 b.roles.length d7, .slice A9 b.facts.length d10, .slice A12 b.links.length d13] 30 :: G)
    obtain ⟨hi1, hi2⟩ := hI48
    have hc_ := conceptsB_len b
    have hm_ : (i : Int) * most ≤ 600 * 1000 := Int.mul_le_mul (by omega) (by omega) (by omega) (by omega)
    refine tc_seq <| tc_region ?_
    refine tl (v_ib rfl rfl rfl) ?_
    refine tl_nil <| tx_then <| tc_seq ?_
    refine tc_split 42 rfl (fun h52 => ?_) (fun h52 => ?_)
    ·
     refine tc_yes rfl ?_
     refine tc_skip <| tx_then <| tc_seq <| tc_block <| tc_seq <| tc_region ?_
     have hb58 : i < (conceptsB b).length := by omega
     obtain ⟨x53, hx54⟩ : ∃ x, (conceptsB b)[i]? = some x := ⟨_, List.getElem?_eq_getElem hb58⟩
     obtain ⟨c55, hr56, ha57⟩ := hs_z43_0.get _ x53 hx54
     obtain ⟨A59, d60, rfl, i61, i62, hs63⟩ := kConcept_open hr56
     unfold i64 at i61 i62
     have z64 := hs63.size
     unfold big at z64
     have hf65 := nodesL_take hx54
     have hf66 := nodesL_mem hx54
     refine tl (v_idxS (i := i) hs_z43_0 rfl rfl rfl sl35 hb58) ?_
     refine tl (v_ldA_agg 0 [.int .i64 x53.op, .int .i64 x53.n, .slice A59 x53.args.length d60] ha57 rfl ld37 rfl rfl) ?_
     refine tl_alloc zc37 rfl fun b67 => ?_
     refine tl_st 0 [.int .i64 x53.op, .int .i64 x53.n, .slice A59 x53.args.length d60] rfl rfl ld37 rfl rfl rfl rfl rfl rfl ?_
     refine tl_nil <| tx_then <| tc_seq <| tc_seq <| tc_region ?_
     refine tl (v_ld_agg 0 [.int .i64 x53.op, .int .i64 x53.n, .slice A59 x53.args.length d60] rfl ld37 rfl rfl) ?_
     refine tl (v_move rfl) ?_
     refine tl_callv ca32 rfl (fun w hw => isagogeref01_Fits_ok x53 most hr56 (by unfold i64; omega) (by omega) hw) rfl ?_
     refine tl (v_negd rfl) ?_
     refine tl_nil <| tx_then ?_
     refine tc_split 48 rfl (fun h68 => ?_) (fun h68 => ?_)
     ·
      refine tc_yes rfl ?_
      refine tc_seq <| tc_region ?_
      refine tl (v_assign rfl) ?_
      refine tl_nil <| tx_then <| tc_ret <| tx_then_ret <| tx_blk_ret <| tx_then_ret <| tx_then_ret <| tx_blk_ret <| tx_then_ret ?_
      refine tx_ret1 (.inl rfl) rfl rfl ?_
      have e69 : (false : Bool) = fewB b most := by (rw [eq_comm]; unfold fewB; rw [decide_eq_false_iff_not]; rintro ⟨-, -, -, -, -, h_⟩; have h2_ := nodesL_le_mem (List.mem_of_getElem? hx54); omega)
      exact fun w hw => ⟨congrArg Ending.returned (congrArg (fun x0 => Value.bool x0) e69), (hw.drop 2).weaken hle45⟩
     ·
      refine tc_no rfl ?_
      refine tc_skip <| tx_then <| tc_seq <| tc_region ?_
      refine tl (v_ld_agg 0 [.int .i64 x53.op, .int .i64 x53.n, .slice A59 x53.args.length d60] rfl ld37 rfl rfl) ?_
      refine tl_callv ca39 rfl (fun w hw => isagogeref01_Size_ok x53 hr56 (by omega) hw) rfl ?_
      refine tl (v_move rfl) ?_
      refine tl (v_extract rfl rfl) ?_
      refine tl (v_extract rfl rfl) ?_
      refine tl (v_assign rfl) ?_
      refine tl (v_assign rfl) ?_
      refine tl_nil <| tx_then <| tc_region ?_
      refine tl (v_move rfl) ?_
      refine tl (v_move rfl) ?_
      refine tl (v_add rfl rfl (by omega) (by omega)) ?_
      refine tl (v_assign rfl) ?_
      refine tl_nil <| tx_blk <| tx_then <| tc_region ?_
      refine tl (v_add rfl rfl (by omega) (by omega)) ?_
      refine tl (v_move rfl) ?_
      refine tl_nil ?_
      refine tx_round ?_
      exact fun a w ha hw => ih49.out (i + 1) (by (refine ⟨by omega, ?_⟩; push_cast; rw [Int.add_mul]; omega)) (by (try dsimp only); omega) a w (ha.sub (lkAll_lk ⟨rfl, rfl, rfl, rfl, congrArg (fun z => some (Value.int .i64 z)) (show (((nodesL ((conceptsB b).take i) : Nat) : Int) + (nodesC x53 : Int) : Int) = ((nodesL ((conceptsB b).take (i + 1)) : Nat) : Int) by first | rfl | omega), trivial⟩)) (hw.drop 1)
    ·
     refine tc_no rfl ?_
     refine tc_exit <| tx_then_exit <| tx_then_exit <| tx_blk_exit <| tx_then <| tc_seq <| tc_region ?_
     refine tl (v_move rfl) ?_
     refine tl (v_move rfl) ?_
     refine tl (v_ib rfl rfl rfl) ?_
     refine tl (v_assign rfl) ?_
     refine tl_nil <| tx_then <| tc_ret ?_
     refine tx_ret1 (.inl rfl) rfl rfl ?_
     have e70 : (decide (((nodesL ((conceptsB b).take i) : Nat) : Int) ≤ most) : Bool) = fewB b most := by (rw [take_all (by assumption) (by assumption), Bool.eq_iff_iff, decide_eq_true_eq]; unfold fewB; rw [decide_eq_true_eq]; grind)
     exact fun w hw => ⟨congrArg Ending.returned (congrArg (fun x0 => Value.bool x0) e70), (hw.drop 1).weaken hle45⟩

end Go.Proofs.YtcbcdlajnmkioaaGreatDoor
