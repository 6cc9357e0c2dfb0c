/- A part of the proof of the statement ModuleGrows of isagogelaw19: functions walked, and plain laws on what they answer. -/
import Derived.Test.YtcbcdlajnmkioaaGreatDoorA
namespace Go.Proofs.YtcbcdlajnmkioaaGreatDoor
open Go Go.Proofs
set_option linter.unusedSimpArgs false
set_option linter.unusedVariables false
theorem ca77 : Callable Tryz.prog 77 := ⟨by kernel_rfl⟩
theorem ca78 : Callable Tryz.prog 78 := ⟨by kernel_rfl⟩
theorem ca98 : Callable Tryz.prog 98 := ⟨by kernel_rfl⟩
theorem ca99 : Callable Tryz.prog 99 := ⟨by kernel_rfl⟩
theorem st9 : isStr Tryz.prog 9 = true := by kernel_rfl

set_option maxRecDepth 20000 in
set_option maxHeartbeats 8000000 in
theorem isagogeref01_Word_ok {R : RO} {G : List Res} {w : World} (s : ByteArray) (hz_s : s.size ≤ big) (hw : Own w R (G)) :
    Calls Tryz.prog 77 [.string s].toArray w (Gives R G (.bool (wordB s))) := by
  unfold big at hz_s
  refine fn_enter (vs := [.string s]) Tryz.func77 rfl rfl rfl ?_ hw
  refine tc_seq <| tc_region ?_
  refine tl (v_assign rfl) ?_
  refine tl_nil <| tx_then <| tc_seq <| tc_seq <| tc_region ?_
  refine tl (v_assign rfl) ?_
  refine tl_nil <| tx_then <| tc_block ?_
  refine tc_loop ?_
  refine th_loopS (fun i : Nat => s.size - i) (fun i : Nat => [(0, .string s), (3, .int .i64 (i : Int))]) (fun i : Nat => (G)) (fun (i : Nat) => i ≤ s.size ∧ ∀ j : Nat, j < i → okB j (bt s j) = true) (0) ⟨rfl, rfl, trivial⟩ (by exact ⟨by omega, fun j h => by omega⟩) (fun w hw => hw) ?_
  rintro i hI1 ih2
  show TC Tryz.prog _ _ _ [] [(0, .string s), (3, .int .i64 (i : Int))] R (G)
  obtain ⟨hi1, hi2⟩ := hI1
  refine tc_seq <| tc_seq <| tc_region ?_
  refine tl (v_move rfl) ?_
  refine tl (v_move rfl) ?_
  refine tl (v_len_str rfl st9) ?_
  refine tl (v_ib rfl rfl rfl) ?_
  refine tl_nil <| tx_then ?_
  refine tc_split 7 rfl (fun h5 => ?_) (fun h5 => ?_)
  ·
   refine tc_yes rfl ?_
   refine tc_skip <| tx_then <| tc_seq <| tc_block ?_
   refine tc_cut [(0, .string s), (3, .int .i64 (i : Int)), (7, .bool true), (31, .bool (decide (((!(letterB (bt s i))) = true) ∧ (((i : Int) = 0) ∨ (((!(digitB (bt s i))) = true) ∧ (¬ (bt s i) = 95))))))] (G) (fun _ => True) (fun K hK6 hE7 => ?_) ?_
   ·
    refine tc_region ?_
    refine tl (v_move rfl) ?_
    refine tl (v_move rfl) ?_
    have hb8 : i < s.size := by omega
    have hr9 := bt_range s i
    refine tl (v_sidx (i := i) rfl rfl st9 hb8) ?_
    refine tl_callv ca98 rfl (fun w hw => isagogeref01_letter_ok (bt s i) (by omega) hw) rfl ?_
    refine tl (v_neg rfl) ?_
    refine tl (v_move rfl) ?_
    refine tl_splitb 15 rfl (fun h10 => ?_) (fun h10 => ?_)
    ·
     refine tl_grun 15 rfl rfl ?_
     refine tl (v_move rfl) ?_
     refine tl_grun 15 rfl rfl ?_
     refine tl (v_ib rfl rfl rfl) ?_
     refine tl_grun 15 rfl rfl ?_
     refine tl (v_move rfl) ?_
     refine tl_split 18 rfl (fun h11 => ?_) (fun h11 => ?_)
     ·
      refine tl_gskip 18 rfl rfl rfl ?_
      refine tl_gskip 18 rfl rfl rfl ?_
      refine tl_gskip 18 rfl rfl rfl ?_
      refine tl_gskip 18 rfl rfl rfl ?_
      refine tl_gskip 18 rfl rfl rfl ?_
      refine tl_gskip 18 rfl rfl rfl ?_
      refine tl_gskipu 24 rfl rfl rfl ?_
      refine tl_gskipu 24 rfl rfl rfl ?_
      refine tl_gskipu 24 rfl rfl rfl ?_
      refine tl_gskipu 24 rfl rfl rfl ?_
      refine tl_gskip 18 rfl rfl rfl ?_
      refine tl_grun 15 rfl rfl ?_
      refine tl (v_pick_t rfl rfl) ?_
      refine tl (v_pick_t rfl rfl) ?_
      refine tl_nil ?_
      exact tx_cut hK6 (.refl _) (trivial) ⟨rfl, rfl, rfl, show some (Value.bool true) = some (Value.bool (decide (((!(letterB (bt s i))) = true) ∧ (((i : Int) = 0) ∨ (((!(digitB (bt s i))) = true) ∧ (¬ (bt s i) = 95)))))) by first | (simp [h10, h11]; done) | grind | (simp [h10, h11] <;> omega), trivial⟩ (fun w hw => hw)
     ·
      refine tl_grun 18 rfl rfl ?_
      refine tl (v_move rfl) ?_
      refine tl_grun 18 rfl rfl ?_
      refine tl (v_move rfl) ?_
      refine tl_grun 18 rfl rfl ?_
      have hb12 : i < s.size := by omega
      have hr13 := bt_range s i
      refine tl (v_sidx (i := i) rfl rfl st9 hb12) ?_
      refine tl_grun 18 rfl rfl ?_
      refine tl_callv ca99 rfl (fun w hw => isagogeref01_digit_ok (bt s i) (by omega) hw) rfl ?_
      refine tl_grun 18 rfl rfl ?_
      refine tl (v_neg rfl) ?_
      refine tl_grun 18 rfl rfl ?_
      refine tl (v_move rfl) ?_
      refine tl_splitb 24 rfl (fun h14 => ?_) (fun h14 => ?_)
      ·
       refine tl_grun 24 rfl rfl ?_
       refine tl (v_move rfl) ?_
       refine tl_grun 24 rfl rfl ?_
       refine tl (v_move rfl) ?_
       refine tl_grun 24 rfl rfl ?_
       have hb15 : i < s.size := by omega
       have hr16 := bt_range s i
       refine tl (v_sidx (i := i) rfl rfl st9 hb15) ?_
       refine tl_grun 24 rfl rfl ?_
       refine tl (v_ib rfl rfl rfl) ?_
       refine tl_grun 18 rfl rfl ?_
       refine tl (v_pick_t rfl rfl) ?_
       refine tl_grun 15 rfl rfl ?_
       refine tl (v_pick_f rfl rfl) ?_
       refine tl (v_pick_t rfl rfl) ?_
       refine tl_nil ?_
       exact tx_cut hK6 (.refl _) (trivial) ⟨rfl, rfl, rfl, show some (Value.bool (decide (¬ (bt s i) = 95))) = some (Value.bool (decide (((!(letterB (bt s i))) = true) ∧ (((i : Int) = 0) ∨ (((!(digitB (bt s i))) = true) ∧ (¬ (bt s i) = 95)))))) by first | (simp [h10, h11, h14]; done) | grind | (simp [h10, h11, h14] <;> omega), trivial⟩ (fun w hw => hw)
      ·
       refine tl_gskip 24 rfl rfl rfl ?_
       refine tl_gskip 24 rfl rfl rfl ?_
       refine tl_gskip 24 rfl rfl rfl ?_
       refine tl_gskip 24 rfl rfl rfl ?_
       refine tl_grun 18 rfl rfl ?_
       refine tl (v_pick_f rfl rfl) ?_
       refine tl_grun 15 rfl rfl ?_
       refine tl (v_pick_f rfl rfl) ?_
       refine tl (v_pick_t rfl rfl) ?_
       refine tl_nil ?_
       exact tx_cut hK6 (.refl _) (trivial) ⟨rfl, rfl, rfl, show some (Value.bool false) = some (Value.bool (decide (((!(letterB (bt s i))) = true) ∧ (((i : Int) = 0) ∨ (((!(digitB (bt s i))) = true) ∧ (¬ (bt s i) = 95)))))) by first | (simp [h10, h11, h14]; done) | grind | (simp [h10, h11, h14] <;> omega), trivial⟩ (fun w hw => hw)
    ·
     refine tl_gskip 15 rfl rfl rfl ?_
     refine tl_gskip 15 rfl rfl rfl ?_
     refine tl_gskip 15 rfl rfl rfl ?_
     refine tl_gskipu 18 rfl rfl rfl ?_
     refine tl_gskipu 18 rfl rfl rfl ?_
     refine tl_gskipu 18 rfl rfl rfl ?_
     refine tl_gskipu 18 rfl rfl rfl ?_
     refine tl_gskipu 18 rfl rfl rfl ?_
     refine tl_gskipu 18 rfl rfl rfl ?_
     refine tl_gskipu 24 rfl rfl rfl ?_
     refine tl_gskipu 24 rfl rfl rfl ?_
     refine tl_gskipu 24 rfl rfl rfl ?_
     refine tl_gskipu 24 rfl rfl rfl ?_
     refine tl_gskipu 18 rfl rfl rfl ?_
     refine tl_gskip 15 rfl rfl rfl ?_
     refine tl (v_pick_f rfl rfl) ?_
     refine tl_nil ?_
     exact tx_cut hK6 (.refl _) (trivial) ⟨rfl, rfl, rfl, show some (Value.bool false) = some (Value.bool (decide (((!(letterB (bt s i))) = true) ∧ (((i : Int) = 0) ∨ (((!(digitB (bt s i))) = true) ∧ (¬ (bt s i) = 95)))))) by first | (simp [h10]; done) | grind | (simp [h10] <;> omega), trivial⟩ (fun w hw => hw)
   ·
    refine fun R18 hle19 hj17 => tc_weaken hle19 ?_
    refine tc_split 31 rfl (fun h20 => ?_) (fun h20 => ?_)
    ·
     refine tc_yes rfl ?_
     refine tc_seq <| tc_region ?_
     refine tl (v_assign rfl) ?_
     refine tl_nil <| tx_then <| tc_ret <| tx_blk_ret <| tx_then_ret <| tx_then_ret <| tx_blk_ret <| tx_then_ret ?_
     refine tx_ret1 (.inl rfl) rfl rfl ?_
     have e21 : (false : Bool) = wordB s := by (simp only [wordB]; rw [eq_comm, decide_eq_false_iff_not]; rintro ⟨_, hall⟩; have hk := hall i (by omega); grind [okB])
     exact fun w hw => ⟨congrArg Ending.returned (congrArg (fun x0 => Value.bool x0) e21), hw⟩
    ·
     refine tc_no rfl ?_
     refine tc_skip <| tx_blk <| tx_then <| tc_region ?_
     refine tl (v_move rfl) ?_
     refine tl (v_add rfl rfl (by omega) (by omega)) ?_
     refine tl (v_assign rfl) ?_
     refine tl_nil ?_
     refine tx_round ?_
     exact fun a w ha hw => ih2.out (i + 1) (by refine ⟨by omega, fun j h => ?_⟩; by_cases e : j = i; (subst e; grind [okB]); exact hi2 j (by omega)) (by (try dsimp only); omega) a w (ha.sub (lkAll_lk ⟨rfl, rfl, trivial⟩)) (hw)
  ·
   refine tc_no rfl ?_
   refine tc_exit <| tx_then_exit <| tx_then_exit <| tx_blk_exit <| tx_then <| tc_seq <| tc_region ?_
   refine tl (v_move rfl) ?_
   refine tl (v_sne rfl rfl) ?_
   refine tl (v_assign rfl) ?_
   refine tl_nil <| tx_then <| tc_ret ?_
   refine tx_ret1 (.inl rfl) rfl rfl ?_
   have e22 : (decide (¬ s = (⟨#[]⟩)) : Bool) = wordB s := by (have e : i = s.size := by omega); subst e; simp only [wordB]; simp only [decide_eq_decide]; exact ⟨fun h => ⟨h, hi2⟩, fun h => h.1⟩
   exact fun w hw => ⟨congrArg Ending.returned (congrArg (fun x0 => Value.bool x0) e22), hw⟩

set_option maxRecDepth 20000 in
set_option maxHeartbeats 8000000 in
theorem isagogeref01_Reserved_ok {R : RO} {G : List Res} {w : World} (s : ByteArray) (hz_s : s.size ≤ big) (hw : Own w R (G)) :
    Calls Tryz.prog 78 [.string s].toArray w (Gives R G (.bool (resB s))) := by
  unfold big at hz_s
  refine fn_enter (vs := [.string s]) Tryz.func78 rfl rfl rfl ?_ hw
  refine tc_seq <| tc_region ?_
  refine tl (v_assign rfl) ?_
  refine tl_nil <| tx_then <| tc_seq <| tc_seq <| tc_region ?_
  refine tl (v_move rfl) ?_
  refine tl_nil <| tx_then <| tc_block <| tc_seq <| tc_seq <| tc_region ?_
  refine tl (v_seq rfl rfl) ?_
  refine tl (v_assign rfl) ?_
  refine tl_nil <| tx_then ?_
  refine tc_split 4 rfl (fun h1 => ?_) (fun h1 => ?_)
  ·
   refine tc_yes rfl ?_
   refine tc_skip <| tx_then ?_
   refine tc_yes rfl ?_
   refine tc_seq <| tc_region ?_
   refine tl (v_assign rfl) ?_
   refine tl_nil <| tx_then <| tc_ret <| tx_blk_ret <| tx_then_ret ?_
   refine tx_ret1 (.inl rfl) rfl rfl ?_
   have e2 : (true : Bool) = resB s := by (simp only [resB, reserved, List.any_cons, List.any_nil]; grind)
   exact fun w hw => ⟨congrArg Ending.returned (congrArg (fun x0 => Value.bool x0) e2), hw⟩
  ·
   refine tc_no rfl ?_
   refine tc_seq <| tc_region ?_
   refine tl (v_seq rfl rfl) ?_
   refine tl (v_assign rfl) ?_
   refine tl_nil <| tx_then ?_
   refine tc_split 4 rfl (fun h3 => ?_) (fun h3 => ?_)
   ·
    refine tc_yes rfl ?_
    refine tc_skip <| tx_then ?_
    refine tc_yes rfl ?_
    refine tc_seq <| tc_region ?_
    refine tl (v_assign rfl) ?_
    refine tl_nil <| tx_then <| tc_ret <| tx_blk_ret <| tx_then_ret ?_
    refine tx_ret1 (.inl rfl) rfl rfl ?_
    have e4 : (true : Bool) = resB s := by (simp only [resB, reserved, List.any_cons, List.any_nil]; grind)
    exact fun w hw => ⟨congrArg Ending.returned (congrArg (fun x0 => Value.bool x0) e4), hw⟩
   ·
    refine tc_no rfl ?_
    refine tc_seq <| tc_region ?_
    refine tl (v_seq rfl rfl) ?_
    refine tl (v_assign rfl) ?_
    refine tl_nil <| tx_then ?_
    refine tc_split 4 rfl (fun h5 => ?_) (fun h5 => ?_)
    ·
     refine tc_yes rfl ?_
     refine tc_skip <| tx_then ?_
     refine tc_yes rfl ?_
     refine tc_seq <| tc_region ?_
     refine tl (v_assign rfl) ?_
     refine tl_nil <| tx_then <| tc_ret <| tx_blk_ret <| tx_then_ret ?_
     refine tx_ret1 (.inl rfl) rfl rfl ?_
     have e6 : (true : Bool) = resB s := by (simp only [resB, reserved, List.any_cons, List.any_nil]; grind)
     exact fun w hw => ⟨congrArg Ending.returned (congrArg (fun x0 => Value.bool x0) e6), hw⟩
    ·
     refine tc_no rfl ?_
     refine tc_seq <| tc_region ?_
     refine tl (v_seq rfl rfl) ?_
     refine tl (v_assign rfl) ?_
     refine tl_nil <| tx_then ?_
     refine tc_split 4 rfl (fun h7 => ?_) (fun h7 => ?_)
     ·
      refine tc_yes rfl ?_
      refine tc_skip <| tx_then ?_
      refine tc_yes rfl ?_
      refine tc_seq <| tc_region ?_
      refine tl (v_assign rfl) ?_
      refine tl_nil <| tx_then <| tc_ret <| tx_blk_ret <| tx_then_ret ?_
      refine tx_ret1 (.inl rfl) rfl rfl ?_
      have e8 : (true : Bool) = resB s := by (simp only [resB, reserved, List.any_cons, List.any_nil]; grind)
      exact fun w hw => ⟨congrArg Ending.returned (congrArg (fun x0 => Value.bool x0) e8), hw⟩
     ·
      refine tc_no rfl ?_
      refine tc_seq <| tc_region ?_
      refine tl (v_seq rfl rfl) ?_
      refine tl (v_assign rfl) ?_
      refine tl_nil <| tx_then ?_
      refine tc_split 4 rfl (fun h9 => ?_) (fun h9 => ?_)
      ·
       refine tc_yes rfl ?_
       refine tc_skip <| tx_then ?_
       refine tc_yes rfl ?_
       refine tc_seq <| tc_region ?_
       refine tl (v_assign rfl) ?_
       refine tl_nil <| tx_then <| tc_ret <| tx_blk_ret <| tx_then_ret ?_
       refine tx_ret1 (.inl rfl) rfl rfl ?_
       have e10 : (true : Bool) = resB s := by (simp only [resB, reserved, List.any_cons, List.any_nil]; grind)
       exact fun w hw => ⟨congrArg Ending.returned (congrArg (fun x0 => Value.bool x0) e10), hw⟩
      ·
       refine tc_no rfl ?_
       refine tc_seq <| tc_region ?_
       refine tl (v_seq rfl rfl) ?_
       refine tl (v_assign rfl) ?_
       refine tl_nil <| tx_then ?_
       refine tc_split 4 rfl (fun h11 => ?_) (fun h11 => ?_)
       ·
        refine tc_yes rfl ?_
        refine tc_skip <| tx_then ?_
        refine tc_yes rfl ?_
        refine tc_seq <| tc_region ?_
        refine tl (v_assign rfl) ?_
        refine tl_nil <| tx_then <| tc_ret <| tx_blk_ret <| tx_then_ret ?_
        refine tx_ret1 (.inl rfl) rfl rfl ?_
        have e12 : (true : Bool) = resB s := by (simp only [resB, reserved, List.any_cons, List.any_nil]; grind)
        exact fun w hw => ⟨congrArg Ending.returned (congrArg (fun x0 => Value.bool x0) e12), hw⟩
       ·
        refine tc_no rfl ?_
        refine tc_seq <| tc_region ?_
        refine tl (v_seq rfl rfl) ?_
        refine tl (v_assign rfl) ?_
        refine tl_nil <| tx_then ?_
        refine tc_split 4 rfl (fun h13 => ?_) (fun h13 => ?_)
        ·
         refine tc_yes rfl ?_
         refine tc_skip <| tx_then ?_
         refine tc_yes rfl ?_
         refine tc_seq <| tc_region ?_
         refine tl (v_assign rfl) ?_
         refine tl_nil <| tx_then <| tc_ret <| tx_blk_ret <| tx_then_ret ?_
         refine tx_ret1 (.inl rfl) rfl rfl ?_
         have e14 : (true : Bool) = resB s := by (simp only [resB, reserved, List.any_cons, List.any_nil]; grind)
         exact fun w hw => ⟨congrArg Ending.returned (congrArg (fun x0 => Value.bool x0) e14), hw⟩
        ·
         refine tc_no rfl ?_
         refine tc_seq <| tc_region ?_
         refine tl (v_seq rfl rfl) ?_
         refine tl (v_assign rfl) ?_
         refine tl_nil <| tx_then ?_
         refine tc_split 4 rfl (fun h15 => ?_) (fun h15 => ?_)
         ·
          refine tc_yes rfl ?_
          refine tc_skip <| tx_then ?_
          refine tc_yes rfl ?_
          refine tc_seq <| tc_region ?_
          refine tl (v_assign rfl) ?_
          refine tl_nil <| tx_then <| tc_ret <| tx_blk_ret <| tx_then_ret ?_
          refine tx_ret1 (.inl rfl) rfl rfl ?_
          have e16 : (true : Bool) = resB s := by (simp only [resB, reserved, List.any_cons, List.any_nil]; grind)
          exact fun w hw => ⟨congrArg Ending.returned (congrArg (fun x0 => Value.bool x0) e16), hw⟩
         ·
          refine tc_no rfl ?_
          refine tc_seq <| tc_region ?_
          refine tl (v_seq rfl rfl) ?_
          refine tl (v_assign rfl) ?_
          refine tl_nil <| tx_then ?_
          refine tc_split 4 rfl (fun h17 => ?_) (fun h17 => ?_)
          ·
           refine tc_yes rfl ?_
           refine tc_skip <| tx_then ?_
           refine tc_yes rfl ?_
           refine tc_seq <| tc_region ?_
           refine tl (v_assign rfl) ?_
           refine tl_nil <| tx_then <| tc_ret <| tx_blk_ret <| tx_then_ret ?_
           refine tx_ret1 (.inl rfl) rfl rfl ?_
           have e18 : (true : Bool) = resB s := by (simp only [resB, reserved, List.any_cons, List.any_nil]; grind)
           exact fun w hw => ⟨congrArg Ending.returned (congrArg (fun x0 => Value.bool x0) e18), hw⟩
          ·
           refine tc_no rfl ?_
           refine tc_region ?_
           refine tl (v_seq rfl rfl) ?_
           refine tl (v_assign rfl) ?_
           refine tl_nil <| tx_then ?_
           refine tc_split 4 rfl (fun h19 => ?_) (fun h19 => ?_)
           ·
            refine tc_yes rfl ?_
            refine tc_seq <| tc_region ?_
            refine tl (v_assign rfl) ?_
            refine tl_nil <| tx_then <| tc_ret <| tx_blk_ret <| tx_then_ret ?_
            refine tx_ret1 (.inl rfl) rfl rfl ?_
            have e20 : (true : Bool) = resB s := by (simp only [resB, reserved, List.any_cons, List.any_nil]; grind)
            exact fun w hw => ⟨congrArg Ending.returned (congrArg (fun x0 => Value.bool x0) e20), hw⟩
           ·
            refine tc_no rfl ?_
            refine tc_skip <| tx_blk <| tx_then <| tc_seq <| tc_region ?_
            refine tl (v_assign rfl) ?_
            refine tl_nil <| tx_then <| tc_ret ?_
            refine tx_ret1 (.inl rfl) rfl rfl ?_
            have e21 : (false : Bool) = resB s := by (simp only [resB, reserved, List.any_cons, List.any_nil]; grind)
            exact fun w hw => ⟨congrArg Ending.returned (congrArg (fun x0 => Value.bool x0) e21), hw⟩

set_option maxRecDepth 20000 in
set_option maxHeartbeats 8000000 in
theorem isagogeref01_Name_ok {R : RO} {G : List Res} {w : World} (s : ByteArray) (hz_s : s.size ≤ big) (hw : Own w R (G)) :
    Calls Tryz.prog 57 [.string s].toArray w (Gives R G (.bool (nameB s))) := by
  unfold big at hz_s
  refine fn_enter (vs := [.string s]) Tryz.func57 rfl rfl rfl ?_ hw
  refine tc_seq <| tc_region ?_
  refine tl (v_assign rfl) ?_
  refine tl_nil <| tx_then ?_
  refine tc_cut [(2, .bool (decide ((((s.size : Int) ≤ 12) ∧ ((wordB s) = true)) ∧ ((!(resB s)) = true))))] (G) (fun _ => True) (fun K hK1 hE2 => ?_) ?_
  ·
   refine tc_region ?_
   refine tl (v_move rfl) ?_
   refine tl (v_len_str rfl st9) ?_
   refine tl (v_ib rfl rfl rfl) ?_
   refine tl (v_move rfl) ?_
   refine tl_split 6 rfl (fun h3 => ?_) (fun h3 => ?_)
   ·
    refine tl_grun 6 rfl rfl ?_
    refine tl (v_move rfl) ?_
    refine tl_grun 6 rfl rfl ?_
    refine tl_callv ca77 rfl (fun w hw => isagogeref01_Word_ok s (by unfold big; omega) hw) rfl ?_
    refine tl (v_pick_t rfl rfl) ?_
    refine tl (v_move rfl) ?_
    refine tl_splitb 10 rfl (fun h4 => ?_) (fun h4 => ?_)
    ·
     refine tl_grun 10 rfl rfl ?_
     refine tl (v_move rfl) ?_
     refine tl_grun 10 rfl rfl ?_
     refine tl_callv ca78 rfl (fun w hw => isagogeref01_Reserved_ok s (by unfold big; omega) hw) rfl ?_
     refine tl_grun 10 rfl rfl ?_
     refine tl (v_neg rfl) ?_
     refine tl (v_pick_t rfl rfl) ?_
     refine tl (v_assign rfl) ?_
     refine tl_nil ?_
     exact tx_cut hK1 (.refl _) (trivial) ⟨show some (Value.bool (!(resB s))) = some (Value.bool (decide ((((s.size : Int) ≤ 12) ∧ ((wordB s) = true)) ∧ ((!(resB s)) = true)))) by first | (simp [h3, h4]; done) | grind | (simp [h3, h4] <;> omega), trivial⟩ (fun w hw => hw)
    ·
     refine tl_gskip 10 rfl rfl rfl ?_
     refine tl_gskip 10 rfl rfl rfl ?_
     refine tl_gskip 10 rfl rfl rfl ?_
     refine tl (v_pick_f rfl rfl) ?_
     refine tl (v_assign rfl) ?_
     refine tl_nil ?_
     exact tx_cut hK1 (.refl _) (trivial) ⟨show some (Value.bool false) = some (Value.bool (decide ((((s.size : Int) ≤ 12) ∧ ((wordB s) = true)) ∧ ((!(resB s)) = true)))) by first | (simp [h3, h4]; done) | grind | (simp [h3, h4] <;> omega), trivial⟩ (fun w hw => hw)
   ·
    refine tl_gskip 6 rfl rfl rfl ?_
    refine tl_gskip 6 rfl rfl rfl ?_
    refine tl (v_pick_f rfl rfl) ?_
    refine tl (v_move rfl) ?_
    refine tl_gskip 10 rfl rfl rfl ?_
    refine tl_gskip 10 rfl rfl rfl ?_
    refine tl_gskip 10 rfl rfl rfl ?_
    refine tl (v_pick_f rfl rfl) ?_
    refine tl (v_assign rfl) ?_
    refine tl_nil ?_
    exact tx_cut hK1 (.refl _) (trivial) ⟨show some (Value.bool false) = some (Value.bool (decide ((((s.size : Int) ≤ 12) ∧ ((wordB s) = true)) ∧ ((!(resB s)) = true)))) by first | (simp [h3]; done) | grind | (simp [h3] <;> omega), trivial⟩ (fun w hw => hw)
  ·
   refine fun R6 hle7 hj5 => tc_weaken hle7 ?_
   refine tc_ret ?_
   refine tx_ret1 (.inl rfl) rfl rfl ?_
   have e8 : (decide ((((s.size : Int) ≤ 12) ∧ ((wordB s) = true)) ∧ ((!(resB s)) = true)) : Bool) = nameB s := by (simp only [nameB]; grind)
   exact fun w hw => ⟨congrArg Ending.returned (congrArg (fun x0 => Value.bool x0) e8), hw⟩

end Go.Proofs.YtcbcdlajnmkioaaGreatDoor
