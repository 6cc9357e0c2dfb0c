/- A part of the proof of the statement ModuleGrows of isagogelaw19: functions walked, and plain laws on what they answer. -/
import Derived.Test.YtcbcdlajnmkioaaGreatDoorE12
import Derived.Test.YtcbcdlajnmkioaaGreatDoorS0
import Derived.Test.YtcbcdlajnmkioaaGreatDoorProg
namespace Go.Proofs.YtcbcdlajnmkioaaGreatDoor
open Go Go.Proofs
set_option linter.unusedSimpArgs false
set_option linter.unusedVariables false
theorem ca107 : Callable Tryz.prog 107 := ⟨by kernel_rfl⟩

set_option maxRecDepth 20000 in
set_option maxHeartbeats 8000000 in
theorem isagogeref01_letter_ok {R : RO} {G : List Res} {w : World} (c : Int) (hb_c : 0 ≤ c ∧ c ≤ 255) (hw : Own w R (G)) :
    Calls Tryz.prog 98 [.int .u8 c].toArray w (Gives R G (.bool (letterB c))) := by
  refine fn_enter (vs := [.int .u8 c]) Tryz.func98 rfl rfl rfl ?_ hw
  refine tc_seq <| tc_region ?_
  refine tl (v_assign rfl) ?_
  refine tl_nil <| tx_then ?_
  refine tc_cut [(2, .bool (decide (((97 ≤ c) ∧ (c ≤ 122)) ∨ ((65 ≤ c) ∧ (c ≤ 90)))))] (G) (fun _ => True) (fun K hK1 hE2 => ?_) ?_
  ·
   refine tc_region ?_
   refine tl (v_move rfl) ?_
   refine tl (v_ib rfl rfl rfl) ?_
   refine tl (v_move rfl) ?_
   refine tl_split 5 rfl (fun h3 => ?_) (fun h3 => ?_)
   ·
    refine tl_grun 5 rfl rfl ?_
    refine tl (v_move rfl) ?_
    refine tl_grun 5 rfl rfl ?_
    refine tl (v_ib rfl rfl rfl) ?_
    refine tl (v_pick_t rfl rfl) ?_
    refine tl (v_move rfl) ?_
    refine tl_split 9 rfl (fun h4 => ?_) (fun h4 => ?_)
    ·
     refine tl_gskip 9 rfl rfl rfl ?_
     refine tl_gskip 9 rfl rfl rfl ?_
     refine tl_gskip 9 rfl rfl rfl ?_
     refine tl_gskipu 12 rfl rfl rfl ?_
     refine tl_gskipu 12 rfl rfl rfl ?_
     refine tl_gskip 9 rfl rfl rfl ?_
     refine tl (v_pick_t rfl rfl) ?_
     refine tl (v_assign rfl) ?_
     refine tl_nil ?_
     exact tx_cut hK1 (.refl _) (trivial) ⟨show some (Value.bool true) = some (Value.bool (decide (((97 ≤ c) ∧ (c ≤ 122)) ∨ ((65 ≤ c) ∧ (c ≤ 90))))) by first | (simp [h3, h4]; done) | grind | (simp [h3, h4] <;> omega), trivial⟩ (fun w hw => hw)
    ·
     refine tl_grun 9 rfl rfl ?_
     refine tl (v_move rfl) ?_
     refine tl_grun 9 rfl rfl ?_
     refine tl (v_ib rfl rfl rfl) ?_
     refine tl_grun 9 rfl rfl ?_
     refine tl (v_move rfl) ?_
     refine tl_split 12 rfl (fun h5 => ?_) (fun h5 => ?_)
     ·
      refine tl_grun 12 rfl rfl ?_
      refine tl (v_move rfl) ?_
      refine tl_grun 12 rfl rfl ?_
      refine tl (v_ib rfl rfl rfl) ?_
      refine tl_grun 9 rfl rfl ?_
      refine tl (v_pick_t rfl rfl) ?_
      refine tl (v_pick_f rfl rfl) ?_
      refine tl (v_assign rfl) ?_
      refine tl_nil ?_
      exact tx_cut hK1 (.refl _) (trivial) ⟨show some (Value.bool (decide (c ≤ 90))) = some (Value.bool (decide (((97 ≤ c) ∧ (c ≤ 122)) ∨ ((65 ≤ c) ∧ (c ≤ 90))))) by first | (simp [h3, h4, h5]; done) | grind | (simp [h3, h4, h5] <;> omega), trivial⟩ (fun w hw => hw)
     ·
      refine tl_gskip 12 rfl rfl rfl ?_
      refine tl_gskip 12 rfl rfl rfl ?_
      refine tl_grun 9 rfl rfl ?_
      refine tl (v_pick_f rfl rfl) ?_
      refine tl (v_pick_f rfl rfl) ?_
      refine tl (v_assign rfl) ?_
      refine tl_nil ?_
      exact tx_cut hK1 (.refl _) (trivial) ⟨show some (Value.bool false) = some (Value.bool (decide (((97 ≤ c) ∧ (c ≤ 122)) ∨ ((65 ≤ c) ∧ (c ≤ 90))))) by first | (simp [h3, h4, h5]; done) | grind | (simp [h3, h4, h5] <;> omega), trivial⟩ (fun w hw => hw)
   ·
    refine tl_gskip 5 rfl rfl rfl ?_
    refine tl_gskip 5 rfl rfl rfl ?_
    refine tl (v_pick_f rfl rfl) ?_
    refine tl (v_move rfl) ?_
    refine tl_grun 9 rfl rfl ?_
    refine tl (v_move rfl) ?_
    refine tl_grun 9 rfl rfl ?_
    refine tl (v_ib rfl rfl rfl) ?_
    refine tl_grun 9 rfl rfl ?_
    refine tl (v_move rfl) ?_
    refine tl_split 12 rfl (fun h6 => ?_) (fun h6 => ?_)
    ·
     refine tl_grun 12 rfl rfl ?_
     refine tl (v_move rfl) ?_
     refine tl_grun 12 rfl rfl ?_
     refine tl (v_ib rfl rfl rfl) ?_
     refine tl_grun 9 rfl rfl ?_
     refine tl (v_pick_t rfl rfl) ?_
     refine tl (v_pick_f rfl rfl) ?_
     refine tl (v_assign rfl) ?_
     refine tl_nil ?_
     exact tx_cut hK1 (.refl _) (trivial) ⟨show some (Value.bool (decide (c ≤ 90))) = some (Value.bool (decide (((97 ≤ c) ∧ (c ≤ 122)) ∨ ((65 ≤ c) ∧ (c ≤ 90))))) by first | (simp [h3, h6]; done) | grind | (simp [h3, h6] <;> omega), trivial⟩ (fun w hw => hw)
    ·
     refine tl_gskip 12 rfl rfl rfl ?_
     refine tl_gskip 12 rfl rfl rfl ?_
     refine tl_grun 9 rfl rfl ?_
     refine tl (v_pick_f rfl rfl) ?_
     refine tl (v_pick_f rfl rfl) ?_
     refine tl (v_assign rfl) ?_
     refine tl_nil ?_
     exact tx_cut hK1 (.refl _) (trivial) ⟨show some (Value.bool false) = some (Value.bool (decide (((97 ≤ c) ∧ (c ≤ 122)) ∨ ((65 ≤ c) ∧ (c ≤ 90))))) by first | (simp [h3, h6]; done) | grind | (simp [h3, h6] <;> omega), trivial⟩ (fun w hw => hw)
  ·
   refine fun R8 hle9 hj7 => tc_weaken hle9 ?_
   refine tc_ret ?_
   refine tx_ret1 (.inl rfl) rfl rfl ?_
   have e10 : (decide (((97 ≤ c) ∧ (c ≤ 122)) ∨ ((65 ≤ c) ∧ (c ≤ 90))) : Bool) = letterB c := by first | rfl | (rw [Bool.eq_iff_iff]; simp only [letterB, decide_eq_true_eq, Bool.or_eq_true, Bool.and_eq_true, Bool.false_eq_true, Bool.not_eq_true', Bool.not_eq_eq_eq_not, Bool.not_true, decide_eq_false_iff_not, Bool.not_false] <;> omega) | (rw [Bool.eq_iff_iff]; simp [letterB] <;> omega)
   exact fun w hw => ⟨congrArg Ending.returned (congrArg (fun x0 => Value.bool x0) e10), hw⟩

set_option maxRecDepth 20000 in
set_option maxHeartbeats 8000000 in
theorem isagogeref01_digit_ok {R : RO} {G : List Res} {w : World} (c : Int) (hb_c : 0 ≤ c ∧ c ≤ 255) (hw : Own w R (G)) :
    Calls Tryz.prog 99 [.int .u8 c].toArray w (Gives R G (.bool (digitB c))) := by
  refine fn_enter (vs := [.int .u8 c]) Tryz.func99 rfl rfl rfl ?_ hw
  refine tc_seq <| tc_region ?_
  refine tl (v_assign rfl) ?_
  refine tl_nil <| tx_then ?_
  refine tc_cut [(2, .bool (decide ((48 ≤ c) ∧ (c ≤ 57))))] (G) (fun _ => True) (fun K hK1 hE2 => ?_) ?_
  ·
   refine tc_region ?_
   refine tl (v_move rfl) ?_
   refine tl (v_ib rfl rfl rfl) ?_
   refine tl (v_move rfl) ?_
   refine tl_split 5 rfl (fun h3 => ?_) (fun h3 => ?_)
   ·
    refine tl_grun 5 rfl rfl ?_
    refine tl (v_move rfl) ?_
    refine tl_grun 5 rfl rfl ?_
    refine tl (v_ib rfl rfl rfl) ?_
    refine tl (v_pick_t rfl rfl) ?_
    refine tl (v_assign rfl) ?_
    refine tl_nil ?_
    exact tx_cut hK1 (.refl _) (trivial) ⟨show some (Value.bool (decide (c ≤ 57))) = some (Value.bool (decide ((48 ≤ c) ∧ (c ≤ 57)))) by first | (simp [h3]; done) | grind | (simp [h3] <;> omega), trivial⟩ (fun w hw => hw)
   ·
    refine tl_gskip 5 rfl rfl rfl ?_
    refine tl_gskip 5 rfl rfl rfl ?_
    refine tl (v_pick_f rfl rfl) ?_
    refine tl (v_assign rfl) ?_
    refine tl_nil ?_
    exact tx_cut hK1 (.refl _) (trivial) ⟨show some (Value.bool false) = some (Value.bool (decide ((48 ≤ c) ∧ (c ≤ 57)))) by first | (simp [h3]; done) | grind | (simp [h3] <;> omega), trivial⟩ (fun w hw => hw)
  ·
   refine fun R5 hle6 hj4 => tc_weaken hle6 ?_
   refine tc_ret ?_
   refine tx_ret1 (.inl rfl) rfl rfl ?_
   have e7 : (decide ((48 ≤ c) ∧ (c ≤ 57)) : Bool) = digitB c := by first | rfl | (rw [Bool.eq_iff_iff]; simp only [digitB, decide_eq_true_eq, Bool.or_eq_true, Bool.and_eq_true, Bool.false_eq_true, Bool.not_eq_true', Bool.not_eq_eq_eq_not, Bool.not_true, decide_eq_false_iff_not, Bool.not_false] <;> omega) | (rw [Bool.eq_iff_iff]; simp [digitB] <;> omega)
   exact fun w hw => ⟨congrArg Ending.returned (congrArg (fun x0 => Value.bool x0) e7), hw⟩

set_option maxRecDepth 20000 in
set_option maxHeartbeats 8000000 in
theorem concept_letter_ok {R : RO} {G : List Res} {w : World} (c : Int) (hb_c : 0 ≤ c ∧ c ≤ 255) (hw : Own w R (G)) :
    Calls Tryz.prog 107 [.int .u8 c].toArray w (Gives R G (.bool (letterB c))) := by
  refine fn_enter (vs := [.int .u8 c]) Tryz.func107 rfl rfl rfl ?_ hw
  refine tc_seq <| tc_region ?_
  refine tl (v_assign rfl) ?_
  refine tl_nil <| tx_then ?_
  refine tc_cut [(2, .bool (decide (((97 ≤ c) ∧ (c ≤ 122)) ∨ ((65 ≤ c) ∧ (c ≤ 90)))))] (G) (fun _ => True) (fun K hK1 hE2 => ?_) ?_
  ·
   refine tc_region ?_
   refine tl (v_move rfl) ?_
   refine tl (v_ib rfl rfl rfl) ?_
   refine tl (v_move rfl) ?_
   refine tl_split 5 rfl (fun h3 => ?_) (fun h3 => ?_)
   ·
    refine tl_grun 5 rfl rfl ?_
    refine tl (v_move rfl) ?_
    refine tl_grun 5 rfl rfl ?_
    refine tl (v_ib rfl rfl rfl) ?_
    refine tl (v_pick_t rfl rfl) ?_
    refine tl (v_move rfl) ?_
    refine tl_split 9 rfl (fun h4 => ?_) (fun h4 => ?_)
    ·
     refine tl_gskip 9 rfl rfl rfl ?_
     refine tl_gskip 9 rfl rfl rfl ?_
     refine tl_gskip 9 rfl rfl rfl ?_
     refine tl_gskipu 12 rfl rfl rfl ?_
     refine tl_gskipu 12 rfl rfl rfl ?_
     refine tl_gskip 9 rfl rfl rfl ?_
     refine tl (v_pick_t rfl rfl) ?_
     refine tl (v_assign rfl) ?_
     refine tl_nil ?_
     exact tx_cut hK1 (.refl _) (trivial) ⟨show some (Value.bool true) = some (Value.bool (decide (((97 ≤ c) ∧ (c ≤ 122)) ∨ ((65 ≤ c) ∧ (c ≤ 90))))) by first | (simp [h3, h4]; done) | grind | (simp [h3, h4] <;> omega), trivial⟩ (fun w hw => hw)
    ·
     refine tl_grun 9 rfl rfl ?_
     refine tl (v_move rfl) ?_
     refine tl_grun 9 rfl rfl ?_
     refine tl (v_ib rfl rfl rfl) ?_
     refine tl_grun 9 rfl rfl ?_
     refine tl (v_move rfl) ?_
     refine tl_split 12 rfl (fun h5 => ?_) (fun h5 => ?_)
     ·
      refine tl_grun 12 rfl rfl ?_
      refine tl (v_move rfl) ?_
      refine tl_grun 12 rfl rfl ?_
      refine tl (v_ib rfl rfl rfl) ?_
      refine tl_grun 9 rfl rfl ?_
      refine tl (v_pick_t rfl rfl) ?_
      refine tl (v_pick_f rfl rfl) ?_
      refine tl (v_assign rfl) ?_
      refine tl_nil ?_
      exact tx_cut hK1 (.refl _) (trivial) ⟨show some (Value.bool (decide (c ≤ 90))) = some (Value.bool (decide (((97 ≤ c) ∧ (c ≤ 122)) ∨ ((65 ≤ c) ∧ (c ≤ 90))))) by first | (simp [h3, h4, h5]; done) | grind | (simp [h3, h4, h5] <;> omega), trivial⟩ (fun w hw => hw)
     ·
      refine tl_gskip 12 rfl rfl rfl ?_
      refine tl_gskip 12 rfl rfl rfl ?_
      refine tl_grun 9 rfl rfl ?_
      refine tl (v_pick_f rfl rfl) ?_
      refine tl (v_pick_f rfl rfl) ?_
      refine tl (v_assign rfl) ?_
      refine tl_nil ?_
      exact tx_cut hK1 (.refl _) (trivial) ⟨show some (Value.bool false) = some (Value.bool (decide (((97 ≤ c) ∧ (c ≤ 122)) ∨ ((65 ≤ c) ∧ (c ≤ 90))))) by first | (simp [h3, h4, h5]; done) | grind | (simp [h3, h4, h5] <;> omega), trivial⟩ (fun w hw => hw)
   ·
    refine tl_gskip 5 rfl rfl rfl ?_
    refine tl_gskip 5 rfl rfl rfl ?_
    refine tl (v_pick_f rfl rfl) ?_
    refine tl (v_move rfl) ?_
    refine tl_grun 9 rfl rfl ?_
    refine tl (v_move rfl) ?_
    refine tl_grun 9 rfl rfl ?_
    refine tl (v_ib rfl rfl rfl) ?_
    refine tl_grun 9 rfl rfl ?_
    refine tl (v_move rfl) ?_
    refine tl_split 12 rfl (fun h6 => ?_) (fun h6 => ?_)
    ·
     refine tl_grun 12 rfl rfl ?_
     refine tl (v_move rfl) ?_
     refine tl_grun 12 rfl rfl ?_
     refine tl (v_ib rfl rfl rfl) ?_
     refine tl_grun 9 rfl rfl ?_
     refine tl (v_pick_t rfl rfl) ?_
     refine tl (v_pick_f rfl rfl) ?_
     refine tl (v_assign rfl) ?_
     refine tl_nil ?_
     exact tx_cut hK1 (.refl _) (trivial) ⟨show some (Value.bool (decide (c ≤ 90))) = some (Value.bool (decide (((97 ≤ c) ∧ (c ≤ 122)) ∨ ((65 ≤ c) ∧ (c ≤ 90))))) by first | (simp [h3, h6]; done) | grind | (simp [h3, h6] <;> omega), trivial⟩ (fun w hw => hw)
    ·
     refine tl_gskip 12 rfl rfl rfl ?_
     refine tl_gskip 12 rfl rfl rfl ?_
     refine tl_grun 9 rfl rfl ?_
     refine tl (v_pick_f rfl rfl) ?_
     refine tl (v_pick_f rfl rfl) ?_
     refine tl (v_assign rfl) ?_
     refine tl_nil ?_
     exact tx_cut hK1 (.refl _) (trivial) ⟨show some (Value.bool false) = some (Value.bool (decide (((97 ≤ c) ∧ (c ≤ 122)) ∨ ((65 ≤ c) ∧ (c ≤ 90))))) by first | (simp [h3, h6]; done) | grind | (simp [h3, h6] <;> omega), trivial⟩ (fun w hw => hw)
  ·
   refine fun R8 hle9 hj7 => tc_weaken hle9 ?_
   refine tc_ret ?_
   refine tx_ret1 (.inl rfl) rfl rfl ?_
   have e10 : (decide (((97 ≤ c) ∧ (c ≤ 122)) ∨ ((65 ≤ c) ∧ (c ≤ 90))) : Bool) = letterB c := by first | rfl | (rw [Bool.eq_iff_iff]; simp only [letterB, decide_eq_true_eq, Bool.or_eq_true, Bool.and_eq_true, Bool.false_eq_true, Bool.not_eq_true', Bool.not_eq_eq_eq_not, Bool.not_true, decide_eq_false_iff_not, Bool.not_false] <;> omega) | (rw [Bool.eq_iff_iff]; simp [letterB] <;> omega)
   exact fun w hw => ⟨congrArg Ending.returned (congrArg (fun x0 => Value.bool x0) e10), hw⟩

set_option maxRecDepth 20000 in
set_option maxHeartbeats 8000000 in
theorem concept_within_ok {R : RO} {G : List Res} {w : World} (c : Int) (hb_c : 0 ≤ c ∧ c ≤ 255) (hw : Own w R (G)) :
    Calls Tryz.prog 109 [.int .u8 c].toArray w (Gives R G (.bool (withinB c))) := by
  refine fn_enter (vs := [.int .u8 c]) Tryz.func109 rfl rfl rfl ?_ hw
  refine tc_seq <| tc_region ?_
  refine tl (v_assign rfl) ?_
  refine tl_nil <| tx_then ?_
  refine tc_cut [(2, .bool (decide ((((letterB c) = true) ∨ ((48 ≤ c) ∧ (c ≤ 57))) ∨ (c = 95))))] (G) (fun _ => True) (fun K hK1 hE2 => ?_) ?_
  ·
   refine tc_region ?_
   refine tl (v_move rfl) ?_
   refine tl_callv ca107 rfl (fun w hw => concept_letter_ok c (by omega) hw) rfl ?_
   refine tl (v_move rfl) ?_
   refine tl_splitb 5 rfl (fun h3 => ?_) (fun h3 => ?_)
   ·
    refine tl_gskip 5 rfl rfl rfl ?_
    refine tl_gskip 5 rfl rfl rfl ?_
    refine tl_gskip 5 rfl rfl rfl ?_
    refine tl_gskipu 8 rfl rfl rfl ?_
    refine tl_gskipu 8 rfl rfl rfl ?_
    refine tl_gskip 5 rfl rfl rfl ?_
    refine tl (v_pick_t rfl rfl) ?_
    refine tl (v_move rfl) ?_
    refine tl_gskip 13 rfl rfl rfl ?_
    refine tl_gskip 13 rfl rfl rfl ?_
    refine tl (v_pick_t rfl rfl) ?_
    refine tl (v_assign rfl) ?_
    refine tl_nil ?_
    exact tx_cut hK1 (.refl _) (trivial) ⟨show some (Value.bool true) = some (Value.bool (decide ((((letterB c) = true) ∨ ((48 ≤ c) ∧ (c ≤ 57))) ∨ (c = 95)))) by first | (simp [h3]; done) | grind | (simp [h3] <;> omega), trivial⟩ (fun w hw => hw)
   ·
    refine tl_grun 5 rfl rfl ?_
    refine tl (v_move rfl) ?_
    refine tl_grun 5 rfl rfl ?_
    refine tl (v_ib rfl rfl rfl) ?_
    refine tl_grun 5 rfl rfl ?_
    refine tl (v_move rfl) ?_
    refine tl_split 8 rfl (fun h4 => ?_) (fun h4 => ?_)
    ·
     refine tl_grun 8 rfl rfl ?_
     refine tl (v_move rfl) ?_
     refine tl_grun 8 rfl rfl ?_
     refine tl (v_ib rfl rfl rfl) ?_
     refine tl_grun 5 rfl rfl ?_
     refine tl (v_pick_t rfl rfl) ?_
     refine tl (v_pick_f rfl rfl) ?_
     refine tl (v_move rfl) ?_
     refine tl_split 13 rfl (fun h5 => ?_) (fun h5 => ?_)
     ·
      refine tl_gskip 13 rfl rfl rfl ?_
      refine tl_gskip 13 rfl rfl rfl ?_
      refine tl (v_pick_t rfl rfl) ?_
      refine tl (v_assign rfl) ?_
      refine tl_nil ?_
      exact tx_cut hK1 (.refl _) (trivial) ⟨show some (Value.bool true) = some (Value.bool (decide ((((letterB c) = true) ∨ ((48 ≤ c) ∧ (c ≤ 57))) ∨ (c = 95)))) by first | (simp [h3, h4, h5]; done) | grind | (simp [h3, h4, h5] <;> omega), trivial⟩ (fun w hw => hw)
     ·
      refine tl_grun 13 rfl rfl ?_
      refine tl (v_move rfl) ?_
      refine tl_grun 13 rfl rfl ?_
      refine tl (v_ib rfl rfl rfl) ?_
      refine tl (v_pick_f rfl rfl) ?_
      refine tl (v_assign rfl) ?_
      refine tl_nil ?_
      exact tx_cut hK1 (.refl _) (trivial) ⟨show some (Value.bool (decide (c = 95))) = some (Value.bool (decide ((((letterB c) = true) ∨ ((48 ≤ c) ∧ (c ≤ 57))) ∨ (c = 95)))) by first | (simp [h3, h4, h5]; done) | grind | (simp [h3, h4, h5] <;> omega), trivial⟩ (fun w hw => hw)
    ·
     refine tl_gskip 8 rfl rfl rfl ?_
     refine tl_gskip 8 rfl rfl rfl ?_
     refine tl_grun 5 rfl rfl ?_
     refine tl (v_pick_f rfl rfl) ?_
     refine tl (v_pick_f rfl rfl) ?_
     refine tl (v_move rfl) ?_
     refine tl_grun 13 rfl rfl ?_
     refine tl (v_move rfl) ?_
     refine tl_grun 13 rfl rfl ?_
     refine tl (v_ib rfl rfl rfl) ?_
     refine tl (v_pick_f rfl rfl) ?_
     refine tl (v_assign rfl) ?_
     refine tl_nil ?_
     exact tx_cut hK1 (.refl _) (trivial) ⟨show some (Value.bool (decide (c = 95))) = some (Value.bool (decide ((((letterB c) = true) ∨ ((48 ≤ c) ∧ (c ≤ 57))) ∨ (c = 95)))) by first | (simp [h3, h4]; done) | grind | (simp [h3, h4] <;> omega), trivial⟩ (fun w hw => hw)
  ·
   refine fun R7 hle8 hj6 => tc_weaken hle8 ?_
   refine tc_ret ?_
   refine tx_ret1 (.inl rfl) rfl rfl ?_
   have e9 : (decide ((((letterB c) = true) ∨ ((48 ≤ c) ∧ (c ≤ 57))) ∨ (c = 95)) : Bool) = withinB c := by first | rfl | simp [withinB, letterB, digitB, *] | (simp [withinB, digitB, *] <;> omega)
   exact fun w hw => ⟨congrArg Ending.returned (congrArg (fun x0 => Value.bool x0) e9), hw⟩

end Go.Proofs.YtcbcdlajnmkioaaGreatDoor
