/- A part of the proof of the statement ModuleGrows of isagogelaw19: functions walked, and plain laws on what they answer. -/
import Derived.Test.YtcbcdlajnmkioaaGreatDoorZ6
namespace Go.Proofs.YtcbcdlajnmkioaaGreatDoor
open Go Go.Proofs
set_option linter.unusedSimpArgs false
set_option linter.unusedVariables false
theorem ca31 : Callable Tryz.prog 31 := ⟨by kernel_rfl⟩
theorem ca64 : Callable Tryz.prog 64 := ⟨by kernel_rfl⟩
theorem ca65 : Callable Tryz.prog 65 := ⟨by kernel_rfl⟩
theorem sl74 : slElem Tryz.prog 74 = some (33, 2) := by kernel_rfl

set_option maxRecDepth 20000 in
set_option maxHeartbeats 8000000 in
theorem isagogelaw19_name_ok {R : RO} {G : List Res} {w : World} (i : Int) (hi_i : i64 i) (hw : Own w R (G)) :
    Calls Tryz.prog 65 [.int .i64 i].toArray w (RetO R G (fun v_ R' L_ => ∃ (cs_0 : List Value), v_ = (.agg cs_0.toArray : Value) ∧ L_ = ([] : List Res) ∧ kConcept.rep R' (Concept.mk 0 i []) cs_0)) := by
  unfold i64 at hi_i
  refine fn_enter (vs := [.int .i64 i]) Tryz.func65 rfl rfl rfl ?_ hw
  refine tc_seq <| tc_region ?_
  refine tl_alloc zc37 rfl fun b1 => ?_
  refine tl_nil <| tx_then <| tc_seq <| tc_region ?_
  refine tl (v_move rfl) ?_
  have hs2 : SlAt kConcept R none ([] : List (Concept)) := SlAt.nil _ _ _
  refine tl_callo ca64 rfl (fun w hw => isagogeref01_Of_ok 0 i ([] : List (Concept)) (by unfold i64; omega) (by unfold i64; omega) hs2 hw) rfl ?_
  rintro _ R4 _ hle5 ⟨cs_z3_0, rfl, rfl, hr_z3_0⟩
  obtain ⟨A6, d7, rfl, i8, i9, hs10⟩ := kConcept_open hr_z3_0
  unfold i64 at i8 i9
  have z11 := hs10.size
  unfold big at z11
  refine tl_st 0 [.int .i64 ((Concept.mk 0 i ([] : List (Concept))).op), .int .i64 ((Concept.mk 0 i ([] : List (Concept))).n), .slice A6 (((Concept.mk 0 i ([] : List (Concept))).args).length) d7] rfl rfl ld37 rfl rfl rfl rfl rfl rfl ?_
  refine tl_nil <| tx_then <| tc_ret ?_
  refine tx_retc (cells := [.int .i64 ((Concept.mk 0 i ([] : List (Concept))).op), .int .i64 ((Concept.mk 0 i ([] : List (Concept))).n), .slice A6 (((Concept.mk 0 i ([] : List (Concept))).args).length) d7]) 0 (.inl rfl) rfl rfl ld37 rfl ?_
  have e12 : ((Concept.mk 0 i ([] : List (Concept))) : Concept) = Concept.mk 0 i [] := by rfl
  intro w hw
  exact ⟨_, _, [], rfl, hle5, hw.drop 1, ([.int .i64 ((Concept.mk 0 i ([] : List (Concept))).op), .int .i64 ((Concept.mk 0 i ([] : List (Concept))).n), .slice A6 (((Concept.mk 0 i ([] : List (Concept))).args).length) d7]), rfl, rfl, (Eq.mp (congrArg (fun z => kConcept.rep R4 z [.int .i64 ((Concept.mk 0 i ([] : List (Concept))).op), .int .i64 ((Concept.mk 0 i ([] : List (Concept))).n), .slice A6 (((Concept.mk 0 i ([] : List (Concept))).args).length) d7]) e12) hr_z3_0)⟩

def ltr (n : Nat) : ByteArray := ⟨#[n.toUInt8]⟩
def lettersB : Base := ⟨⟨[⟨#[65]⟩, ⟨#[66]⟩, ⟨#[67]⟩, ⟨#[68]⟩, ⟨#[69]⟩], [⟨#[114]⟩], []⟩, [⟨.mk 0 0 [], .mk 6 0 [.mk 0 1 []]⟩, ⟨.mk 0 1 [], .mk 0 2 []⟩, ⟨.mk 0 3 [], .mk 0 4 []⟩], [], [], []⟩

set_option maxRecDepth 20000 in
set_option maxHeartbeats 8000000 in
theorem isagogelaw19_letters_ok {R : RO} {G : List Res} {w : World}  (hw : Own w R (G)) :
    Calls Tryz.prog 33 [].toArray w (RetO R G (fun v_ R' L_ => ∃ (cs_0 : List Value), v_ = (.agg cs_0.toArray : Value) ∧ L_ = ([] : List Res) ∧ kBase.rep R' lettersB cs_0)) := by
  refine fn_enter (vs := []) Tryz.func33 rfl rfl rfl ?_ hw
  refine tc_seq <| tc_region ?_
  refine tl_alloc zc30 rfl fun b1 => ?_
  refine tl_nil <| tx_then <| tc_seq <| tc_region ?_
  refine tl_bslice [.string (⟨#[65]⟩), .string (⟨#[66]⟩), .string (⟨#[67]⟩), .string (⟨#[68]⟩), .string (⟨#[69]⟩)] ap22 rfl rfl rfl rfl rfl rfl rfl fun b2 => ?_
  refine tl_bslice [.string (⟨#[114]⟩)] ap22 rfl rfl rfl rfl rfl rfl rfl fun b3 => ?_
  refine tl (v_build [.slice (some ⟨b2, 0, none⟩) 5 5, .slice (some ⟨b3, 0, none⟩) 1 1, .slice none 0 0] zc24 pl24 rfl rfl) ?_
  refine tl_alloc zc24 rfl fun b4 => ?_
  refine tl_st 0 [.slice (some ⟨b2, 0, none⟩) 5 5, .slice (some ⟨b3, 0, none⟩) 1 1, .slice none 0 0] rfl rfl ld24 rfl rfl rfl rfl rfl rfl ?_
  refine tl_nil <| tx_then <| tc_seq <| tc_region ?_
  refine tl_callo ca65 rfl (fun w hw => isagogelaw19_name_ok 1 (by unfold i64; omega) hw) rfl ?_
  rintro _ R6 _ hle7 ⟨cs_z5_0, rfl, rfl, hr_z5_0⟩
  obtain ⟨A8, d9, rfl, i10, i11, hs12⟩ := kConcept_open hr_z5_0
  unfold i64 at i10 i11
  have z13 := hs12.size
  unfold big at z13
  refine tl_bslice [.int .i64 ((Concept.mk 0 1 []).op), .int .i64 ((Concept.mk 0 1 []).n), .slice A8 (((Concept.mk 0 1 []).args).length) d9] ap35 rfl rfl rfl rfl rfl rfl rfl fun b14 => ?_
  refine tl_retire (k := kConcept) (l := ([(Concept.mk 0 1 [])] : List (Concept))) 0 rfl (⟨_, _, rfl, hr_z5_0, rfl⟩) (by show 1 ≤ big; unfold big; omega) fun R16 hle17 hs15 => ?_
  have hle18 := hle7.trans hle17
  have z19 := hs15.size
  unfold big at z19
  refine tl_callo ca64 rfl (fun w hw => isagogeref01_Of_ok 6 0 ([(Concept.mk 0 1 [])] : List (Concept)) (by unfold i64; omega) (by unfold i64; omega) hs15 hw) rfl ?_
  rintro _ R21 _ hle22 ⟨cs_z20_0, rfl, rfl, hr_z20_0⟩
  have hle23 := hle18.trans hle22
  have hle24 := hle17.trans hle22
  obtain ⟨A25, d26, rfl, i27, i28, hs29⟩ := kConcept_open hr_z20_0
  unfold i64 at i27 i28
  have z30 := hs29.size
  unfold big at z30
  refine tl_alloc zc37 rfl fun b31 => ?_
  refine tl_st 0 [.int .i64 ((Concept.mk 6 0 ([(Concept.mk 0 1 [])] : List (Concept))).op), .int .i64 ((Concept.mk 6 0 ([(Concept.mk 0 1 [])] : List (Concept))).n), .slice A25 (((Concept.mk 6 0 ([(Concept.mk 0 1 [])] : List (Concept))).args).length) d26] rfl rfl ld37 rfl rfl rfl rfl rfl rfl ?_
  refine tl_nil <| tx_then <| tc_seq ?_
  refine tc_draw R21 (.blk b31 [.int .i64 ((Concept.mk 6 0 ([(Concept.mk 0 1 [])] : List (Concept))).op), .int .i64 ((Concept.mk 6 0 ([(Concept.mk 0 1 [])] : List (Concept))).n), .slice A25 (((Concept.mk 6 0 ([(Concept.mk 0 1 [])] : List (Concept))).args).length) d26] 37 :: .blk b4 [.slice (some ⟨b2, 0, none⟩) 5 5, .slice (some ⟨b3, 0, none⟩) 1 1, .slice none 0 0] 24 :: .blk b3 [.string (⟨#[114]⟩)] 9 :: .blk b2 [.string (⟨#[65]⟩), .string (⟨#[66]⟩), .string (⟨#[67]⟩), .string (⟨#[68]⟩), .string (⟨#[69]⟩)] 9 :: .blk b1 [.slice none 0 0, .slice none 0 0, .slice none 0 0, .slice none 0 0, .slice none 0 0, .slice none 0 0, .slice none 0 0] 30 :: G) 12 mixed ?_
  refine td 0 rfl (by kernel_rfl) (v_ld_agg 1 [.slice (some ⟨b2, 0, none⟩) 5 5, .slice (some ⟨b3, 0, none⟩) 1 1, .slice none 0 0] rfl ld24 rfl rfl) (fun w hw => hw) ?_
  refine td 2 rfl (by kernel_rfl) (v_ld_agg 0 [.int .i64 ((Concept.mk 6 0 ([(Concept.mk 0 1 [])] : List (Concept))).op), .int .i64 ((Concept.mk 6 0 ([(Concept.mk 0 1 [])] : List (Concept))).n), .slice A25 (((Concept.mk 6 0 ([(Concept.mk 0 1 [])] : List (Concept))).args).length) d26] rfl ld37 rfl rfl) (fun w hw => hw) ?_
  refine td1 1 (by kernel_rfl) rfl ?_
  refine tl_callo ca65 rfl (fun w hw => isagogelaw19_name_ok 0 (by unfold i64; omega) hw) rfl ?_
  rintro _ R33 _ hle34 ⟨cs_z32_0, rfl, rfl, hr_z32_0⟩
  try replace hr_z20_0 := kConcept.mono _ _ _ _ hle34 hr_z20_0
  have hle35 := hle23.trans hle34
  have hle36 := hle24.trans hle34
  have hle37 := hle22.trans hle34
  obtain ⟨A38, d39, rfl, i40, i41, hs42⟩ := kConcept_open hr_z32_0
  unfold i64 at i40 i41
  have z43 := hs42.size
  unfold big at z43
  refine tl_nil ?_
  refine tx_td (fun w hw => (hw).weaken hle34) ?_
  refine td 3 rfl (by kernel_rfl) (v_build [.int .i64 ((Concept.mk 0 0 []).op), .int .i64 ((Concept.mk 0 0 []).n), .slice A38 (((Concept.mk 0 0 []).args).length) d39, .int .i64 ((Concept.mk 6 0 ([(Concept.mk 0 1 [])] : List (Concept))).op), .int .i64 ((Concept.mk 6 0 ([(Concept.mk 0 1 [])] : List (Concept))).n), .slice A25 (((Concept.mk 6 0 ([(Concept.mk 0 1 [])] : List (Concept))).args).length) d26] zc92 pl92 rfl rfl) (fun w hw => (hw).weaken hle34) ?_
  refine td1 4 (by kernel_rfl) rfl ?_
  refine tl_callo ca65 rfl (fun w hw => isagogelaw19_name_ok 1 (by unfold i64; omega) hw) rfl ?_
  rintro _ R45 _ hle46 ⟨cs_z44_0, rfl, rfl, hr_z44_0⟩
  try replace hr_z20_0 := kConcept.mono _ _ _ _ hle46 hr_z20_0
  try replace hr_z32_0 := kConcept.mono _ _ _ _ hle46 hr_z32_0
  have hle47 := hle35.trans hle46
  have hle48 := hle36.trans hle46
  have hle49 := hle37.trans hle46
  have hle50 := hle34.trans hle46
  obtain ⟨A51, d52, rfl, i53, i54, hs55⟩ := kConcept_open hr_z44_0
  unfold i64 at i53 i54
  have z56 := hs55.size
  unfold big at z56
  refine tl_nil ?_
  refine tx_td (fun w hw => (hw).weaken hle50) ?_
  refine td1 5 (by kernel_rfl) rfl ?_
  refine tl_callo ca65 rfl (fun w hw => isagogelaw19_name_ok 2 (by unfold i64; omega) hw) rfl ?_
  rintro _ R58 _ hle59 ⟨cs_z57_0, rfl, rfl, hr_z57_0⟩
  try replace hr_z20_0 := kConcept.mono _ _ _ _ hle59 hr_z20_0
  try replace hr_z32_0 := kConcept.mono _ _ _ _ hle59 hr_z32_0
  try replace hr_z44_0 := kConcept.mono _ _ _ _ hle59 hr_z44_0
  have hle60 := hle47.trans hle59
  have hle61 := hle48.trans hle59
  have hle62 := hle49.trans hle59
  have hle63 := hle50.trans hle59
  have hle64 := hle46.trans hle59
  obtain ⟨A65, d66, rfl, i67, i68, hs69⟩ := kConcept_open hr_z57_0
  unfold i64 at i67 i68
  have z70 := hs69.size
  unfold big at z70
  refine tl_nil ?_
  refine tx_td (fun w hw => (hw).weaken hle63) ?_
  refine td 6 rfl (by kernel_rfl) (v_build [.int .i64 ((Concept.mk 0 1 []).op), .int .i64 ((Concept.mk 0 1 []).n), .slice A51 (((Concept.mk 0 1 []).args).length) d52, .int .i64 ((Concept.mk 0 2 []).op), .int .i64 ((Concept.mk 0 2 []).n), .slice A65 (((Concept.mk 0 2 []).args).length) d66] zc92 pl92 rfl rfl) (fun w hw => (hw).weaken hle63) ?_
  refine td1 7 (by kernel_rfl) rfl ?_
  refine tl_callo ca65 rfl (fun w hw => isagogelaw19_name_ok 3 (by unfold i64; omega) hw) rfl ?_
  rintro _ R72 _ hle73 ⟨cs_z71_0, rfl, rfl, hr_z71_0⟩
  try replace hr_z20_0 := kConcept.mono _ _ _ _ hle73 hr_z20_0
  try replace hr_z32_0 := kConcept.mono _ _ _ _ hle73 hr_z32_0
  try replace hr_z44_0 := kConcept.mono _ _ _ _ hle73 hr_z44_0
  try replace hr_z57_0 := kConcept.mono _ _ _ _ hle73 hr_z57_0
  have hle74 := hle60.trans hle73
  have hle75 := hle61.trans hle73
  have hle76 := hle62.trans hle73
  have hle77 := hle63.trans hle73
  have hle78 := hle64.trans hle73
  have hle79 := hle59.trans hle73
  obtain ⟨A80, d81, rfl, i82, i83, hs84⟩ := kConcept_open hr_z71_0
  unfold i64 at i82 i83
  have z85 := hs84.size
  unfold big at z85
  refine tl_nil ?_
  refine tx_td (fun w hw => (hw).weaken hle77) ?_
  refine td1 8 (by kernel_rfl) rfl ?_
  refine tl_callo ca65 rfl (fun w hw => isagogelaw19_name_ok 4 (by unfold i64; omega) hw) rfl ?_
  rintro _ R87 _ hle88 ⟨cs_z86_0, rfl, rfl, hr_z86_0⟩
  try replace hr_z20_0 := kConcept.mono _ _ _ _ hle88 hr_z20_0
  try replace hr_z32_0 := kConcept.mono _ _ _ _ hle88 hr_z32_0
  try replace hr_z44_0 := kConcept.mono _ _ _ _ hle88 hr_z44_0
  try replace hr_z57_0 := kConcept.mono _ _ _ _ hle88 hr_z57_0
  try replace hr_z71_0 := kConcept.mono _ _ _ _ hle88 hr_z71_0
  have hle89 := hle74.trans hle88
  have hle90 := hle75.trans hle88
  have hle91 := hle76.trans hle88
  have hle92 := hle77.trans hle88
  have hle93 := hle78.trans hle88
  have hle94 := hle79.trans hle88
  have hle95 := hle73.trans hle88
  obtain ⟨A96, d97, rfl, i98, i99, hs100⟩ := kConcept_open hr_z86_0
  unfold i64 at i98 i99
  have z101 := hs100.size
  unfold big at z101
  refine tl_nil ?_
  refine tx_td (fun w hw => (hw).weaken hle92) ?_
  refine td 9 rfl (by kernel_rfl) (v_build [.int .i64 ((Concept.mk 0 3 []).op), .int .i64 ((Concept.mk 0 3 []).n), .slice A80 (((Concept.mk 0 3 []).args).length) d81, .int .i64 ((Concept.mk 0 4 []).op), .int .i64 ((Concept.mk 0 4 []).n), .slice A96 (((Concept.mk 0 4 []).args).length) d97] zc92 pl92 rfl rfl) (fun w hw => (hw).weaken hle92) ?_
  refine td1 10 (by kernel_rfl) rfl ?_
  refine tl_bslice [.int .i64 ((Concept.mk 0 0 []).op), .int .i64 ((Concept.mk 0 0 []).n), .slice A38 (((Concept.mk 0 0 []).args).length) d39, .int .i64 ((Concept.mk 6 0 ([(Concept.mk 0 1 [])] : List (Concept))).op), .int .i64 ((Concept.mk 6 0 ([(Concept.mk 0 1 [])] : List (Concept))).n), .slice A25 (((Concept.mk 6 0 ([(Concept.mk 0 1 [])] : List (Concept))).args).length) d26, .int .i64 ((Concept.mk 0 1 []).op), .int .i64 ((Concept.mk 0 1 []).n), .slice A51 (((Concept.mk 0 1 []).args).length) d52, .int .i64 ((Concept.mk 0 2 []).op), .int .i64 ((Concept.mk 0 2 []).n), .slice A65 (((Concept.mk 0 2 []).args).length) d66, .int .i64 ((Concept.mk 0 3 []).op), .int .i64 ((Concept.mk 0 3 []).n), .slice A80 (((Concept.mk 0 3 []).args).length) d81, .int .i64 ((Concept.mk 0 4 []).op), .int .i64 ((Concept.mk 0 4 []).n), .slice A96 (((Concept.mk 0 4 []).args).length) d97] ap25 rfl rfl rfl rfl rfl rfl rfl fun b102 => ?_
  refine tl_nil ?_
  refine tx_td (fun w hw => (hw.drop 1).weaken hle92) ?_
  refine td 11 rfl (by kernel_rfl) (v_build [.slice (some ⟨b2, 0, none⟩) 5 5, .slice (some ⟨b3, 0, none⟩) 1 1, .slice none 0 0, .slice (some ⟨b102, 0, none⟩) 3 3, .slice none 0 0, .slice none 0 0, .slice none 0 0] zc30 pl30 rfl rfl) (fun w hw => (hw.drop 1).weaken hle92) ?_
  refine td1 12 (by kernel_rfl) rfl ?_
  refine tl_st 5 [.slice (some ⟨b2, 0, none⟩) 5 5, .slice (some ⟨b3, 0, none⟩) 1 1, .slice none 0 0, .slice (some ⟨b102, 0, none⟩) 3 3, .slice none 0 0, .slice none 0 0, .slice none 0 0] rfl rfl ld30 rfl rfl rfl rfl rfl rfl ?_
  refine tl_nil ?_
  refine tx_tdz ?_
  refine td_done (by kernel_rfl) ?_
  refine tx_then <| tc_ret ?_
  refine tx_retireB (k := kStr) (l := ([⟨#[65]⟩, ⟨#[66]⟩, ⟨#[67]⟩, ⟨#[68]⟩, ⟨#[69]⟩] : List (ByteArray))) 4 rfl (⟨_, _, rfl, ⟨rfl, by unfold big; decide⟩, ⟨_, _, rfl, ⟨rfl, by unfold big; decide⟩, ⟨_, _, rfl, ⟨rfl, by unfold big; decide⟩, ⟨_, _, rfl, ⟨rfl, by unfold big; decide⟩, ⟨_, _, rfl, ⟨rfl, by unfold big; decide⟩, rfl⟩⟩⟩⟩⟩) (by show 5 ≤ big; unfold big; omega) fun R104 hle105 hs103 => ?_
  try replace hr_z20_0 := kConcept.mono _ _ _ _ hle105 hr_z20_0
  try replace hr_z32_0 := kConcept.mono _ _ _ _ hle105 hr_z32_0
  try replace hr_z44_0 := kConcept.mono _ _ _ _ hle105 hr_z44_0
  try replace hr_z57_0 := kConcept.mono _ _ _ _ hle105 hr_z57_0
  try replace hr_z71_0 := kConcept.mono _ _ _ _ hle105 hr_z71_0
  try replace hr_z86_0 := kConcept.mono _ _ _ _ hle105 hr_z86_0
  have hle106 := hle89.trans hle105
  have hle107 := hle90.trans hle105
  have hle108 := hle91.trans hle105
  have hle109 := hle92.trans hle105
  have hle110 := hle93.trans hle105
  have hle111 := hle94.trans hle105
  have hle112 := hle95.trans hle105
  have hle113 := hle88.trans hle105
  have z114 := hs103.size
  unfold big at z114
  refine tx_retireB (k := kStr) (l := ([⟨#[114]⟩] : List (ByteArray))) 3 rfl (⟨_, _, rfl, ⟨rfl, by unfold big; decide⟩, rfl⟩) (by show 1 ≤ big; unfold big; omega) fun R116 hle117 hs115 => ?_
  try replace hr_z20_0 := kConcept.mono _ _ _ _ hle117 hr_z20_0
  try replace hr_z32_0 := kConcept.mono _ _ _ _ hle117 hr_z32_0
  try replace hr_z44_0 := kConcept.mono _ _ _ _ hle117 hr_z44_0
  try replace hr_z57_0 := kConcept.mono _ _ _ _ hle117 hr_z57_0
  try replace hr_z71_0 := kConcept.mono _ _ _ _ hle117 hr_z71_0
  try replace hr_z86_0 := kConcept.mono _ _ _ _ hle117 hr_z86_0
  try replace hs103 := hs103.mono hle117
  have hle118 := hle106.trans hle117
  have hle119 := hle107.trans hle117
  have hle120 := hle108.trans hle117
  have hle121 := hle109.trans hle117
  have hle122 := hle110.trans hle117
  have hle123 := hle111.trans hle117
  have hle124 := hle112.trans hle117
  have hle125 := hle113.trans hle117
  have hle126 := hle105.trans hle117
  have z127 := hs115.size
  unfold big at z127
  refine tx_retireB (k := kIncl) (l := ([(Incl.mk (Concept.mk 0 0 []) (Concept.mk 6 0 ([(Concept.mk 0 1 [])] : List (Concept)))), (Incl.mk (Concept.mk 0 1 []) (Concept.mk 0 2 [])), (Incl.mk (Concept.mk 0 3 []) (Concept.mk 0 4 []))] : List (Incl))) 0 rfl (⟨_, _, rfl, ⟨[.int .i64 ((Concept.mk 0 0 []).op), .int .i64 ((Concept.mk 0 0 []).n), .slice A38 (((Concept.mk 0 0 []).args).length) d39], [.int .i64 ((Concept.mk 6 0 ([(Concept.mk 0 1 [])] : List (Concept))).op), .int .i64 ((Concept.mk 6 0 ([(Concept.mk 0 1 [])] : List (Concept))).n), .slice A25 (((Concept.mk 6 0 ([(Concept.mk 0 1 [])] : List (Concept))).args).length) d26], rfl, hr_z32_0, hr_z20_0⟩, ⟨_, _, rfl, ⟨[.int .i64 ((Concept.mk 0 1 []).op), .int .i64 ((Concept.mk 0 1 []).n), .slice A51 (((Concept.mk 0 1 []).args).length) d52], [.int .i64 ((Concept.mk 0 2 []).op), .int .i64 ((Concept.mk 0 2 []).n), .slice A65 (((Concept.mk 0 2 []).args).length) d66], rfl, hr_z44_0, hr_z57_0⟩, ⟨_, _, rfl, ⟨[.int .i64 ((Concept.mk 0 3 []).op), .int .i64 ((Concept.mk 0 3 []).n), .slice A80 (((Concept.mk 0 3 []).args).length) d81], [.int .i64 ((Concept.mk 0 4 []).op), .int .i64 ((Concept.mk 0 4 []).n), .slice A96 (((Concept.mk 0 4 []).args).length) d97], rfl, hr_z71_0, hr_z86_0⟩, rfl⟩⟩⟩) (by show 3 ≤ big; unfold big; omega) fun R129 hle130 hs128 => ?_
  try replace hs103 := hs103.mono hle130
  try replace hs115 := hs115.mono hle130
  have hle131 := hle118.trans hle130
  have hle132 := hle119.trans hle130
  have hle133 := hle120.trans hle130
  have hle134 := hle121.trans hle130
  have hle135 := hle122.trans hle130
  have hle136 := hle123.trans hle130
  have hle137 := hle124.trans hle130
  have hle138 := hle125.trans hle130
  have hle139 := hle126.trans hle130
  have hle140 := hle117.trans hle130
  have z141 := hs128.size
  unfold big at z141
  refine tx_retc (cells := [.slice (some ⟨b2, 0, none⟩) 5 5, .slice (some ⟨b3, 0, none⟩) 1 1, .slice none 0 0, .slice (some ⟨b102, 0, none⟩) 3 3, .slice none 0 0, .slice none 0 0, .slice none 0 0]) 2 (.inl rfl) rfl rfl ld30 rfl ?_
  have e142 : ((Base.mk (Names.mk ([⟨#[65]⟩, ⟨#[66]⟩, ⟨#[67]⟩, ⟨#[68]⟩, ⟨#[69]⟩] : List (ByteArray)) ([⟨#[114]⟩] : List (ByteArray)) ([] : List (ByteArray))) ([(Incl.mk (Concept.mk 0 0 []) (Concept.mk 6 0 ([(Concept.mk 0 1 [])] : List (Concept)))), (Incl.mk (Concept.mk 0 1 []) (Concept.mk 0 2 [])), (Incl.mk (Concept.mk 0 3 []) (Concept.mk 0 4 []))] : List (Incl)) ([] : List (RoleIncl)) ([] : List (Fact)) ([] : List (Link))) : Base) = lettersB := by rfl
  intro w hw
  exact ⟨_, _, [], rfl, hle131, hw.drop 3, ([.slice (some ⟨b2, 0, none⟩) 5 5, .slice (some ⟨b3, 0, none⟩) 1 1, .slice none 0 0, .slice (some ⟨b102, 0, none⟩) 3 3, .slice none 0 0, .slice none 0 0, .slice none 0 0]), rfl, rfl, (Eq.mp (congrArg (fun z => kBase.rep R129 z [.slice (some ⟨b2, 0, none⟩) 5 5, .slice (some ⟨b3, 0, none⟩) 1 1, .slice none 0 0, .slice (some ⟨b102, 0, none⟩) 3 3, .slice none 0 0, .slice none 0 0, .slice none 0 0]) e142) ⟨[.slice (some ⟨b2, 0, none⟩) 5 5, .slice (some ⟨b3, 0, none⟩) 1 1, .slice none 0 0], _, _, _, _, _, _, _, _, rfl, ⟨_, _, _, _, _, _, rfl, hs103, hs115, (SlAt.nil _ _ _)⟩, hs128, (SlAt.nil _ _ _), (SlAt.nil _ _ _), (SlAt.nil _ _ _)⟩)⟩

def lookedB (b : Base) (c : Concept) (l : List Sig) : Bool := decide ((∀ s ∈ l, s.concepts.length ≤ 100 ∧ s.roles.length ≤ 100) ∧ fewB b 400 = true ∧ nodesC c ≤ 400)

set_option maxRecDepth 20000 in
set_option maxHeartbeats 8000000 in
theorem isagogelaw19_looked_ok {R : RO} {G : List Res} {w : World} {c_b : List Value} (b : Base) {c_c : List Value} (c : Concept) {A_l : Option Addr} {d_l : Nat} (l : List (Sig)) (hr_b : kBase.rep R b c_b) (hr_c : kConcept.rep R c c_c) (hs_l : SlAt kSig R A_l l) (hw : Own w R (G)) :
    Calls Tryz.prog 7 [.agg c_b.toArray, .agg c_c.toArray, .slice A_l l.length d_l].toArray w (Gives R G (.bool (lookedB b c l))) := by
  obtain ⟨c1, A3, d4, A6, d7, A9, d10, A12, d13, rfl, hr2, hs5, hs8, hs11, hs14⟩ := id hr_b
  have z27 := hs5.size
  unfold big at z27
  have z28 := hs8.size
  unfold big at z28
  have z29 := hs11.size
  unfold big at z29
  have z30 := hs14.size
  unfold big at z30
  obtain ⟨A15, d16, A19, d20, A23, d24, rfl, hs17, hs21, hs25⟩ := id hr2
  have z18 := hs17.size
  unfold big at z18
  have z22 := hs21.size
  unfold big at z22
  have z26 := hs25.size
  unfold big at z26
  obtain ⟨A31, d32, rfl, i33, i34, hs35⟩ := kConcept_open hr_c
  unfold i64 at i33 i34
  have z36 := hs35.size
  unfold big at z36
  have hz_l := hs_l.size
  unfold big at hz_l
  refine fn_enter (vs := [.agg #[.slice A15 b.names.concepts.length d16, .slice A19 b.names.roles.length d20, .slice A23 b.names.inds.length d24, .slice A3 b.incls.length d4, .slice A6 b.roles.length d7, .slice A9 b.facts.length d10, .slice A12 b.links.length d13], .agg #[.int .i64 c.op, .int .i64 c.n, .slice A31 c.args.length d32], .slice A_l l.length d_l]) Tryz.func7 rfl rfl rfl ?_ hw
  refine tc_seq <| tc_region ?_
  refine tl_box_agg (l := [.slice A15 b.names.concepts.length d16, .slice A19 b.names.roles.length d20, .slice A23 b.names.inds.length d24, .slice A3 b.incls.length d4, .slice A6 b.roles.length d7, .slice A9 b.facts.length d10, .slice A12 b.links.length d13]) rfl rfl fun b37 => ?_
  refine tl_box_agg (l := [.int .i64 c.op, .int .i64 c.n, .slice A31 c.args.length d32]) rfl rfl fun b38 => ?_
  refine tl (v_assign rfl) ?_
  refine tl_nil <| tx_then <| tc_seq <| tc_seq <| tc_region ?_
  refine tl (v_move rfl) ?_
  refine tl (v_len rfl sl74) ?_
  refine tl (v_move rfl) ?_
  refine tl_nil <| tx_then <| tc_block ?_
  refine tc_loop ?_
  refine th_loopS (fun i : Nat => l.length - i) (fun i : Nat => [(3, .pointer (some ⟨b37, 0, none⟩)), (4, .pointer (some ⟨b38, 0, none⟩)), (9, .slice A_l l.length d_l), (10, .int .i64 (l.length : Int)), (11, .int .i64 (i : Int))]) (fun i : Nat => (.blk b38 [.int .i64 c.op, .int .i64 c.n, .slice A31 c.args.length d32] 37 :: .blk b37 [.slice A15 b.names.concepts.length d16, .slice A19 b.names.roles.length d20, .slice A23 b.names.inds.length d24, .slice A3 b.incls.length d4, .slice A6 b.roles.length d7, .slice A9 b.facts.length d10, .slice A12 b.links.length d13] 30 :: G)) (fun (i : Nat) => i ≤ l.length ∧ ∀ s ∈ l.take i, s.concepts.length ≤ 100 ∧ s.roles.length ≤ 100) (0) ⟨rfl, rfl, rfl, rfl, rfl, trivial⟩ (by exact ⟨by omega, by simp⟩) (fun w hw => hw) ?_
  rintro i hI39 ih40
  show TC Tryz.prog _ _ _ [] [(3, .pointer (some ⟨b37, 0, none⟩)), (4, .pointer (some ⟨b38, 0, none⟩)), (9, .slice A_l l.length d_l), (10, .int .i64 (l.length : Int)), (11, .int .i64 (i : Int))] R (.blk b38 [.int .i64 c.op, .int .i64 c.n, .slice A31 c.args.length d32] 37 :: .blk b37 [.slice A15 b.names.concepts.length d16, .slice A19 b.names.roles.length d20, .slice A23 b.names.inds.length d24, .slice A3 b.incls.length d4, .slice A6 b.roles.length d7, .slice A9 b.facts.length d10, .slice A12 b.links.length d13] 30 :: G)
  obtain ⟨hi1, hi2⟩ := hI39
  refine tc_seq <| tc_region ?_
  refine tl (v_ib rfl rfl rfl) ?_
  refine tl_nil <| tx_then <| tc_seq ?_
  refine tc_split 12 rfl (fun h43 => ?_) (fun h43 => ?_)
  ·
   refine tc_yes rfl ?_
   refine tc_skip <| tx_then <| tc_seq <| tc_block <| tc_seq <| tc_region ?_
   have hb49 : i < l.length := by omega
   obtain ⟨x44, hx45⟩ : ∃ x, l[i]? = some x := ⟨_, List.getElem?_eq_getElem hb49⟩
   obtain ⟨c46, hr47, ha48⟩ := hs_l.get _ x44 hx45
   obtain ⟨A50, d51, A54, d55, rfl, hs52, hs56⟩ := id hr47
   have z53 := hs52.size
   unfold big at z53
   have z57 := hs56.size
   unfold big at z57
   refine tl (v_idxS (i := i) hs_l rfl rfl rfl sl74 hb49) ?_
   refine tl (v_ldA_agg 0 [.slice A50 x44.concepts.length d51, .slice A54 x44.roles.length d55] ha48 rfl ld33 rfl rfl) ?_
   refine tl_alloc zc33 rfl fun b58 => ?_
   refine tl_st 0 [.slice A50 x44.concepts.length d51, .slice A54 x44.roles.length d55] rfl rfl ld33 rfl rfl rfl rfl rfl rfl ?_
   refine tl_nil <| tx_then ?_
   refine tc_cut [(3, .pointer (some ⟨b37, 0, none⟩)), (4, .pointer (some ⟨b38, 0, none⟩)), (9, .slice A_l l.length d_l), (10, .int .i64 (l.length : Int)), (11, .int .i64 (i : Int)), (12, .bool true), (8, .pointer (some ⟨b58, 0, none⟩)), (24, .bool (decide ((100 < (x44.concepts.length : Int)) ∨ (100 < (x44.roles.length : Int)))))] (.blk b58 [.slice A50 x44.concepts.length d51, .slice A54 x44.roles.length d55] 33 :: .blk b38 [.int .i64 c.op, .int .i64 c.n, .slice A31 c.args.length d32] 37 :: .blk b37 [.slice A15 b.names.concepts.length d16, .slice A19 b.names.roles.length d20, .slice A23 b.names.inds.length d24, .slice A3 b.incls.length d4, .slice A6 b.roles.length d7, .slice A9 b.facts.length d10, .slice A12 b.links.length d13] 30 :: G) (fun _ => True) (fun K hK59 hE60 => ?_) ?_
   ·
    refine tc_region ?_
    refine tl (v_fieldAddr 0 rfl fo33_0 rfl) ?_
    refine tl (v_ld 0 rfl ld31 rfl rfl) ?_
    refine tl (v_len rfl sl31) ?_
    refine tl (v_ib rfl rfl rfl) ?_
    refine tl (v_move rfl) ?_
    refine tl_split 19 rfl (fun h61 => ?_) (fun h61 => ?_)
    ·
     refine tl_gskip 19 rfl rfl rfl ?_
     refine tl_gskip 19 rfl rfl rfl ?_
     refine tl_gskip 19 rfl rfl rfl ?_
     refine tl_gskip 19 rfl rfl rfl ?_
     refine tl (v_pick_t rfl rfl) ?_
     refine tl_nil ?_
     exact tx_cut hK59 (.refl _) (trivial) ⟨rfl, rfl, rfl, rfl, rfl, rfl, rfl, show some (Value.bool true) = some (Value.bool (decide ((100 < (x44.concepts.length : Int)) ∨ (100 < (x44.roles.length : Int))))) by first | (simp [h61]; done) | grind | (simp [h61] <;> omega), trivial⟩ (fun w hw => hw)
    ·
     refine tl_grun 19 rfl rfl ?_
     refine tl (v_fieldAddr 1 rfl fo33_1 rfl) ?_
     refine tl_grun 19 rfl rfl ?_
     refine tl (v_ld 0 rfl ld31 rfl rfl) ?_
     refine tl_grun 19 rfl rfl ?_
     refine tl (v_len rfl sl31) ?_
     refine tl_grun 19 rfl rfl ?_
     refine tl (v_ib rfl rfl rfl) ?_
     refine tl (v_pick_f rfl rfl) ?_
     refine tl_nil ?_
     exact tx_cut hK59 (.refl _) (trivial) ⟨rfl, rfl, rfl, rfl, rfl, rfl, rfl, show some (Value.bool (decide (100 < (x44.roles.length : Int)))) = some (Value.bool (decide ((100 < (x44.concepts.length : Int)) ∨ (100 < (x44.roles.length : Int))))) by first | (simp [h61]; done) | grind | (simp [h61] <;> omega), trivial⟩ (fun w hw => hw)
   ·
    refine fun R63 hle64 hj62 => tc_weaken hle64 ?_
    refine tc_split 24 rfl (fun h65 => ?_) (fun h65 => ?_)
    ·
     refine tc_yes rfl ?_
     refine tc_seq <| tc_region ?_
     refine tl (v_assign rfl) ?_
     refine tl_nil <| tx_then <| tc_ret <| tx_blk_ret <| tx_then_ret <| tx_then_ret <| tx_blk_ret <| tx_then_ret ?_
     refine tx_ret1 (.inl rfl) rfl rfl ?_
     have e66 : (false : Bool) = lookedB b c l := by (rw [eq_comm]; unfold lookedB; rw [decide_eq_false_iff_not]; rintro ⟨h_, -⟩; have h2_ := h_ _ (List.mem_of_getElem? hx45); omega)
     exact fun w hw => ⟨congrArg Ending.returned (congrArg (fun x0 => Value.bool x0) e66), hw.drop 3⟩
    ·
     refine tc_no rfl ?_
     refine tc_skip <| tx_blk <| tx_then <| tc_region ?_
     refine tl (v_add rfl rfl (by omega) (by omega)) ?_
     refine tl (v_move rfl) ?_
     refine tl_nil ?_
     refine tx_round ?_
     exact fun a w ha hw => ih40.out (i + 1) (by exact ⟨by omega, all_take hi2 hx45 (by omega)⟩) (by (try dsimp only); omega) a w (ha.sub (lkAll_lk ⟨rfl, rfl, rfl, rfl, rfl, trivial⟩)) (hw.drop 1)
  ·
   refine tc_no rfl ?_
   refine tc_exit <| tx_then_exit <| tx_then_exit <| tx_blk_exit <| tx_then ?_
   refine tc_cut [(9, .slice A_l l.length d_l), (10, .int .i64 (l.length : Int)), (11, .int .i64 (i : Int)), (12, .bool false), (6, .bool (decide (((fewB b 400) = true) ∧ ((nodesC c : Int) ≤ 400))))] (.blk b38 [.int .i64 c.op, .int .i64 c.n, .slice A31 c.args.length d32] 37 :: .blk b37 [.slice A15 b.names.concepts.length d16, .slice A19 b.names.roles.length d20, .slice A23 b.names.inds.length d24, .slice A3 b.incls.length d4, .slice A6 b.roles.length d7, .slice A9 b.facts.length d10, .slice A12 b.links.length d13] 30 :: G) (fun _ => True) (fun K hK67 hE68 => ?_) ?_
   ·
    refine tc_region ?_
    refine tl (v_ld_agg 1 [.slice A15 b.names.concepts.length d16, .slice A19 b.names.roles.length d20, .slice A23 b.names.inds.length d24, .slice A3 b.incls.length d4, .slice A6 b.roles.length d7, .slice A9 b.facts.length d10, .slice A12 b.links.length d13] rfl ld30 rfl rfl) ?_
    refine tl_callv ca31 rfl (fun w hw => isagogeref02_Few_ok b 400 hr_b (by unfold i64; omega) (by first | assumption | omega) hw) rfl ?_
    refine tl (v_move rfl) ?_
    refine tl_splitb 28 rfl (fun h69 => ?_) (fun h69 => ?_)
    ·
     refine tl_grun 28 rfl rfl ?_
     refine tl (v_ld_agg 0 [.int .i64 c.op, .int .i64 c.n, .slice A31 c.args.length d32] rfl ld37 rfl rfl) ?_
     refine tl_grun 28 rfl rfl ?_
     refine tl_callv ca32 rfl (fun w hw => isagogeref01_Fits_ok c 400 hr_c (by unfold i64; omega) (by first | assumption | omega) hw) rfl ?_
     refine tl (v_pick_t rfl rfl) ?_
     refine tl (v_assign rfl) ?_
     refine tl_nil ?_
     exact tx_cut hK67 (.refl _) (trivial) ⟨rfl, rfl, rfl, rfl, show some (Value.bool (decide ((nodesC c : Int) ≤ 400))) = some (Value.bool (decide (((fewB b 400) = true) ∧ ((nodesC c : Int) ≤ 400)))) by first | (simp [h69]; done) | grind | (simp [h69] <;> omega), trivial⟩ (fun w hw => hw)
    ·
     refine tl_gskip 28 rfl rfl rfl ?_
     refine tl_gskip 28 rfl rfl rfl ?_
     refine tl (v_pick_f rfl rfl) ?_
     refine tl (v_assign rfl) ?_
     refine tl_nil ?_
     exact tx_cut hK67 (.refl _) (trivial) ⟨rfl, rfl, rfl, rfl, show some (Value.bool false) = some (Value.bool (decide (((fewB b 400) = true) ∧ ((nodesC c : Int) ≤ 400)))) by first | (simp [h69]; done) | grind | (simp [h69] <;> omega), trivial⟩ (fun w hw => hw)
   ·
    refine fun R71 hle72 hj70 => tc_weaken hle72 ?_
    refine tc_ret ?_
    refine tx_ret1 (.inl rfl) rfl rfl ?_
    have e73 : (decide (((fewB b 400) = true) ∧ ((nodesC c : Int) ≤ 400)) : Bool) = lookedB b c l := by (rw [take_all (l := l) (by assumption) (by assumption)] at hi2; rw [Bool.eq_iff_iff]; unfold lookedB; rw [decide_eq_true_eq]; grind)
    exact fun w hw => ⟨congrArg Ending.returned (congrArg (fun x0 => Value.bool x0) e73), hw.drop 2⟩

end Go.Proofs.YtcbcdlajnmkioaaGreatDoor
