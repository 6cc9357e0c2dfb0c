/- A part of the proof of the statement ModuleGrows of isagogelaw19: functions walked, and plain laws on what they answer. -/
import Derived.Test.YtcbcdlajnmkioaaGreatDoorZ7
namespace Go.Proofs.YtcbcdlajnmkioaaGreatDoor
open Go Go.Proofs
set_option linter.unusedSimpArgs false
set_option linter.unusedVariables false
theorem ca19 : Callable Tryz.prog 19 := ⟨by kernel_rfl⟩
theorem ca22 : Callable Tryz.prog 22 := ⟨by kernel_rfl⟩
theorem ca33 : Callable Tryz.prog 33 := ⟨by kernel_rfl⟩
theorem ca9 : Callable Tryz.prog 9 := ⟨by kernel_rfl⟩

def sA : Sig := ⟨[0], []⟩
def topB : Base := ⟨⟨[⟨#[116, 111, 112]⟩], [], []⟩, [], [], [], []⟩
theorem letters_ok : baseB lettersB = true := by decide +kernel
theorem topB_no : ¬ baseB topB = true := by decide +kernel
theorem aw4 : namesM (Base.mk (Names.mk [⟨#[116, 111, 112]⟩] [] []) [] [] [] []) [] = (⟨[], []⟩, 20) := namesM_base topB_no
theorem aw3 : localP lettersB 2 (Sig.mk [0] []) 0 = (true, 0) := by
  rw [localP_ok letters_ok (by decide +kernel)]
  exact Prod.ext (by decide +kernel) rfl
theorem lt_up : allL lettersB = [0, 1, 2] := by decide +kernel
theorem aw_bot : modL lettersB [0, 1, 2] sA false = [0, 1] := by
  have h0 : modP lettersB [0, 1, 2] sA false 0 := modP_step (o := []) (t := sA) (by simp) (by simp) (sig_le_refl _) (by decide +kernel)
  have h1 : modP lettersB [0, 1, 2] sA false 1 := modP_step (o := [0]) (t := namesA lettersB [0] sA) (by simpa using h0) (by simp) (sig_le_refl _) (by decide +kernel)
  refine (modL_eq (by decide +kernel) (by decide +kernel) ?_ (by unfold ClosedM; decide +kernel)).symm
  intro x hx
  simp only [List.mem_cons, List.not_mem_nil, or_false] at hx
  rcases hx with rfl | rfl
  · exact ⟨by simp, h0⟩
  · exact ⟨by simp, h1⟩
theorem aw_top : modL lettersB [0, 1] sA true = [] := (modL_eq (by decide +kernel) List.Pairwise.nil (by simp) (by unfold ClosedM; decide +kernel)).symm
theorem aw_nil (s : Sig) (top : Bool) : modL lettersB [] s top = [] := by classical rfl
theorem aw1 : moduleP lettersB (Sig.mk [0] []) 0 = ([0, 1], 0) := by
  show moduleP lettersB sA 0 = _
  rw [moduleP_ok letters_ok (by decide +kernel)]
  unfold moduleL
  rw [if_pos (by omega), lt_up, ← aw_bot]; rfl
theorem aw2 : moduleP lettersB (Sig.mk [0] []) 2 = ([], 0) := by
  show moduleP lettersB sA 2 = _
  rw [moduleP_ok letters_ok (by decide +kernel)]
  unfold moduleL
  rw [if_neg (by omega), lt_up, ← star_other (by omega) (by rw [aw_bot]; decide), aw_bot, ← star_other (by omega) (by rw [show (!false) = true from rfl, aw_top]; decide), show (!false) = true from rfl, aw_top, ← star_same (by omega) (aw_nil _ _), aw_nil, ← star_same (by omega) (aw_nil _ _), aw_nil, star_done (by omega)]

set_option maxRecDepth 20000 in
set_option maxHeartbeats 8000000 in
theorem isagogelaw19_awake_ok {R : RO} {G : List Res} {w : World} (hG : Glob R) (hw : Own w R (G)) :
    Calls Tryz.prog 8 [].toArray w (Gives R G (.bool true)) := by
  have aw1_ := aw1
  have aw2_ := aw2
  have aw3_ := aw3
  have aw4_ := aw4
  refine fn_enter (vs := []) Tryz.func8 rfl rfl rfl ?_ hw
  refine tc_seq <| tc_region ?_
  refine tl (v_assign rfl) ?_
  refine tl_nil <| tx_then <| tc_seq <| tc_region ?_
  refine tl_bslice [.int .i64 0] ap31 rfl rfl rfl rfl rfl rfl rfl fun b1 => ?_
  refine tl_retire (k := kInt) (l := [0]) 0 rfl (⟨_, _, rfl, ⟨rfl, by unfold i64; omega⟩, rfl⟩) (by show 1 ≤ big; unfold big; omega) fun R2 hle3 hs4 => ?_
  try replace hG := hG.mono hle3
  have z5 := hs4.size
  unfold big at z5
  refine tl (v_build [.slice (some ⟨b1, 0, none⟩) 1 1, .slice none 0 0] zc33 pl33 rfl rfl) ?_
  refine tl_alloc zc33 rfl fun b6 => ?_
  refine tl_st 0 [.slice (some ⟨b1, 0, none⟩) 1 1, .slice none 0 0] rfl rfl ld33 rfl rfl rfl rfl rfl rfl ?_
  refine tl_nil <| tx_then <| tc_seq ?_
  refine tc_draw R2 (.blk b6 [.slice (some ⟨b1, 0, none⟩) 1 1, .slice none 0 0] 33 :: G) 8 mixed ?_
  refine td 1 rfl (by kernel_rfl) (v_ld_agg 0 [.slice (some ⟨b1, 0, none⟩) 1 1, .slice none 0 0] rfl ld33 rfl rfl) (fun w hw => hw) ?_
  refine td1 0 (by kernel_rfl) rfl ?_
  refine tl_callo ca33 rfl (fun w hw => isagogelaw19_letters_ok  hw) rfl ?_
  rintro _ R8 _ hle9 ⟨cs_z7_0, rfl, rfl, hr_z7_0⟩
  try replace hG := hG.mono hle9
  try replace hs4 := hs4.mono hle9
  have hle10 := hle3.trans hle9
  obtain ⟨c11, A13, d14, A16, d17, A19, d20, A22, d23, rfl, hr12, hs15, hs18, hs21, hs24⟩ := id hr_z7_0
  have z37 := hs15.size
  unfold big at z37
  have z38 := hs18.size
  unfold big at z38
  have z39 := hs21.size
  unfold big at z39
  have z40 := hs24.size
  unfold big at z40
  obtain ⟨A25, d26, A29, d30, A33, d34, rfl, hs27, hs31, hs35⟩ := id hr12
  have z28 := hs27.size
  unfold big at z28
  have z32 := hs31.size
  unfold big at z32
  have z36 := hs35.size
  unfold big at z36
  refine tl_nil ?_
  refine tx_td (fun w hw => (hw).weaken hle9) ?_
  refine td1 2 (by kernel_rfl) rfl ?_
  refine tl_callo ca9 rfl (fun w hw => module_Module_ok lettersB (Sig.mk ([0]) ([] : List (Int))) 0 hr_z7_0 ⟨_, _, _, _, rfl, hs4, (SlAt.nil _ _ _)⟩ (by unfold i64; omega) (by first | assumption | decide) (by first | assumption | decide) hw) rfl ?_
  rintro _ R42 _ hle43 ⟨A_z41_0, d_z41_0, rfl, rfl, hs_z41_0⟩
  try replace hG := hG.mono hle43
  try replace hs4 := hs4.mono hle43
  have hle44 := hle10.trans hle43
  have hle45 := hle9.trans hle43
  have z46 := hs_z41_0.size
  unfold big at z46
  refine tl_nil ?_
  refine tx_td (fun w hw => (hw).weaken hle45) ?_
  refine td 3 rfl (by kernel_rfl) (v_move rfl) (fun w hw => (hw).weaken hle45) ?_
  refine td 4 rfl (by kernel_rfl) (v_extract rfl rfl) (fun w hw => (hw).weaken hle45) ?_
  refine td 5 rfl (by kernel_rfl) (v_extract rfl rfl) (fun w hw => (hw).weaken hle45) ?_
  refine td 6 rfl (by kernel_rfl) (v_assign rfl) (fun w hw => (hw).weaken hle45) ?_
  refine td 7 rfl (by kernel_rfl) (v_assign rfl) (fun w hw => (hw).weaken hle45) ?_
  refine td_done (by kernel_rfl) ?_
  refine tx_then <| tc_seq ?_
  refine tc_draw R42 (.blk b6 [.slice (some ⟨b1, 0, none⟩) 1 1, .slice none 0 0] 33 :: G) 8 mixed ?_
  refine td 1 rfl (by kernel_rfl) (v_ld_agg 0 [.slice (some ⟨b1, 0, none⟩) 1 1, .slice none 0 0] rfl ld33 rfl rfl) (fun w hw => hw) ?_
  refine td1 0 (by kernel_rfl) rfl ?_
  refine tl_callo ca33 rfl (fun w hw => isagogelaw19_letters_ok  hw) rfl ?_
  rintro _ R48 _ hle49 ⟨cs_z47_0, rfl, rfl, hr_z47_0⟩
  try replace hG := hG.mono hle49
  try replace hs4 := hs4.mono hle49
  try replace hs_z41_0 := hs_z41_0.mono hle49
  have hle50 := hle44.trans hle49
  have hle51 := hle45.trans hle49
  have hle52 := hle43.trans hle49
  obtain ⟨c53, A55, d56, A58, d59, A61, d62, A64, d65, rfl, hr54, hs57, hs60, hs63, hs66⟩ := id hr_z47_0
  have z79 := hs57.size
  unfold big at z79
  have z80 := hs60.size
  unfold big at z80
  have z81 := hs63.size
  unfold big at z81
  have z82 := hs66.size
  unfold big at z82
  obtain ⟨A67, d68, A71, d72, A75, d76, rfl, hs69, hs73, hs77⟩ := id hr54
  have z70 := hs69.size
  unfold big at z70
  have z74 := hs73.size
  unfold big at z74
  have z78 := hs77.size
  unfold big at z78
  refine tl_nil ?_
  refine tx_td (fun w hw => (hw).weaken hle49) ?_
  refine td1 2 (by kernel_rfl) rfl ?_
  refine tl_callo ca9 rfl (fun w hw => module_Module_ok lettersB (Sig.mk ([0]) ([] : List (Int))) 2 hr_z47_0 ⟨_, _, _, _, rfl, hs4, (SlAt.nil _ _ _)⟩ (by unfold i64; omega) (by first | assumption | decide) (by first | assumption | decide) hw) rfl ?_
  rintro _ R84 _ hle85 ⟨A_z83_0, d_z83_0, rfl, rfl, hs_z83_0⟩
  try replace hG := hG.mono hle85
  try replace hs4 := hs4.mono hle85
  try replace hs_z41_0 := hs_z41_0.mono hle85
  have hle86 := hle50.trans hle85
  have hle87 := hle51.trans hle85
  have hle88 := hle52.trans hle85
  have hle89 := hle49.trans hle85
  have z90 := hs_z83_0.size
  unfold big at z90
  refine tl_nil ?_
  refine tx_td (fun w hw => (hw).weaken hle89) ?_
  refine td 3 rfl (by kernel_rfl) (v_move rfl) (fun w hw => (hw).weaken hle89) ?_
  refine td 4 rfl (by kernel_rfl) (v_extract rfl rfl) (fun w hw => (hw).weaken hle89) ?_
  refine td 5 rfl (by kernel_rfl) (v_extract rfl rfl) (fun w hw => (hw).weaken hle89) ?_
  refine td 6 rfl (by kernel_rfl) (v_assign rfl) (fun w hw => (hw).weaken hle89) ?_
  refine td 7 rfl (by kernel_rfl) (v_assign rfl) (fun w hw => (hw).weaken hle89) ?_
  refine td_done (by kernel_rfl) ?_
  refine tx_then <| tc_seq ?_
  refine tc_draw R84 (.blk b6 [.slice (some ⟨b1, 0, none⟩) 1 1, .slice none 0 0] 33 :: G) 8 mixed ?_
  refine td 1 rfl (by kernel_rfl) (v_ld_agg 0 [.slice (some ⟨b1, 0, none⟩) 1 1, .slice none 0 0] rfl ld33 rfl rfl) (fun w hw => hw) ?_
  refine td1 0 (by kernel_rfl) rfl ?_
  refine tl_callo ca33 rfl (fun w hw => isagogelaw19_letters_ok  hw) rfl ?_
  rintro _ R92 _ hle93 ⟨cs_z91_0, rfl, rfl, hr_z91_0⟩
  try replace hG := hG.mono hle93
  try replace hs4 := hs4.mono hle93
  try replace hs_z41_0 := hs_z41_0.mono hle93
  have hle94 := hle86.trans hle93
  have hle95 := hle87.trans hle93
  have hle96 := hle88.trans hle93
  have hle97 := hle89.trans hle93
  have hle98 := hle85.trans hle93
  obtain ⟨c99, A101, d102, A104, d105, A107, d108, A110, d111, rfl, hr100, hs103, hs106, hs109, hs112⟩ := id hr_z91_0
  have z125 := hs103.size
  unfold big at z125
  have z126 := hs106.size
  unfold big at z126
  have z127 := hs109.size
  unfold big at z127
  have z128 := hs112.size
  unfold big at z128
  obtain ⟨A113, d114, A117, d118, A121, d122, rfl, hs115, hs119, hs123⟩ := id hr100
  have z116 := hs115.size
  unfold big at z116
  have z120 := hs119.size
  unfold big at z120
  have z124 := hs123.size
  unfold big at z124
  refine tl_nil ?_
  refine tx_td (fun w hw => (hw).weaken hle93) ?_
  refine td1 2 (by kernel_rfl) rfl ?_
  refine tl_callv ca19 rfl (fun w hw => module_Local_ok lettersB 2 (Sig.mk ([0]) ([] : List (Int))) 0 hr_z91_0 (by unfold i64; omega) ⟨_, _, _, _, rfl, hs4, (SlAt.nil _ _ _)⟩ (by unfold i64; omega) (by first | assumption | decide) (by first | assumption | decide) hw) rfl ?_
  refine tl_nil ?_
  refine tx_td (fun w hw => (hw).weaken hle93) ?_
  refine td 3 rfl (by kernel_rfl) (v_move rfl) (fun w hw => (hw).weaken hle93) ?_
  refine td 4 rfl (by kernel_rfl) (v_extract rfl rfl) (fun w hw => (hw).weaken hle93) ?_
  refine td 5 rfl (by kernel_rfl) (v_extract rfl rfl) (fun w hw => (hw).weaken hle93) ?_
  refine td 6 rfl (by kernel_rfl) (v_assign rfl) (fun w hw => (hw).weaken hle93) ?_
  refine td 7 rfl (by kernel_rfl) (v_assign rfl) (fun w hw => (hw).weaken hle93) ?_
  refine td_done (by kernel_rfl) ?_
  refine tx_then <| tc_seq <| tc_region ?_
  refine tl_bslice [.string (⟨#[116, 111, 112]⟩)] ap22 rfl rfl rfl rfl rfl rfl rfl fun b129 => ?_
  refine tl (v_build [.slice (some ⟨b129, 0, none⟩) 1 1, .slice none 0 0, .slice none 0 0] zc24 pl24 rfl rfl) ?_
  refine tl (v_build [.slice (some ⟨b129, 0, none⟩) 1 1, .slice none 0 0, .slice none 0 0, .slice none 0 0, .slice none 0 0, .slice none 0 0, .slice none 0 0] zc30 pl30 rfl rfl) ?_
  refine tl_retire (k := kStr) (l := ([⟨#[116, 111, 112]⟩] : List (ByteArray))) 0 rfl (⟨_, _, rfl, ⟨rfl, by unfold big; decide⟩, rfl⟩) (by show 1 ≤ big; unfold big; omega) fun R131 hle132 hs130 => ?_
  try replace hG := hG.mono hle132
  try replace hs_z41_0 := hs_z41_0.mono hle132
  have hle133 := hle94.trans hle132
  have hle134 := hle95.trans hle132
  have hle135 := hle96.trans hle132
  have hle136 := hle97.trans hle132
  have hle137 := hle98.trans hle132
  have hle138 := hle93.trans hle132
  have z139 := hs130.size
  unfold big at z139
  have hs140 : SlAt kInt R131 none ([] : List (Int)) := SlAt.nil _ _ _
  refine tl_callo ca22 rfl (fun w hw => module_Names_ok (Base.mk (Names.mk ([⟨#[116, 111, 112]⟩] : List (ByteArray)) ([] : List (ByteArray)) ([] : List (ByteArray))) ([] : List (Incl)) ([] : List (RoleIncl)) ([] : List (Fact)) ([] : List (Link))) ([] : List (Int)) ⟨[.slice (some ⟨b129, 0, none⟩) 1 1, .slice none 0 0, .slice none 0 0], _, _, _, _, _, _, _, _, rfl, ⟨_, _, _, _, _, _, rfl, hs130, (SlAt.nil _ _ _), (SlAt.nil _ _ _)⟩, (SlAt.nil _ _ _), (SlAt.nil _ _ _), (SlAt.nil _ _ _), (SlAt.nil _ _ _)⟩ hs140 (by first | assumption | omega) hw) rfl ?_
  rintro _ R142 _ hle143 ⟨cs_z141_0, rfl, rfl, hr_z141_0⟩
  try replace hG := hG.mono hle143
  try replace hs_z41_0 := hs_z41_0.mono hle143
  have hle144 := hle133.trans hle143
  have hle145 := hle134.trans hle143
  have hle146 := hle135.trans hle143
  have hle147 := hle136.trans hle143
  have hle148 := hle137.trans hle143
  have hle149 := hle138.trans hle143
  have hle150 := hle132.trans hle143
  obtain ⟨A151, d152, A155, d156, rfl, hs153, hs157⟩ := id hr_z141_0
  have z154 := hs153.size
  unfold big at z154
  have z158 := hs157.size
  unfold big at z158
  refine tl (v_move rfl) ?_
  refine tl (v_extract rfl rfl) ?_
  refine tl (v_extract rfl rfl) ?_
  refine tl_alloc zc33 rfl fun b159 => ?_
  refine tl_st 0 [.slice A151 ((((namesM (Base.mk (Names.mk ([⟨#[116, 111, 112]⟩] : List (ByteArray)) ([] : List (ByteArray)) ([] : List (ByteArray))) ([] : List (Incl)) ([] : List (RoleIncl)) ([] : List (Fact)) ([] : List (Link))) ([] : List (Int))).1).concepts).length) d152, .slice A155 ((((namesM (Base.mk (Names.mk ([⟨#[116, 111, 112]⟩] : List (ByteArray)) ([] : List (ByteArray)) ([] : List (ByteArray))) ([] : List (Incl)) ([] : List (RoleIncl)) ([] : List (Fact)) ([] : List (Link))) ([] : List (Int))).1).roles).length) d156] rfl rfl ld33 rfl rfl rfl rfl rfl rfl ?_
  refine tl (v_assign rfl) ?_
  refine tl_nil <| tx_then <| tc_seq <| tc_region ?_
  refine tl (v_move rfl) ?_
  refine tl (v_ib rfl rfl rfl) ?_
  refine tl (v_move rfl) ?_
  refine tl_split 39 rfl (fun h160 => ?_) (fun h160 => ?_)
  ·
   refine tl_grun 39 rfl rfl ?_
   refine tl (v_move rfl) ?_
   refine tl_grun 39 rfl rfl ?_
   refine tl_bslice [.int .i64 0, .int .i64 1] ap31 rfl rfl rfl rfl rfl rfl rfl fun b161 => ?_
   refine tl_grun 39 rfl rfl ?_
   refine tl_retire (k := kInt) (l := ([0, 1] : List (Int))) 0 rfl (⟨_, _, rfl, ⟨rfl, by unfold i64; omega⟩, ⟨_, _, rfl, ⟨rfl, by unfold i64; omega⟩, rfl⟩⟩) (by show 2 ≤ big; unfold big; omega) fun R163 hle164 hs162 => ?_
   try replace hG := hG.mono hle164
   try replace hs_z41_0 := hs_z41_0.mono hle164
   have hle165 := hle144.trans hle164
   have hle166 := hle145.trans hle164
   have hle167 := hle146.trans hle164
   have hle168 := hle147.trans hle164
   have hle169 := hle148.trans hle164
   have hle170 := hle149.trans hle164
   have hle171 := hle150.trans hle164
   have hle172 := hle143.trans hle164
   have z173 := hs162.size
   unfold big at z173
   refine tl_callv ca12 rfl (fun w hw => isagogeref01_SameInts_ok ((moduleP lettersB (Sig.mk ([0]) ([] : List (Int))) 0).1) ([0, 1] : List (Int)) hs_z41_0 hs162 hw) rfl ?_
   refine tl (v_pick_t rfl rfl) ?_
   refine tl (v_move rfl) ?_
   refine tl_split 44 rfl (fun h174 => ?_) (fun h174 => ?_)
   ·
    refine tl_grun 44 rfl rfl ?_
    refine tl (v_move rfl) ?_
    refine tl_grun 44 rfl rfl ?_
    refine tl (v_ib rfl rfl rfl) ?_
    refine tl (v_pick_t rfl rfl) ?_
    refine tl (v_move rfl) ?_
    refine tl_split 48 rfl (fun h175 => ?_) (fun h175 => ?_)
    ·
     refine tl_grun 48 rfl rfl ?_
     refine tl (v_move rfl) ?_
     refine tl_grun 48 rfl rfl ?_
     refine tl (v_len rfl sl31) ?_
     refine tl_grun 48 rfl rfl ?_
     refine tl (v_ib rfl rfl rfl) ?_
     refine tl (v_pick_t rfl rfl) ?_
     refine tl (v_move rfl) ?_
     refine tl_split 53 rfl (fun h176 => ?_) (fun h176 => ?_)
     ·
      refine tl_grun 53 rfl rfl ?_
      refine tl (v_move rfl) ?_
      refine tl_grun 53 rfl rfl ?_
      refine tl (v_ib rfl rfl rfl) ?_
      refine tl (v_pick_t rfl rfl) ?_
      refine tl (v_move rfl) ?_
      refine tl_split 57 rfl (fun h177 => ?_) (fun h177 => ?_)
      ·
       refine tl_grun 57 rfl rfl ?_
       refine tl (v_move rfl) ?_
       refine tl (v_pick_t rfl rfl) ?_
       refine tl (v_move rfl) ?_
       refine tl_splitb 60 rfl (fun h178 => ?_) (fun h178 => ?_)
       ·
        refine tl_grun 60 rfl rfl ?_
        refine tl (v_move rfl) ?_
        refine tl_grun 60 rfl rfl ?_
        refine tl (v_ib rfl rfl rfl) ?_
        refine tl (v_pick_t rfl rfl) ?_
        refine tl (v_assign rfl) ?_
        refine tl_nil <| tx_then <| tc_ret ?_
        refine tx_ret1 (.inl rfl) rfl rfl ?_
        have e179 : (decide (((namesM (Base.mk (Names.mk ([⟨#[116, 111, 112]⟩] : List (ByteArray)) ([] : List (ByteArray)) ([] : List (ByteArray))) ([] : List (Incl)) ([] : List (RoleIncl)) ([] : List (Fact)) ([] : List (Link))) ([] : List (Int))).2) = 20) : Bool) = true := by (first | rfl | grind)
        exact fun w hw => ⟨congrArg Ending.returned (congrArg (fun x0 => Value.bool x0) e179), (hw.drop 2).weaken hle165⟩
       ·
        refine tl_gskip 60 rfl rfl rfl ?_
        refine tl_gskip 60 rfl rfl rfl ?_
        refine tl (v_pick_f rfl rfl) ?_
        refine tl (v_assign rfl) ?_
        refine tl_nil <| tx_then <| tc_ret ?_
        refine tx_ret1 (.inl rfl) rfl rfl ?_
        have e180 : (false : Bool) = true := by (first | rfl | grind)
        exact fun w hw => ⟨congrArg Ending.returned (congrArg (fun x0 => Value.bool x0) e180), (hw.drop 2).weaken hle165⟩
      ·
       refine tl_gskip 57 rfl rfl rfl ?_
       refine tl (v_pick_f rfl rfl) ?_
       refine tl (v_move rfl) ?_
       refine tl_gskip 60 rfl rfl rfl ?_
       refine tl_gskip 60 rfl rfl rfl ?_
       refine tl (v_pick_f rfl rfl) ?_
       refine tl (v_assign rfl) ?_
       refine tl_nil <| tx_then <| tc_ret ?_
       refine tx_ret1 (.inl rfl) rfl rfl ?_
       have e181 : (false : Bool) = true := by (first | rfl | grind)
       exact fun w hw => ⟨congrArg Ending.returned (congrArg (fun x0 => Value.bool x0) e181), (hw.drop 2).weaken hle165⟩
     ·
      refine tl_gskip 53 rfl rfl rfl ?_
      refine tl_gskip 53 rfl rfl rfl ?_
      refine tl (v_pick_f rfl rfl) ?_
      refine tl (v_move rfl) ?_
      refine tl_gskip 57 rfl rfl rfl ?_
      refine tl (v_pick_f rfl rfl) ?_
      refine tl (v_move rfl) ?_
      refine tl_gskip 60 rfl rfl rfl ?_
      refine tl_gskip 60 rfl rfl rfl ?_
      refine tl (v_pick_f rfl rfl) ?_
      refine tl (v_assign rfl) ?_
      refine tl_nil <| tx_then <| tc_ret ?_
      refine tx_ret1 (.inl rfl) rfl rfl ?_
      have e182 : (false : Bool) = true := by (first | rfl | grind)
      exact fun w hw => ⟨congrArg Ending.returned (congrArg (fun x0 => Value.bool x0) e182), (hw.drop 2).weaken hle165⟩
    ·
     refine tl_gskip 48 rfl rfl rfl ?_
     refine tl_gskip 48 rfl rfl rfl ?_
     refine tl_gskip 48 rfl rfl rfl ?_
     refine tl (v_pick_f rfl rfl) ?_
     refine tl (v_move rfl) ?_
     refine tl_gskip 53 rfl rfl rfl ?_
     refine tl_gskip 53 rfl rfl rfl ?_
     refine tl (v_pick_f rfl rfl) ?_
     refine tl (v_move rfl) ?_
     refine tl_gskip 57 rfl rfl rfl ?_
     refine tl (v_pick_f rfl rfl) ?_
     refine tl (v_move rfl) ?_
     refine tl_gskip 60 rfl rfl rfl ?_
     refine tl_gskip 60 rfl rfl rfl ?_
     refine tl (v_pick_f rfl rfl) ?_
     refine tl (v_assign rfl) ?_
     refine tl_nil <| tx_then <| tc_ret ?_
     refine tx_ret1 (.inl rfl) rfl rfl ?_
     have e183 : (false : Bool) = true := by (first | rfl | grind)
     exact fun w hw => ⟨congrArg Ending.returned (congrArg (fun x0 => Value.bool x0) e183), (hw.drop 2).weaken hle165⟩
   ·
    refine tl_gskip 44 rfl rfl rfl ?_
    refine tl_gskip 44 rfl rfl rfl ?_
    refine tl (v_pick_f rfl rfl) ?_
    refine tl (v_move rfl) ?_
    refine tl_gskip 48 rfl rfl rfl ?_
    refine tl_gskip 48 rfl rfl rfl ?_
    refine tl_gskip 48 rfl rfl rfl ?_
    refine tl (v_pick_f rfl rfl) ?_
    refine tl (v_move rfl) ?_
    refine tl_gskip 53 rfl rfl rfl ?_
    refine tl_gskip 53 rfl rfl rfl ?_
    refine tl (v_pick_f rfl rfl) ?_
    refine tl (v_move rfl) ?_
    refine tl_gskip 57 rfl rfl rfl ?_
    refine tl (v_pick_f rfl rfl) ?_
    refine tl (v_move rfl) ?_
    refine tl_gskip 60 rfl rfl rfl ?_
    refine tl_gskip 60 rfl rfl rfl ?_
    refine tl (v_pick_f rfl rfl) ?_
    refine tl (v_assign rfl) ?_
    refine tl_nil <| tx_then <| tc_ret ?_
    refine tx_ret1 (.inl rfl) rfl rfl ?_
    have e184 : (false : Bool) = true := by (first | rfl | grind)
    exact fun w hw => ⟨congrArg Ending.returned (congrArg (fun x0 => Value.bool x0) e184), (hw.drop 2).weaken hle165⟩
  ·
   refine tl_gskip 39 rfl rfl rfl ?_
   refine tl_gskip 39 rfl rfl rfl ?_
   refine tl_gskip 39 rfl rfl rfl ?_
   refine tl (v_pick_f rfl rfl) ?_
   refine tl (v_move rfl) ?_
   refine tl_gskip 44 rfl rfl rfl ?_
   refine tl_gskip 44 rfl rfl rfl ?_
   refine tl (v_pick_f rfl rfl) ?_
   refine tl (v_move rfl) ?_
   refine tl_gskip 48 rfl rfl rfl ?_
   refine tl_gskip 48 rfl rfl rfl ?_
   refine tl_gskip 48 rfl rfl rfl ?_
   refine tl (v_pick_f rfl rfl) ?_
   refine tl (v_move rfl) ?_
   refine tl_gskip 53 rfl rfl rfl ?_
   refine tl_gskip 53 rfl rfl rfl ?_
   refine tl (v_pick_f rfl rfl) ?_
   refine tl (v_move rfl) ?_
   refine tl_gskip 57 rfl rfl rfl ?_
   refine tl (v_pick_f rfl rfl) ?_
   refine tl (v_move rfl) ?_
   refine tl_gskip 60 rfl rfl rfl ?_
   refine tl_gskip 60 rfl rfl rfl ?_
   refine tl (v_pick_f rfl rfl) ?_
   refine tl (v_assign rfl) ?_
   refine tl_nil <| tx_then <| tc_ret ?_
   refine tx_ret1 (.inl rfl) rfl rfl ?_
   have e185 : (false : Bool) = true := by (first | rfl | grind)
   exact fun w hw => ⟨congrArg Ending.returned (congrArg (fun x0 => Value.bool x0) e185), (hw.drop 2).weaken hle144⟩

end Go.Proofs.YtcbcdlajnmkioaaGreatDoor
