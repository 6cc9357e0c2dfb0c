/- A part of the proof of the statement ModuleGrows of isagogelaw19: functions walked, and plain laws on what they answer. -/
import Derived.Test.YtcbcdlajnmkioaaGreatDoorZ4
namespace Go.Proofs.YtcbcdlajnmkioaaGreatDoor
open Go Go.Proofs
set_option linter.unusedSimpArgs false
set_option linter.unusedVariables false
theorem ca34 : Callable Tryz.prog 34 := ⟨by kernel_rfl⟩
theorem ca35 : Callable Tryz.prog 35 := ⟨by kernel_rfl⟩
theorem ca37 : Callable Tryz.prog 37 := ⟨by kernel_rfl⟩

open Classical in
/-- What module.Module answers. -/
noncomputable def moduleP (b : Base) (s : Sig) (kind : Int) : List Int × Int := if baseB b = true then (if sigB b.names s = true ∧ 0 ≤ kind ∧ kind ≤ 2 then (moduleL b s kind, 0) else ([], 1)) else ([], 20)
theorem moduleP_base {b : Base} {s : Sig} {kind : Int} (h : ¬ baseB b = true) : moduleP b s kind = ([], 20) := by unfold moduleP; rw [if_neg h]
theorem moduleP_arg {b : Base} {s : Sig} {kind : Int} (h : baseB b = true) (h2 : ¬ (sigB b.names s = true ∧ 0 ≤ kind ∧ kind ≤ 2)) : moduleP b s kind = ([], 1) := by unfold moduleP; rw [if_pos h, if_neg h2]
theorem moduleP_ok {b : Base} {s : Sig} {kind : Int} (h : baseB b = true) (h2 : sigB b.names s = true ∧ 0 ≤ kind ∧ kind ≤ 2) : moduleP b s kind = (moduleL b s kind, 0) := by unfold moduleP; rw [if_pos h, if_pos h2]
theorem flip_top (kd : Int) : decide ((kd + 1) % 2 = 1) = !decide (kd % 2 = 1) := by
  rw [Bool.eq_iff_iff]; simp only [decide_eq_true_eq, Bool.not_eq_true', decide_eq_false_iff_not]; omega
theorem baseB_ok {b : Base} (h : baseB b = true) : BaseOk b := of_decide_eq_true h

set_option maxRecDepth 20000 in
set_option maxHeartbeats 8000000 in
theorem module_Module_ok {R : RO} {G : List Res} {w : World} {c_b : List Value} (b : Base) {c_s : List Value} (s : Sig) (kind : Int) (hr_b : kBase.rep R b c_b) (hr_s : kSig.rep R s c_s) (hi_kind : i64 kind) (hG : Glob R) (hb : s.concepts.length ≤ 1000 ∧ s.roles.length ≤ 1000) (hw : Own w R (G)) :
    Calls Tryz.prog 9 [.agg c_b.toArray, .agg c_s.toArray, .int .i64 kind].toArray w (RetO R G (fun v_ R' L_ => ∃ (A_0 : Option Addr) (d_0 : Nat), v_ = (.tuple #[.slice A_0 (((moduleP b s kind).1).length) d_0, .int .i64 ((moduleP b s kind).2)] : Value) ∧ L_ = ([] : List Res) ∧ SlAt kInt R' A_0 ((moduleP b s kind).1))) := by
  obtain ⟨c1, A3, d4, A6, d7, A9, d10, A12, d13, rfl, hr2, hs5, hs8, hs11, hs14⟩ := id hr_b
  have z27 := hs5.size
  unfold big at z27
  have z28 := hs8.size
  unfold big at z28
  have z29 := hs11.size
  unfold big at z29
  have z30 := hs14.size
  unfold big at z30
  obtain ⟨A15, d16, A19, d20, A23, d24, rfl, hs17, hs21, hs25⟩ := id hr2
  have z18 := hs17.size
  unfold big at z18
  have z22 := hs21.size
  unfold big at z22
  have z26 := hs25.size
  unfold big at z26
  obtain ⟨A31, d32, A35, d36, rfl, hs33, hs37⟩ := id hr_s
  have z34 := hs33.size
  unfold big at z34
  have z38 := hs37.size
  unfold big at z38
  unfold i64 at hi_kind
  refine fn_enter (vs := [.agg #[.slice A15 b.names.concepts.length d16, .slice A19 b.names.roles.length d20, .slice A23 b.names.inds.length d24, .slice A3 b.incls.length d4, .slice A6 b.roles.length d7, .slice A9 b.facts.length d10, .slice A12 b.links.length d13], .agg #[.slice A31 s.concepts.length d32, .slice A35 s.roles.length d36], .int .i64 kind]) Tryz.func9 rfl rfl rfl ?_ hw
  refine tc_seq <| tc_region ?_
  refine tl_box_agg (l := [.slice A15 b.names.concepts.length d16, .slice A19 b.names.roles.length d20, .slice A23 b.names.inds.length d24, .slice A3 b.incls.length d4, .slice A6 b.roles.length d7, .slice A9 b.facts.length d10, .slice A12 b.links.length d13]) rfl rfl fun b39 => ?_
  refine tl_box_agg (l := [.slice A31 s.concepts.length d32, .slice A35 s.roles.length d36]) rfl rfl fun b40 => ?_
  refine tl (v_assign rfl) ?_
  refine tl (v_assign rfl) ?_
  refine tl_nil <| tx_then <| tc_seq <| tc_block <| tc_seq <| tc_region ?_
  refine tl (v_ld_agg 1 [.slice A15 b.names.concepts.length d16, .slice A19 b.names.roles.length d20, .slice A23 b.names.inds.length d24, .slice A3 b.incls.length d4, .slice A6 b.roles.length d7, .slice A9 b.facts.length d10, .slice A12 b.links.length d13] rfl ld30 rfl rfl) ?_
  refine tl_callv ca34 rfl (fun w hw => kb_Check_ok b hr_b (by first | assumption | omega) hw) rfl ?_
  refine tl (v_ib rfl rfl rfl) ?_
  refine tl (v_assign rfl) ?_
  refine tl_nil <| tx_then ?_
  refine tc_split 12 rfl (fun h41 => ?_) (fun h41 => ?_)
  ·
   refine tc_yes rfl ?_
   refine tc_seq <| tc_region ?_
   refine tl (v_assign rfl) ?_
   refine tl (v_assign rfl) ?_
   refine tl_nil <| tx_then <| tc_ret <| tx_blk_ret <| tx_then_ret ?_
   have hs42 : SlAt kInt R none ([] : List (Int)) := SlAt.nil _ _ _
   refine tx_ret2 (.inl rfl) rfl rfl rfl ?_
   have e43 : (([] : List (Int)) : List (Int)) = (moduleP b s kind).1 := by (rw [moduleP_base (by grind)])
   have e44 : (20 : Int) = (moduleP b s kind).2 := by (rw [moduleP_base (by grind)])
   intro w hw
   exact ⟨_, _, [], rfl, .refl _, hw.drop 2, none, 0, (Eq.trans (congrArg (fun (z0_ : List (Int)) => (.tuple #[.slice none z0_.length 0, .int .i64 20] : Value)) e43) (congrArg (fun (z1_ : Int) => (.tuple #[.slice none ((moduleP b s kind).1).length 0, .int .i64 z1_] : Value)) e44)), rfl, (Eq.mp (congrArg (fun z => SlAt kInt R none z) e43) hs42)⟩
  ·
   refine tc_no rfl ?_
   refine tc_cut [(0, .agg #[.slice A15 b.names.concepts.length d16, .slice A19 b.names.roles.length d20, .slice A23 b.names.inds.length d24, .slice A3 b.incls.length d4, .slice A6 b.roles.length d7, .slice A9 b.facts.length d10, .slice A12 b.links.length d13]), (1, .agg #[.slice A31 s.concepts.length d32, .slice A35 s.roles.length d36]), (2, .int .i64 kind), (3, .pointer (some ⟨b39, 0, none⟩)), (4, .pointer (some ⟨b40, 0, none⟩)), (6, .slice none 0 0), (7, .int .i64 0), (12, .bool false), (16, .bool (decide ((((!(sigB b.names s)) = true) ∨ (kind < 0)) ∨ (2 < kind))))] (.blk b40 [.slice A31 s.concepts.length d32, .slice A35 s.roles.length d36] 33 :: .blk b39 [.slice A15 b.names.concepts.length d16, .slice A19 b.names.roles.length d20, .slice A23 b.names.inds.length d24, .slice A3 b.incls.length d4, .slice A6 b.roles.length d7, .slice A9 b.facts.length d10, .slice A12 b.links.length d13] 30 :: G) (fun _ => True) (fun K hK45 hE46 => ?_) ?_
   ·
    refine tc_region ?_
    refine tl (v_fieldAddr 0 rfl fo30_0 rfl) ?_
    refine tl (v_ld_agg 1 [.slice A15 b.names.concepts.length d16, .slice A19 b.names.roles.length d20, .slice A23 b.names.inds.length d24] rfl ld24 rfl rfl) ?_
    refine tl (v_ld_agg 0 [.slice A31 s.concepts.length d32, .slice A35 s.roles.length d36] rfl ld33 rfl rfl) ?_
    refine tl_callv ca35 rfl (fun w hw => module_right_ok b.names s hr2 hr_s hw) rfl ?_
    refine tl (v_neg rfl) ?_
    refine tl (v_move rfl) ?_
    refine tl_splitb 22 rfl (fun h47 => ?_) (fun h47 => ?_)
    ·
     refine tl_gskip 22 rfl rfl rfl ?_
     refine tl_gskip 22 rfl rfl rfl ?_
     refine tl (v_pick_t rfl rfl) ?_
     refine tl (v_move rfl) ?_
     refine tl_gskip 26 rfl rfl rfl ?_
     refine tl_gskip 26 rfl rfl rfl ?_
     refine tl (v_pick_t rfl rfl) ?_
     refine tl (v_assign rfl) ?_
     refine tl_nil ?_
     exact tx_cut hK45 (.refl _) (trivial) ⟨rfl, rfl, rfl, rfl, rfl, rfl, rfl, rfl, show some (Value.bool true) = some (Value.bool (decide ((((!(sigB b.names s)) = true) ∨ (kind < 0)) ∨ (2 < kind)))) by first | (simp [h47]; done) | grind | (simp [h47] <;> omega), trivial⟩ (fun w hw => hw)
    ·
     refine tl_grun 22 rfl rfl ?_
     refine tl (v_move rfl) ?_
     refine tl_grun 22 rfl rfl ?_
     refine tl (v_ib rfl rfl rfl) ?_
     refine tl (v_pick_f rfl rfl) ?_
     refine tl (v_move rfl) ?_
     refine tl_split 26 rfl (fun h48 => ?_) (fun h48 => ?_)
     ·
      refine tl_gskip 26 rfl rfl rfl ?_
      refine tl_gskip 26 rfl rfl rfl ?_
      refine tl (v_pick_t rfl rfl) ?_
      refine tl (v_assign rfl) ?_
      refine tl_nil ?_
      exact tx_cut hK45 (.refl _) (trivial) ⟨rfl, rfl, rfl, rfl, rfl, rfl, rfl, rfl, show some (Value.bool true) = some (Value.bool (decide ((((!(sigB b.names s)) = true) ∨ (kind < 0)) ∨ (2 < kind)))) by first | (simp [h47, h48]; done) | grind | (simp [h47, h48] <;> omega), trivial⟩ (fun w hw => hw)
     ·
      refine tl_grun 26 rfl rfl ?_
      refine tl (v_move rfl) ?_
      refine tl_grun 26 rfl rfl ?_
      refine tl (v_ib rfl rfl rfl) ?_
      refine tl (v_pick_f rfl rfl) ?_
      refine tl (v_assign rfl) ?_
      refine tl_nil ?_
      exact tx_cut hK45 (.refl _) (trivial) ⟨rfl, rfl, rfl, rfl, rfl, rfl, rfl, rfl, show some (Value.bool (decide (2 < kind))) = some (Value.bool (decide ((((!(sigB b.names s)) = true) ∨ (kind < 0)) ∨ (2 < kind)))) by first | (simp [h47, h48]; done) | grind | (simp [h47, h48] <;> omega), trivial⟩ (fun w hw => hw)
   ·
    refine fun R50 hle51 hj49 => tc_weaken hle51 ?_
    refine tc_split 16 rfl (fun h52 => ?_) (fun h52 => ?_)
    ·
     refine tc_yes rfl ?_
     refine tc_seq <| tc_region ?_
     refine tl (v_assign rfl) ?_
     refine tl (v_assign rfl) ?_
     refine tl_nil <| tx_then <| tc_ret <| tx_blk_ret <| tx_then_ret ?_
     have hs53 : SlAt kInt R none ([] : List (Int)) := SlAt.nil _ _ _
     refine tx_ret2 (.inl rfl) rfl rfl rfl ?_
     have e54 : (([] : List (Int)) : List (Int)) = (moduleP b s kind).1 := by (rw [moduleP_arg (by grind) (by grind)])
     have e55 : (1 : Int) = (moduleP b s kind).2 := by (rw [moduleP_arg (by grind) (by grind)])
     intro w hw
     exact ⟨_, _, [], rfl, .refl _, hw.drop 2, none, 0, (Eq.trans (congrArg (fun (z0_ : List (Int)) => (.tuple #[.slice none z0_.length 0, .int .i64 1] : Value)) e54) (congrArg (fun (z1_ : Int) => (.tuple #[.slice none ((moduleP b s kind).1).length 0, .int .i64 z1_] : Value)) e55)), rfl, (Eq.mp (congrArg (fun z => SlAt kInt R none z) e54) hs53)⟩
    ·
     refine tc_no rfl ?_
     refine tc_skip <| tx_blk <| tx_then <| tc_seq <| tc_region ?_
     refine tl_bslice [] ap31 rfl rfl rfl rfl rfl rfl rfl fun b56 => ?_
     refine tl (v_assign rfl) ?_
     refine tl_nil <| tx_then <| tc_seq <| tc_seq <| tc_region ?_
     refine tl (v_ld_agg 2 [.slice A15 b.names.concepts.length d16, .slice A19 b.names.roles.length d20, .slice A23 b.names.inds.length d24, .slice A3 b.incls.length d4, .slice A6 b.roles.length d7, .slice A9 b.facts.length d10, .slice A12 b.links.length d13] rfl ld30 rfl rfl) ?_
     refine tl_callv ca36 rfl (fun w hw => kb_Count_ok b hr_b hw) rfl ?_
     refine tl (v_move rfl) ?_
     refine tl_nil <| tx_then <| tc_block ?_
     refine tc_G (.vec (.slice (some ⟨b56, 0, none⟩) (([] : List (Int)).length) 0) (([] : List (Int)).length) 3 1 [] :: .blk b40 [.slice A31 s.concepts.length d32, .slice A35 s.roles.length d36] 33 :: .blk b39 [.slice A15 b.names.concepts.length d16, .slice A19 b.names.roles.length d20, .slice A23 b.names.inds.length d24, .slice A3 b.incls.length d4, .slice A6 b.roles.length d7, .slice A9 b.facts.length d10, .slice A12 b.links.length d13] 30 :: G) (fun w hw => hw.blkvec (len := 0) (sz := 1) rfl (by decide)) ?_
     have hv57 : (kInt).reps R ([] : List (Int)) [] := rfl
     refine tc_loop ?_
     refine th_loopS (fun b_ : Nat × List (Int) × Option Addr × Nat × List Value => match b_ with | (i, al, A_al, c_al, l_al) => axiomsN b - i) (fun b_ : Nat × List (Int) × Option Addr × Nat × List Value => match b_ with | (i, al, A_al, c_al, l_al) => [(2, .int .i64 kind), (3, .pointer (some ⟨b39, 0, none⟩)), (4, .pointer (some ⟨b40, 0, none⟩)), (6, .slice none 0 0), (7, .int .i64 0), (32, .int .i64 (axiomsN b : Int)), (33, .int .i64 (i : Int)), (8, .slice A_al al.length c_al)]) (fun b_ : Nat × List (Int) × Option Addr × Nat × List Value => match b_ with | (i, al, A_al, c_al, l_al) => (.vec (.slice A_al al.length c_al) al.length 3 1 l_al :: .blk b40 [.slice A31 s.concepts.length d32, .slice A35 s.roles.length d36] 33 :: .blk b39 [.slice A15 b.names.concepts.length d16, .slice A19 b.names.roles.length d20, .slice A23 b.names.inds.length d24, .slice A3 b.incls.length d4, .slice A6 b.roles.length d7, .slice A9 b.facts.length d10, .slice A12 b.links.length d13] 30 :: G)) (fun (b_ : Nat × List (Int) × Option Addr × Nat × List Value) => match b_ with | (i, al, A_al, c_al, l_al) => (kInt).reps R al l_al ∧ (i ≤ axiomsN b ∧ al = upTo i)) (0, ([] : List (Int)), (some ⟨b56, 0, none⟩), 0, []) ⟨rfl, rfl, rfl, rfl, rfl, rfl, rfl, rfl, trivial⟩ (by refine ⟨hv57, ?_⟩; exact ⟨by omega, rfl⟩) (fun w hw => hw) ?_
     rintro ⟨i, al, A_al, c_al, l_al⟩ hI61 ih62
     show TC Tryz.prog _ _ _ [] [(2, .int .i64 kind), (3, .pointer (some ⟨b39, 0, none⟩)), (4, .pointer (some ⟨b40, 0, none⟩)), (6, .slice none 0 0), (7, .int .i64 0), (32, .int .i64 (axiomsN b : Int)), (33, .int .i64 (i : Int)), (8, .slice A_al al.length c_al)] R (.vec (.slice A_al al.length c_al) al.length 3 1 l_al :: .blk b40 [.slice A31 s.concepts.length d32, .slice A35 s.roles.length d36] 33 :: .blk b39 [.slice A15 b.names.concepts.length d16, .slice A19 b.names.roles.length d20, .slice A23 b.names.inds.length d24, .slice A3 b.incls.length d4, .slice A6 b.roles.length d7, .slice A9 b.facts.length d10, .slice A12 b.links.length d13] 30 :: G)
     obtain ⟨hv60, hI65⟩ := hI61
     obtain ⟨hi1, hi2⟩ := hI65
     have hn60 := (baseB_ok (b := b) (by grind)).count
     refine tc_seq <| tc_region ?_
     refine tl (v_ib rfl rfl rfl) ?_
     refine tl_nil <| tx_then <| tc_seq ?_
     refine tc_split 34 rfl (fun h66 => ?_) (fun h66 => ?_)
     ·
      refine tc_yes rfl ?_
      refine tc_skip <| tx_then <| tc_seq <| tc_block <| tc_seq <| tc_region ?_
      refine tl (v_move rfl) ?_
      refine tl (v_assign rfl) ?_
      refine tl_nil <| tx_then <| tc_region ?_
      refine tl (v_move rfl) ?_
      refine tl (v_move rfl) ?_
      refine tl_bslice [.int .i64 (i : Int)] ap31 rfl rfl rfl rfl rfl rfl rfl fun b67 => ?_
      refine tl_app (k := kInt) (e := (i : Int)) 1 0 hv60 (⟨rfl, by unfold i64; omega⟩) ap31 rfl rfl rfl rfl rfl (by (rw [hi2, upTo_len]; omega)) rfl rfl fun A68 c69 l70 hv71 => ?_
      refine tl (v_assign rfl) ?_
      refine tl_nil <| tx_blk <| tx_then <| tc_region ?_
      refine tl (v_add rfl rfl (by omega) (by omega)) ?_
      refine tl (v_move rfl) ?_
      refine tl_nil ?_
      refine tx_round ?_
      exact fun a w ha hw => ih62.out (i + 1, (al ++ [(i : Int)]), A68, c69, l70) (by refine ⟨hv71, ?_⟩; exact ⟨by omega, by rw [hi2, upTo_snoc]⟩) (by (try dsimp only); omega) a w (ha.sub (lkAll_lk ⟨rfl, rfl, rfl, rfl, rfl, rfl, rfl, rfl, trivial⟩)) (hw.drop 1)
     ·
      refine tc_no rfl ?_
      refine tc_exit <| tx_then_exit <| tx_then_exit <| tx_blk_exit <| tx_then <| tc_seq <| tc_seq <| tc_region ?_
      refine tl (v_move rfl) ?_
      refine tl (v_ib rfl rfl rfl) ?_
      refine tl_nil <| tx_then ?_
      refine tc_split 42 rfl (fun h73 => ?_) (fun h73 => ?_)
      ·
       refine tc_yes rfl ?_
       refine tc_seq <| tc_region ?_
       refine tl (v_ld_agg 2 [.slice A15 b.names.concepts.length d16, .slice A19 b.names.roles.length d20, .slice A23 b.names.inds.length d24, .slice A3 b.incls.length d4, .slice A6 b.roles.length d7, .slice A9 b.facts.length d10, .slice A12 b.links.length d13] rfl ld30 rfl rfl) ?_
       refine tl (v_move rfl) ?_
       refine tl (v_ld_agg 1 [.slice A31 s.concepts.length d32, .slice A35 s.roles.length d36] rfl ld33 rfl rfl) ?_
       refine tl (v_move rfl) ?_
       refine tl_retireV (k := kInt) (l := al) 0 rfl hv60 rfl (by (unfold big; first | (rw [hi2, upTo_len]; omega) | exact Nat.le_trans modL_len (by omega) | exact Nat.le_trans modL_len (by rw [hi2, upTo_len]; omega))) fun R75 hle76 hs74 => ?_
       try replace hr_b := kBase.mono _ _ _ _ hle76 hr_b
       try replace hr_s := kSig.mono _ _ _ _ hle76 hr_s
       try replace hG := hG.mono hle76
       try replace hv60 := Kd.reps_mono hle76 hv60
       have z77 := hs74.size
       unfold big at z77
       refine tl_callo ca37 rfl (fun w hw => module_module_ok b al s kind hr_b hs74 hr_s (by unfold i64; omega) (by first | assumption | exact baseB_ok (by grind) | exact ⟨by omega, hw2⟩ | (have hn60 := (baseB_ok (b := b) (by grind)).count; have e_ : i = axiomsN b := (by omega); subst e_; subst hi2; exact ⟨by rw [upTo_len]; omega, fun x hx => allL_mem.1 hx⟩) | omega) (by first | assumption | exact baseB_ok (by grind) | exact ⟨by omega, hw2⟩ | (have hn60 := (baseB_ok (b := b) (by grind)).count; have e_ : i = axiomsN b := (by omega); subst e_; subst hi2; exact ⟨by rw [upTo_len]; omega, fun x hx => allL_mem.1 hx⟩) | omega) (by first | assumption | exact baseB_ok (by grind) | exact ⟨by omega, hw2⟩ | (have hn60 := (baseB_ok (b := b) (by grind)).count; have e_ : i = axiomsN b := (by omega); subst e_; subst hi2; exact ⟨by rw [upTo_len]; omega, fun x hx => allL_mem.1 hx⟩) | omega) (by first | assumption | exact baseB_ok (by grind) | exact ⟨by omega, hw2⟩ | (have hn60 := (baseB_ok (b := b) (by grind)).count; have e_ : i = axiomsN b := (by omega); subst e_; subst hi2; exact ⟨by rw [upTo_len]; omega, fun x hx => allL_mem.1 hx⟩) | omega) hw) rfl ?_
       rintro _ R79 _ hle80 ⟨A_z78_0, c_z78_0, l_z78_0, rfl, rfl, hv_z78_0⟩
       try replace hr_b := kBase.mono _ _ _ _ hle80 hr_b
       try replace hr_s := kSig.mono _ _ _ _ hle80 hr_s
       try replace hG := hG.mono hle80
       try replace hv60 := Kd.reps_mono hle80 hv60
       have hle81 := hle76.trans hle80
       refine tl (v_assign rfl) ?_
       refine tl (v_assign rfl) ?_
       refine tl_nil <| tx_then <| tc_ret <| tx_then_ret ?_
       refine tx_retireV (k := kInt) (l := (modL b al s (decide (kind = 1)))) 0 rfl hv_z78_0 rfl (by (unfold big; first | (rw [hi2, upTo_len]; omega) | exact Nat.le_trans modL_len (by omega) | exact Nat.le_trans modL_len (by rw [hi2, upTo_len]; omega))) fun R83 hle84 hs82 => ?_
       try replace hr_b := kBase.mono _ _ _ _ hle84 hr_b
       try replace hr_s := kSig.mono _ _ _ _ hle84 hr_s
       try replace hG := hG.mono hle84
       try replace hv60 := Kd.reps_mono hle84 hv60
       have hle85 := hle81.trans hle84
       have hle86 := hle80.trans hle84
       have z87 := hs82.size
       unfold big at z87
       refine tx_ret2 (.inl rfl) rfl rfl rfl ?_
       have e88 : ((modL b al s (decide (kind = 1))) : List (Int)) = (moduleP b s kind).1 := by ((have e_ : i = axiomsN b := by omega); subst e_; subst hi2; rw [moduleP_ok (by grind) ⟨by grind, by omega, by omega⟩]; unfold moduleL; rw [if_pos (by omega)]; rfl)
       have e89 : (0 : Int) = (moduleP b s kind).2 := by (rw [moduleP_ok (by grind) ⟨by grind, by omega, by omega⟩])
       intro w hw
       exact ⟨_, _, [], rfl, hle85, hw.drop 2, A_z78_0, c_z78_0, (Eq.trans (congrArg (fun (z0_ : List (Int)) => (.tuple #[.slice A_z78_0 z0_.length c_z78_0, .int .i64 0] : Value)) e88) (congrArg (fun (z1_ : Int) => (.tuple #[.slice A_z78_0 ((moduleP b s kind).1).length c_z78_0, .int .i64 z1_] : Value)) e89)), rfl, (Eq.mp (congrArg (fun z => SlAt kInt R83 A_z78_0 z) e88) hs82)⟩
      ·
       refine tc_no rfl ?_
       refine tc_skip <| tx_then <| tc_seq <| tc_seq <| tc_region ?_
       refine tl (v_assign rfl) ?_
       refine tl_nil <| tx_then <| tc_block ?_
       refine tc_retireV (k := kInt) (l := al) 0 rfl hv60 rfl (by (unfold big; first | (rw [hi2, upTo_len]; omega) | exact Nat.le_trans modL_len (by omega) | exact Nat.le_trans modL_len (by rw [hi2, upTo_len]; omega))) fun R91 hle92 hs90 => ?_
       try replace hr_b := kBase.mono _ _ _ _ hle92 hr_b
       try replace hr_s := kSig.mono _ _ _ _ hle92 hr_s
       try replace hG := hG.mono hle92
       have z93 := hs90.size
       unfold big at z93
       refine tc_loop ?_
       refine th_loop (fun b_ : Nat × Int × List (Int) × Option Addr × Nat => match b_ with | (q, kd, wl, A_wl, d_wl) => 3 * wl.length + (2 - q)) (fun b_ : Nat × Int × List (Int) × Option Addr × Nat => match b_ with | (q, kd, wl, A_wl, d_wl) => [(3, .pointer (some ⟨b39, 0, none⟩)), (4, .pointer (some ⟨b40, 0, none⟩)), (6, .slice none 0 0), (7, .int .i64 0), (10, .int .i64 (q : Int)), (2, .int .i64 kd), (8, .slice A_wl wl.length d_wl)]) (fun b_ : Nat × Int × List (Int) × Option Addr × Nat => match b_ with | (q, kd, wl, A_wl, d_wl) => (.blk b40 [.slice A31 s.concepts.length d32, .slice A35 s.roles.length d36] 33 :: .blk b39 [.slice A15 b.names.concepts.length d16, .slice A19 b.names.roles.length d20, .slice A23 b.names.inds.length d24, .slice A3 b.incls.length d4, .slice A6 b.roles.length d7, .slice A9 b.facts.length d10, .slice A12 b.links.length d13] 30 :: G)) (fun (b_ : Nat × Int × List (Int) × Option Addr × Nat) (R_ : RO) => match b_ with | (q, kd, wl, A_wl, d_wl) => SlAt kInt R_ A_wl wl ∧ ((∀ x ∈ wl, 0 ≤ x ∧ x < axiomsN b) ∧ wl.length ≤ 60 ∧ 2 ≤ kd ∧ kd + 3 * (wl.length : Int) + (2 - q : Nat) ≤ 184 ∧ star b s q (decide (kd % 2 = 1)) wl = star b s 0 false (allL b))) (0, kind, al, A_al, c_al) ⟨rfl, rfl, rfl, rfl, rfl, rfl, rfl, trivial⟩ (by refine ⟨hs90, ?_⟩; (have hn60 := (baseB_ok (b := b) (by grind)).count; have e_ : i = axiomsN b := by omega); subst e_; subst hi2; have e2_ : kind = 2 := (by omega); subst e2_; exact ⟨fun x hx => allL_mem.1 hx, by rw [upTo_len]; omega, by omega, by rw [upTo_len]; omega, rfl⟩) (fun w hw => hw) ?_
       rintro ⟨q, kd, wl, A_wl, d_wl⟩ R97 hle98 hI95 ih96
       try replace hr_b := kBase.mono _ _ _ _ hle98 hr_b
       try replace hr_s := kSig.mono _ _ _ _ hle98 hr_s
       try replace hG := hG.mono hle98
       have hle99 := hle92.trans hle98
       show TC Tryz.prog _ _ _ [] [(3, .pointer (some ⟨b39, 0, none⟩)), (4, .pointer (some ⟨b40, 0, none⟩)), (6, .slice none 0 0), (7, .int .i64 0), (10, .int .i64 (q : Int)), (2, .int .i64 kd), (8, .slice A_wl wl.length d_wl)] R97 (.blk b40 [.slice A31 s.concepts.length d32, .slice A35 s.roles.length d36] 33 :: .blk b39 [.slice A15 b.names.concepts.length d16, .slice A19 b.names.roles.length d20, .slice A23 b.names.inds.length d24, .slice A3 b.incls.length d4, .slice A6 b.roles.length d7, .slice A9 b.facts.length d10, .slice A12 b.links.length d13] 30 :: G)
       obtain ⟨hs94, hI100⟩ := hI95
       have z101 := hs94.size
       unfold big at z101
       obtain ⟨hw2, hw3, hw5, hw6, hw4⟩ := hI100
       refine tc_seq <| tc_seq <| tc_region ?_
       refine tl (v_move rfl) ?_
       refine tl (v_ib rfl rfl rfl) ?_
       refine tl_nil <| tx_then ?_
       refine tc_split 49 rfl (fun h102 => ?_) (fun h102 => ?_)
       ·
        refine tc_yes rfl ?_
        refine tc_skip <| tx_then <| tc_seq <| tc_block <| tc_seq <| tc_region ?_
        refine tl (v_ld_agg 1 [.slice A15 b.names.concepts.length d16, .slice A19 b.names.roles.length d20, .slice A23 b.names.inds.length d24, .slice A3 b.incls.length d4, .slice A6 b.roles.length d7, .slice A9 b.facts.length d10, .slice A12 b.links.length d13] rfl ld30 rfl rfl) ?_
        refine tl (v_move rfl) ?_
        refine tl (v_ld_agg 0 [.slice A31 s.concepts.length d32, .slice A35 s.roles.length d36] rfl ld33 rfl rfl) ?_
        refine tl (v_move rfl) ?_
        refine tl (v_rem rfl rfl (by omega) (by omega)) ?_
        refine tl_callo ca37 rfl (fun w hw => module_module_ok b wl s (kd % 2) hr_b hs94 hr_s (by unfold i64; omega) (by first | assumption | exact baseB_ok (by grind) | exact ⟨by omega, hw2⟩ | (have hn60 := (baseB_ok (b := b) (by grind)).count; have e_ : i = axiomsN b := (by omega); subst e_; subst hi2; exact ⟨by rw [upTo_len]; omega, fun x hx => allL_mem.1 hx⟩) | omega) (by first | assumption | exact baseB_ok (by grind) | exact ⟨by omega, hw2⟩ | (have hn60 := (baseB_ok (b := b) (by grind)).count; have e_ : i = axiomsN b := (by omega); subst e_; subst hi2; exact ⟨by rw [upTo_len]; omega, fun x hx => allL_mem.1 hx⟩) | omega) (by first | assumption | exact baseB_ok (by grind) | exact ⟨by omega, hw2⟩ | (have hn60 := (baseB_ok (b := b) (by grind)).count; have e_ : i = axiomsN b := (by omega); subst e_; subst hi2; exact ⟨by rw [upTo_len]; omega, fun x hx => allL_mem.1 hx⟩) | omega) (by first | assumption | exact baseB_ok (by grind) | exact ⟨by omega, hw2⟩ | (have hn60 := (baseB_ok (b := b) (by grind)).count; have e_ : i = axiomsN b := (by omega); subst e_; subst hi2; exact ⟨by rw [upTo_len]; omega, fun x hx => allL_mem.1 hx⟩) | omega) hw) rfl ?_
        rintro _ R104 _ hle105 ⟨A_z103_0, c_z103_0, l_z103_0, rfl, rfl, hv_z103_0⟩
        try replace hG := hG.mono hle105
        try replace hs94 := hs94.mono hle105
        have hle106 := hle99.trans hle105
        have hle107 := hle98.trans hle105
        refine tl (v_assign rfl) ?_
        refine tl_nil <| tx_then <| tc_seq <| tc_region ?_
        refine tl (v_move rfl) ?_
        refine tl (v_add rfl rfl (by omega) (by omega)) ?_
        refine tl (v_assign rfl) ?_
        refine tl_nil <| tx_then <| tc_seq <| tc_seq <| tc_region ?_
        refine tl (v_move rfl) ?_
        refine tl (v_len rfl sl31) ?_
        refine tl (v_move rfl) ?_
        refine tl (v_len rfl sl31) ?_
        refine tl (v_ib rfl rfl rfl) ?_
        refine tl_nil <| tx_then ?_
        refine tc_split 64 rfl (fun h108 => ?_) (fun h108 => ?_)
        ·
         refine tc_yes rfl ?_
         refine tc_region ?_
         refine tl (v_assign rfl) ?_
         refine tl_nil <| tx_then <| tc_region ?_
         refine tl (v_move rfl) ?_
         refine tl (v_assign rfl) ?_
         refine tl_nil <| tx_blk <| tx_then <| tc_region ?_
         refine tl (v_move rfl) ?_
         refine tl (v_add rfl rfl (by omega) (by omega)) ?_
         refine tl (v_assign rfl) ?_
         refine tl_nil ?_
         refine tx_retireV (k := kInt) (l := (modL b wl s (decide ((kd % 2) = 1)))) 0 rfl hv_z103_0 rfl (by (unfold big; first | (rw [hi2, upTo_len]; omega) | exact Nat.le_trans modL_len (by omega) | exact Nat.le_trans modL_len (by rw [hi2, upTo_len]; omega))) fun R110 hle111 hs109 => ?_
         try replace hG := hG.mono hle111
         try replace hs94 := hs94.mono hle111
         try replace hv_z103_0 := Kd.reps_mono hle111 hv_z103_0
         have hle112 := hle106.trans hle111
         have hle113 := hle107.trans hle111
         have hle114 := hle105.trans hle111
         have z115 := hs109.size
         unfold big at z115
         refine tx_round ?_
         exact fun a w ha hw => ih96.out (0, kd + 1, (modL b wl s (decide ((kd % 2) = 1))), A_z103_0, c_z103_0) _ (hle114) (by refine ⟨hs109, ?_⟩; exact ⟨fun x hx => hw2 x (modL_sub x hx), Nat.le_trans modL_len hw3, by omega, by (have := modL_len (b := b) (l := wl) (s := s) (top := decide (kd % 2 = 1)); omega), by rw [flip_top, ← hw4]; exact star_other (by omega) (fun h_ => by (have q_ := congrArg List.length h_; omega))⟩) (by (dsimp only; first | (have := modL_ne (b := b) (l := wl) (s := s) (top := decide (kd % 2 = 1)) (fun h_ => by (have q_ := congrArg List.length h_; omega)); omega) | (have := modL_len (b := b) (l := wl) (s := s) (top := decide (kd % 2 = 1)); omega))) a w (ha.sub (lkAll_lk ⟨rfl, rfl, rfl, rfl, congrArg (fun z => some (Value.int .i64 z)) (show (0 : Int) = (0 : Int) by first | rfl | omega), rfl, rfl, trivial⟩)) (hw)
        ·
         refine tc_no rfl ?_
         refine tc_skip <| tx_then <| tc_region ?_
         refine tl (v_move rfl) ?_
         refine tl (v_assign rfl) ?_
         refine tl_nil <| tx_blk <| tx_then <| tc_region ?_
         refine tl (v_move rfl) ?_
         refine tl (v_add rfl rfl (by omega) (by omega)) ?_
         refine tl (v_assign rfl) ?_
         refine tl_nil ?_
         refine tx_retireV (k := kInt) (l := (modL b wl s (decide ((kd % 2) = 1)))) 0 rfl hv_z103_0 rfl (by (unfold big; first | (rw [hi2, upTo_len]; omega) | exact Nat.le_trans modL_len (by omega) | exact Nat.le_trans modL_len (by rw [hi2, upTo_len]; omega))) fun R117 hle118 hs116 => ?_
         try replace hG := hG.mono hle118
         try replace hs94 := hs94.mono hle118
         have hle119 := hle106.trans hle118
         have hle120 := hle107.trans hle118
         have hle121 := hle105.trans hle118
         have z122 := hs116.size
         unfold big at z122
         refine tx_round ?_
         exact fun a w ha hw => ih96.out (q + 1, kd + 1, (modL b wl s (decide ((kd % 2) = 1))), A_z103_0, c_z103_0) _ (hle121) (by refine ⟨hs116, ?_⟩; exact ⟨fun x hx => hw2 x (modL_sub x hx), Nat.le_trans modL_len hw3, by omega, by (have := modL_len (b := b) (l := wl) (s := s) (top := decide (kd % 2 = 1)); omega), by rw [flip_top, ← hw4]; exact star_same (by omega) (Classical.byContradiction fun h_ => by (have q_ := modL_ne h_; omega))⟩) (by (dsimp only; first | (have := modL_ne (b := b) (l := wl) (s := s) (top := decide (kd % 2 = 1)) (fun h_ => by (have q_ := congrArg List.length h_; omega)); omega) | (have := modL_len (b := b) (l := wl) (s := s) (top := decide (kd % 2 = 1)); omega))) a w (ha.sub (lkAll_lk ⟨rfl, rfl, rfl, rfl, congrArg (fun z => some (Value.int .i64 z)) (show ((q : Int) + 1 : Int) = ((q + 1) : Int) by first | rfl | omega), rfl, rfl, trivial⟩)) (hw)
       ·
        refine tc_no rfl ?_
        refine tc_exit <| tx_then_exit <| tx_then_exit <| tx_blk_exit <| tx_then <| tc_seq <| tc_region ?_
        refine tl (v_move rfl) ?_
        refine tl (v_assign rfl) ?_
        refine tl (v_assign rfl) ?_
        refine tl_nil <| tx_then <| tc_ret ?_
        refine tx_ret2 (.inl rfl) rfl rfl rfl ?_
        have e123 : (wl : List (Int)) = (moduleP b s kind).1 := by (rw [moduleP_ok (by grind) ⟨by grind, by omega, by omega⟩]; rw [star_done (by omega)] at hw4; unfold moduleL; rw [if_neg (by omega)]; exact hw4)
        have e124 : (0 : Int) = (moduleP b s kind).2 := by (rw [moduleP_ok (by grind) ⟨by grind, by omega, by omega⟩])
        intro w hw
        exact ⟨_, _, [], rfl, hle99, hw.drop 2, A_wl, d_wl, (Eq.trans (congrArg (fun (z0_ : List (Int)) => (.tuple #[.slice A_wl z0_.length d_wl, .int .i64 0] : Value)) e123) (congrArg (fun (z1_ : Int) => (.tuple #[.slice A_wl ((moduleP b s kind).1).length d_wl, .int .i64 z1_] : Value)) e124)), rfl, (Eq.mp (congrArg (fun z => SlAt kInt R97 A_wl z) e123) hs94)⟩

end Go.Proofs.YtcbcdlajnmkioaaGreatDoor
