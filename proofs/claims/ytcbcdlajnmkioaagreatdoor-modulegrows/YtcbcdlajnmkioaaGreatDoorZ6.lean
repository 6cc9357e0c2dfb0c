/- A part of the proof of the statement ModuleGrows of isagogelaw19: functions walked, and plain laws on what they answer. -/
import Derived.Test.YtcbcdlajnmkioaaGreatDoorZ5
namespace Go.Proofs.YtcbcdlajnmkioaaGreatDoor
open Go Go.Proofs
set_option linter.unusedSimpArgs false
set_option linter.unusedVariables false


theorem localB_same {s t : Sig} (h1 : ∀ x, x ∈ s.concepts ↔ x ∈ t.concepts) (h2 : ∀ x, x ∈ s.roles ↔ x ∈ t.roles) (b : Base) (k : Nat) (top : Bool) : localB b k s top = localB b k t top := by
  rw [Bool.eq_iff_iff]
  exact ⟨localB_le ⟨fun x hx => (h1 x).2 hx, fun x hx => (h2 x).2 hx⟩ b k top, localB_le ⟨fun x hx => (h1 x).1 hx, fun x hx => (h2 x).1 hx⟩ b k top⟩
theorem localB_ins (s : Sig) (b : Base) (k : Nat) (top : Bool) : localB b k (Sig.mk (insAll [] s.concepts) (insAll [] s.roles)) top = localB b k s top :=
  localB_same (fun x => by rw [insAll_mem (s := [])]; simp) (fun x => by rw [insAll_mem (s := [])]; simp) b k top
/-- What module.Local answers. -/
def localP (b : Base) (k : Int) (s : Sig) (kind : Int) : Bool × Int := if baseB b = true then (if sigB b.names s = true ∧ (kind = 0 ∨ kind = 1) ∧ 0 ≤ k ∧ k < axiomsN b then (localB b k.toNat s (decide (kind = 1)), 0) else (false, 1)) else (false, 20)
theorem localP_base {b : Base} {s : Sig} {k kind : Int} (h : ¬ baseB b = true) : localP b k s kind = (false, 20) := by unfold localP; rw [if_neg h]
theorem localP_arg {b : Base} {s : Sig} {k kind : Int} (h : baseB b = true) (h2 : ¬ (sigB b.names s = true ∧ (kind = 0 ∨ kind = 1) ∧ 0 ≤ k ∧ k < axiomsN b)) : localP b k s kind = (false, 1) := by unfold localP; rw [if_pos h, if_neg h2]
theorem localP_ok {b : Base} {s : Sig} {k kind : Int} (h : baseB b = true) (h2 : sigB b.names s = true ∧ (kind = 0 ∨ kind = 1) ∧ 0 ≤ k ∧ k < axiomsN b) : localP b k s kind = (localB b k.toNat s (decide (kind = 1)), 0) := by unfold localP; rw [if_pos h, if_pos h2]
/-- What module.Names answers. -/
def namesM (b : Base) (l : List Int) : Sig × Int := if baseB b = true then (if risingB l (axiomsN b) = true then (namesP b l, 0) else (⟨[], []⟩, 1)) else (⟨[], []⟩, 20)
theorem namesM_base {b : Base} {l : List Int} (h : ¬ baseB b = true) : namesM b l = (⟨[], []⟩, 20) := by unfold namesM; rw [if_neg h]
theorem namesM_arg {b : Base} {l : List Int} (h : baseB b = true) (h2 : ¬ risingB l (axiomsN b) = true) : namesM b l = (⟨[], []⟩, 1) := by unfold namesM; rw [if_pos h, if_neg h2]
theorem namesM_ok {b : Base} {l : List Int} (h : baseB b = true) (h2 : risingB l (axiomsN b) = true) : namesM b l = (namesP b l, 0) := by unfold namesM; rw [if_pos h, if_pos h2]
theorem rising_le {b : Base} {l : List Int} (h : baseB b = true) (h2 : risingB l (axiomsN b) = true) : l.length ≤ 100 ∧ ∀ k ∈ l, 0 ≤ k ∧ k < axiomsN b := by
  have h3 := (baseB_ok h).count
  unfold risingB at h2
  rw [decide_eq_true_eq] at h2
  have := in_range_len (up_nodup h2.1) h2.2
  exact ⟨by omega, h2.2⟩

set_option maxRecDepth 20000 in
set_option maxHeartbeats 8000000 in
theorem module_Local_ok {R : RO} {G : List Res} {w : World} {c_b : List Value} (b : Base) (k : Int) {c_s : List Value} (s : Sig) (kind : Int) (hr_b : kBase.rep R b c_b) (hi_k : i64 k) (hr_s : kSig.rep R s c_s) (hi_kind : i64 kind) (hG : Glob R) (hb : s.concepts.length ≤ 1000 ∧ s.roles.length ≤ 1000) (hw : Own w R (G)) :
    Calls Tryz.prog 19 [.agg c_b.toArray, .int .i64 k, .agg c_s.toArray, .int .i64 kind].toArray w (Gives R G (.tuple #[.bool ((localP b k s kind).1), .int .i64 ((localP b k s kind).2)])) := by
  obtain ⟨c1, A3, d4, A6, d7, A9, d10, A12, d13, rfl, hr2, hs5, hs8, hs11, hs14⟩ := id hr_b
  have z27 := hs5.size
  unfold big at z27
  have z28 := hs8.size
  unfold big at z28
  have z29 := hs11.size
  unfold big at z29
  have z30 := hs14.size
  unfold big at z30
  obtain ⟨A15, d16, A19, d20, A23, d24, rfl, hs17, hs21, hs25⟩ := id hr2
  have z18 := hs17.size
  unfold big at z18
  have z22 := hs21.size
  unfold big at z22
  have z26 := hs25.size
  unfold big at z26
  unfold i64 at hi_k
  obtain ⟨A31, d32, A35, d36, rfl, hs33, hs37⟩ := id hr_s
  have z34 := hs33.size
  unfold big at z34
  have z38 := hs37.size
  unfold big at z38
  unfold i64 at hi_kind
  refine fn_enter (vs := [.agg #[.slice A15 b.names.concepts.length d16, .slice A19 b.names.roles.length d20, .slice A23 b.names.inds.length d24, .slice A3 b.incls.length d4, .slice A6 b.roles.length d7, .slice A9 b.facts.length d10, .slice A12 b.links.length d13], .int .i64 k, .agg #[.slice A31 s.concepts.length d32, .slice A35 s.roles.length d36], .int .i64 kind]) Tryz.func19 rfl rfl rfl ?_ hw
  refine tc_seq <| tc_region ?_
  refine tl_box_agg (l := [.slice A15 b.names.concepts.length d16, .slice A19 b.names.roles.length d20, .slice A23 b.names.inds.length d24, .slice A3 b.incls.length d4, .slice A6 b.roles.length d7, .slice A9 b.facts.length d10, .slice A12 b.links.length d13]) rfl rfl fun b39 => ?_
  refine tl_box_agg (l := [.slice A31 s.concepts.length d32, .slice A35 s.roles.length d36]) rfl rfl fun b40 => ?_
  refine tl (v_assign rfl) ?_
  refine tl (v_assign rfl) ?_
  refine tl_nil <| tx_then <| tc_seq <| tc_block <| tc_seq <| tc_region ?_
  refine tl (v_ld_agg 1 [.slice A15 b.names.concepts.length d16, .slice A19 b.names.roles.length d20, .slice A23 b.names.inds.length d24, .slice A3 b.incls.length d4, .slice A6 b.roles.length d7, .slice A9 b.facts.length d10, .slice A12 b.links.length d13] rfl ld30 rfl rfl) ?_
  refine tl_callv ca34 rfl (fun w hw => kb_Check_ok b hr_b (by first | assumption | omega) hw) rfl ?_
  refine tl (v_ib rfl rfl rfl) ?_
  refine tl (v_assign rfl) ?_
  refine tl_nil <| tx_then ?_
  refine tc_split 10 rfl (fun h41 => ?_) (fun h41 => ?_)
  ·
   refine tc_yes rfl ?_
   refine tc_seq <| tc_region ?_
   refine tl (v_assign rfl) ?_
   refine tl (v_assign rfl) ?_
   refine tl_nil <| tx_then <| tc_ret <| tx_blk_ret <| tx_then_ret ?_
   refine tx_ret2 (.inl rfl) rfl rfl rfl ?_
   have e42 : (false : Bool) = (localP b k s kind).1 := by (rw [localP_base (by grind)])
   have e43 : (20 : Int) = (localP b k s kind).2 := by (rw [localP_base (by grind)])
   exact fun w hw => ⟨congrArg Ending.returned (cong2 (fun x0 x1 => Value.tuple #[.bool x0, .int .i64 x1]) e42 e43), hw.drop 2⟩
  ·
   refine tc_no rfl ?_
   refine tc_cut [(0, .agg #[.slice A15 b.names.concepts.length d16, .slice A19 b.names.roles.length d20, .slice A23 b.names.inds.length d24, .slice A3 b.incls.length d4, .slice A6 b.roles.length d7, .slice A9 b.facts.length d10, .slice A12 b.links.length d13]), (1, .int .i64 k), (2, .agg #[.slice A31 s.concepts.length d32, .slice A35 s.roles.length d36]), (3, .int .i64 kind), (4, .pointer (some ⟨b39, 0, none⟩)), (6, .pointer (some ⟨b40, 0, none⟩)), (8, .bool false), (9, .int .i64 0), (10, .bool false), (14, .bool (decide (((((!(sigB b.names s)) = true) ∨ ((¬ kind = 0) ∧ (¬ kind = 1))) ∨ (k < 0)) ∨ ((axiomsN b : Int) ≤ k))))] (.blk b40 [.slice A31 s.concepts.length d32, .slice A35 s.roles.length d36] 33 :: .blk b39 [.slice A15 b.names.concepts.length d16, .slice A19 b.names.roles.length d20, .slice A23 b.names.inds.length d24, .slice A3 b.incls.length d4, .slice A6 b.roles.length d7, .slice A9 b.facts.length d10, .slice A12 b.links.length d13] 30 :: G) (fun _ => True) (fun K hK44 hE45 => ?_) ?_
   ·
    refine tc_region ?_
    refine tl (v_fieldAddr 0 rfl fo30_0 rfl) ?_
    refine tl (v_ld_agg 1 [.slice A15 b.names.concepts.length d16, .slice A19 b.names.roles.length d20, .slice A23 b.names.inds.length d24] rfl ld24 rfl rfl) ?_
    refine tl (v_ld_agg 0 [.slice A31 s.concepts.length d32, .slice A35 s.roles.length d36] rfl ld33 rfl rfl) ?_
    refine tl_callv ca35 rfl (fun w hw => module_right_ok b.names s hr2 hr_s hw) rfl ?_
    refine tl (v_neg rfl) ?_
    refine tl (v_move rfl) ?_
    refine tl_splitb 20 rfl (fun h46 => ?_) (fun h46 => ?_)
    ·
     refine tl_gskip 20 rfl rfl rfl ?_
     refine tl_gskip 20 rfl rfl rfl ?_
     refine tl_gskip 20 rfl rfl rfl ?_
     refine tl_gskipu 23 rfl rfl rfl ?_
     refine tl_gskipu 23 rfl rfl rfl ?_
     refine tl_gskip 20 rfl rfl rfl ?_
     refine tl (v_pick_t rfl rfl) ?_
     refine tl (v_move rfl) ?_
     refine tl_gskip 28 rfl rfl rfl ?_
     refine tl_gskip 28 rfl rfl rfl ?_
     refine tl (v_pick_t rfl rfl) ?_
     refine tl (v_move rfl) ?_
     refine tl_gskip 32 rfl rfl rfl ?_
     refine tl_gskip 32 rfl rfl rfl ?_
     refine tl_gskip 32 rfl rfl rfl ?_
     refine tl_gskip 32 rfl rfl rfl ?_
     refine tl (v_pick_t rfl rfl) ?_
     refine tl (v_assign rfl) ?_
     refine tl_nil ?_
     exact tx_cut hK44 (.refl _) (trivial) ⟨rfl, rfl, rfl, rfl, rfl, rfl, rfl, rfl, rfl, show some (Value.bool true) = some (Value.bool (decide (((((!(sigB b.names s)) = true) ∨ ((¬ kind = 0) ∧ (¬ kind = 1))) ∨ (k < 0)) ∨ ((axiomsN b : Int) ≤ k)))) by first | (simp [h46]; done) | grind | (simp [h46] <;> omega), trivial⟩ (fun w hw => hw)
    ·
     refine tl_grun 20 rfl rfl ?_
     refine tl (v_move rfl) ?_
     refine tl_grun 20 rfl rfl ?_
     refine tl (v_ib rfl rfl rfl) ?_
     refine tl_grun 20 rfl rfl ?_
     refine tl (v_move rfl) ?_
     refine tl_split 23 rfl (fun h47 => ?_) (fun h47 => ?_)
     ·
      refine tl_grun 23 rfl rfl ?_
      refine tl (v_move rfl) ?_
      refine tl_grun 23 rfl rfl ?_
      refine tl (v_ib rfl rfl rfl) ?_
      refine tl_grun 20 rfl rfl ?_
      refine tl (v_pick_t rfl rfl) ?_
      refine tl (v_pick_f rfl rfl) ?_
      refine tl (v_move rfl) ?_
      refine tl_split 28 rfl (fun h48 => ?_) (fun h48 => ?_)
      ·
       refine tl_gskip 28 rfl rfl rfl ?_
       refine tl_gskip 28 rfl rfl rfl ?_
       refine tl (v_pick_t rfl rfl) ?_
       refine tl (v_move rfl) ?_
       refine tl_gskip 32 rfl rfl rfl ?_
       refine tl_gskip 32 rfl rfl rfl ?_
       refine tl_gskip 32 rfl rfl rfl ?_
       refine tl_gskip 32 rfl rfl rfl ?_
       refine tl (v_pick_t rfl rfl) ?_
       refine tl (v_assign rfl) ?_
       refine tl_nil ?_
       exact tx_cut hK44 (.refl _) (trivial) ⟨rfl, rfl, rfl, rfl, rfl, rfl, rfl, rfl, rfl, show some (Value.bool true) = some (Value.bool (decide (((((!(sigB b.names s)) = true) ∨ ((¬ kind = 0) ∧ (¬ kind = 1))) ∨ (k < 0)) ∨ ((axiomsN b : Int) ≤ k)))) by first | (simp [h46, h47, h48]; done) | grind | (simp [h46, h47, h48] <;> omega), trivial⟩ (fun w hw => hw)
      ·
       refine tl_grun 28 rfl rfl ?_
       refine tl (v_move rfl) ?_
       refine tl_grun 28 rfl rfl ?_
       refine tl (v_ib rfl rfl rfl) ?_
       refine tl (v_pick_f rfl rfl) ?_
       refine tl (v_move rfl) ?_
       refine tl_split 32 rfl (fun h49 => ?_) (fun h49 => ?_)
       ·
        refine tl_gskip 32 rfl rfl rfl ?_
        refine tl_gskip 32 rfl rfl rfl ?_
        refine tl_gskip 32 rfl rfl rfl ?_
        refine tl_gskip 32 rfl rfl rfl ?_
        refine tl (v_pick_t rfl rfl) ?_
        refine tl (v_assign rfl) ?_
        refine tl_nil ?_
        exact tx_cut hK44 (.refl _) (trivial) ⟨rfl, rfl, rfl, rfl, rfl, rfl, rfl, rfl, rfl, show some (Value.bool true) = some (Value.bool (decide (((((!(sigB b.names s)) = true) ∨ ((¬ kind = 0) ∧ (¬ kind = 1))) ∨ (k < 0)) ∨ ((axiomsN b : Int) ≤ k)))) by first | (simp [h46, h47, h48, h49]; done) | grind | (simp [h46, h47, h48, h49] <;> omega), trivial⟩ (fun w hw => hw)
       ·
        refine tl_grun 32 rfl rfl ?_
        refine tl (v_move rfl) ?_
        refine tl_grun 32 rfl rfl ?_
        refine tl (v_ld_agg 1 [.slice A15 b.names.concepts.length d16, .slice A19 b.names.roles.length d20, .slice A23 b.names.inds.length d24, .slice A3 b.incls.length d4, .slice A6 b.roles.length d7, .slice A9 b.facts.length d10, .slice A12 b.links.length d13] rfl ld30 rfl rfl) ?_
        refine tl_grun 32 rfl rfl ?_
        refine tl_callv ca36 rfl (fun w hw => kb_Count_ok b hr_b hw) rfl ?_
        refine tl_grun 32 rfl rfl ?_
        refine tl (v_ib rfl rfl rfl) ?_
        refine tl (v_pick_f rfl rfl) ?_
        refine tl (v_assign rfl) ?_
        refine tl_nil ?_
        exact tx_cut hK44 (.refl _) (trivial) ⟨rfl, rfl, rfl, rfl, rfl, rfl, rfl, rfl, rfl, show some (Value.bool (decide ((axiomsN b : Int) ≤ k))) = some (Value.bool (decide (((((!(sigB b.names s)) = true) ∨ ((¬ kind = 0) ∧ (¬ kind = 1))) ∨ (k < 0)) ∨ ((axiomsN b : Int) ≤ k)))) by first | (simp [h46, h47, h48, h49]; done) | grind | (simp [h46, h47, h48, h49] <;> omega), trivial⟩ (fun w hw => hw)
     ·
      refine tl_gskip 23 rfl rfl rfl ?_
      refine tl_gskip 23 rfl rfl rfl ?_
      refine tl_grun 20 rfl rfl ?_
      refine tl (v_pick_f rfl rfl) ?_
      refine tl (v_pick_f rfl rfl) ?_
      refine tl (v_move rfl) ?_
      refine tl_grun 28 rfl rfl ?_
      refine tl (v_move rfl) ?_
      refine tl_grun 28 rfl rfl ?_
      refine tl (v_ib rfl rfl rfl) ?_
      refine tl (v_pick_f rfl rfl) ?_
      refine tl (v_move rfl) ?_
      refine tl_split 32 rfl (fun h50 => ?_) (fun h50 => ?_)
      ·
       refine tl_gskip 32 rfl rfl rfl ?_
       refine tl_gskip 32 rfl rfl rfl ?_
       refine tl_gskip 32 rfl rfl rfl ?_
       refine tl_gskip 32 rfl rfl rfl ?_
       refine tl (v_pick_t rfl rfl) ?_
       refine tl (v_assign rfl) ?_
       refine tl_nil ?_
       exact tx_cut hK44 (.refl _) (trivial) ⟨rfl, rfl, rfl, rfl, rfl, rfl, rfl, rfl, rfl, show some (Value.bool true) = some (Value.bool (decide (((((!(sigB b.names s)) = true) ∨ ((¬ kind = 0) ∧ (¬ kind = 1))) ∨ (k < 0)) ∨ ((axiomsN b : Int) ≤ k)))) by first | (simp [h46, h47, h50]; done) | grind | (simp [h46, h47, h50] <;> omega), trivial⟩ (fun w hw => hw)
      ·
       refine tl_grun 32 rfl rfl ?_
       refine tl (v_move rfl) ?_
       refine tl_grun 32 rfl rfl ?_
       refine tl (v_ld_agg 1 [.slice A15 b.names.concepts.length d16, .slice A19 b.names.roles.length d20, .slice A23 b.names.inds.length d24, .slice A3 b.incls.length d4, .slice A6 b.roles.length d7, .slice A9 b.facts.length d10, .slice A12 b.links.length d13] rfl ld30 rfl rfl) ?_
       refine tl_grun 32 rfl rfl ?_
       refine tl_callv ca36 rfl (fun w hw => kb_Count_ok b hr_b hw) rfl ?_
       refine tl_grun 32 rfl rfl ?_
       refine tl (v_ib rfl rfl rfl) ?_
       refine tl (v_pick_f rfl rfl) ?_
       refine tl (v_assign rfl) ?_
       refine tl_nil ?_
       exact tx_cut hK44 (.refl _) (trivial) ⟨rfl, rfl, rfl, rfl, rfl, rfl, rfl, rfl, rfl, show some (Value.bool (decide ((axiomsN b : Int) ≤ k))) = some (Value.bool (decide (((((!(sigB b.names s)) = true) ∨ ((¬ kind = 0) ∧ (¬ kind = 1))) ∨ (k < 0)) ∨ ((axiomsN b : Int) ≤ k)))) by first | (simp [h46, h47, h50]; done) | grind | (simp [h46, h47, h50] <;> omega), trivial⟩ (fun w hw => hw)
   ·
    refine fun R52 hle53 hj51 => tc_weaken hle53 ?_
    refine tc_split 14 rfl (fun h54 => ?_) (fun h54 => ?_)
    ·
     refine tc_yes rfl ?_
     refine tc_seq <| tc_region ?_
     refine tl (v_assign rfl) ?_
     refine tl (v_assign rfl) ?_
     refine tl_nil <| tx_then <| tc_ret <| tx_blk_ret <| tx_then_ret ?_
     refine tx_ret2 (.inl rfl) rfl rfl rfl ?_
     have e55 : (false : Bool) = (localP b k s kind).1 := by (rw [localP_arg (by grind) (by grind)])
     have e56 : (1 : Int) = (localP b k s kind).2 := by (rw [localP_arg (by grind) (by grind)])
     exact fun w hw => ⟨congrArg Ending.returned (cong2 (fun x0 x1 => Value.tuple #[.bool x0, .int .i64 x1]) e55 e56), hw.drop 2⟩
    ·
     refine tc_no rfl ?_
     refine tc_skip <| tx_blk <| tx_then <| tc_seq ?_
     refine tc_draw R (.blk b40 [.slice A31 s.concepts.length d32, .slice A35 s.roles.length d36] 33 :: .blk b39 [.slice A15 b.names.concepts.length d16, .slice A19 b.names.roles.length d20, .slice A23 b.names.inds.length d24, .slice A3 b.incls.length d4, .slice A6 b.roles.length d7, .slice A9 b.facts.length d10, .slice A12 b.links.length d13] 30 :: G) 8 mixed ?_
     refine td 0 rfl (by kernel_rfl) (v_ld_agg 0 [.slice A31 s.concepts.length d32, .slice A35 s.roles.length d36] rfl ld33 rfl rfl) (fun w hw => hw) ?_
     refine td 1 rfl (by kernel_rfl) (v_move rfl) (fun w hw => hw) ?_
     refine td 3 rfl (by kernel_rfl) (v_ld_agg 1 [.slice A15 b.names.concepts.length d16, .slice A19 b.names.roles.length d20, .slice A23 b.names.inds.length d24, .slice A3 b.incls.length d4, .slice A6 b.roles.length d7, .slice A9 b.facts.length d10, .slice A12 b.links.length d13] rfl ld30 rfl rfl) (fun w hw => hw) ?_
     refine td 4 rfl (by kernel_rfl) (v_move rfl) (fun w hw => hw) ?_
     refine td1 2 (by kernel_rfl) rfl ?_
     refine tl_callo ca45 rfl (fun w hw => module_judgeOf_ok s kind hr_s (by unfold i64; omega) (by omega) hw) rfl ?_
     rintro _ R61 _ hle62 ⟨b57, b58, b59, rfl, rfl, hh60⟩
     try replace hr_b := kBase.mono _ _ _ _ hle62 hr_b
     try replace hG := hG.mono hle62
     refine tl_nil ?_
     refine tx_td (fun w hw => (hw.drop 2).weaken hle62) ?_
     refine td1 5 (by kernel_rfl) rfl ?_
     refine tl_callv ca46 rfl (fun w hw => module_judge_local_ok (decide (kind = 1)) (insAll [] s.concepts) (insAll [] s.roles) b k (.head _) (.tail _ (.head _)) hh60 hr_b (by unfold i64; omega) (by first | exact baseB_ok (by grind) | grind) (by first | exact baseB_ok (by grind) | grind) hw) rfl ?_
     refine tl_nil ?_
     refine tx_td (fun w hw => (hw.drop 2).weaken hle62) ?_
     refine td 6 rfl (by kernel_rfl) (v_assign rfl) (fun w hw => (hw.drop 2).weaken hle62) ?_
     refine td 7 rfl (by kernel_rfl) (v_assign rfl) (fun w hw => (hw.drop 2).weaken hle62) ?_
     refine td_done (by kernel_rfl) ?_
     refine tx_then <| tc_ret ?_
     refine tx_ret2 (.inl rfl) rfl rfl rfl ?_
     have e63 : (localB b k.toNat (Sig.mk (insAll [] s.concepts) (insAll [] s.roles)) (decide (kind = 1)) : Bool) = (localP b k s kind).1 := by (rw [localP_ok (by grind) ⟨by grind, by omega, by omega, by omega⟩, localB_ins])
     have e64 : (0 : Int) = (localP b k s kind).2 := by (rw [localP_ok (by grind) ⟨by grind, by omega, by omega, by omega⟩])
     exact fun w hw => ⟨congrArg Ending.returned (cong2 (fun x0 x1 => Value.tuple #[.bool x0, .int .i64 x1]) e63 e64), (hw.drop 4).weaken hle62⟩

set_option maxRecDepth 20000 in
set_option maxHeartbeats 8000000 in
theorem module_Names_ok {R : RO} {G : List Res} {w : World} {c_b : List Value} (b : Base) {A_l : Option Addr} {d_l : Nat} (l : List (Int)) (hr_b : kBase.rep R b c_b) (hs_l : SlAt kInt R A_l l) (hG : Glob R) (hw : Own w R (G)) :
    Calls Tryz.prog 22 [.agg c_b.toArray, .slice A_l l.length d_l].toArray w (RetO R G (fun v_ R' L_ => ∃ (cs_0 : List Value), v_ = (.tuple #[.agg cs_0.toArray, .int .i64 ((namesM b l).2)] : Value) ∧ L_ = ([] : List Res) ∧ kSig.rep R' ((namesM b l).1) cs_0)) := by
  obtain ⟨c1, A3, d4, A6, d7, A9, d10, A12, d13, rfl, hr2, hs5, hs8, hs11, hs14⟩ := id hr_b
  have z27 := hs5.size
  unfold big at z27
  have z28 := hs8.size
  unfold big at z28
  have z29 := hs11.size
  unfold big at z29
  have z30 := hs14.size
  unfold big at z30
  obtain ⟨A15, d16, A19, d20, A23, d24, rfl, hs17, hs21, hs25⟩ := id hr2
  have z18 := hs17.size
  unfold big at z18
  have z22 := hs21.size
  unfold big at z22
  have z26 := hs25.size
  unfold big at z26
  have hz_l := hs_l.size
  unfold big at hz_l
  have hax : axiomsN b ≤ 4 * 140737488355328 := by unfold axiomsN; omega
  refine fn_enter (vs := [.agg #[.slice A15 b.names.concepts.length d16, .slice A19 b.names.roles.length d20, .slice A23 b.names.inds.length d24, .slice A3 b.incls.length d4, .slice A6 b.roles.length d7, .slice A9 b.facts.length d10, .slice A12 b.links.length d13], .slice A_l l.length d_l]) Tryz.func22 rfl rfl rfl ?_ hw
  refine tc_seq <| tc_region ?_
  refine tl_box_agg (l := [.slice A15 b.names.concepts.length d16, .slice A19 b.names.roles.length d20, .slice A23 b.names.inds.length d24, .slice A3 b.incls.length d4, .slice A6 b.roles.length d7, .slice A9 b.facts.length d10, .slice A12 b.links.length d13]) rfl rfl fun b31 => ?_
  refine tl_alloc zc33 rfl fun b32 => ?_
  refine tl (v_assign rfl) ?_
  refine tl_nil <| tx_then <| tc_seq <| tc_block <| tc_seq <| tc_region ?_
  refine tl (v_ld_agg 1 [.slice A15 b.names.concepts.length d16, .slice A19 b.names.roles.length d20, .slice A23 b.names.inds.length d24, .slice A3 b.incls.length d4, .slice A6 b.roles.length d7, .slice A9 b.facts.length d10, .slice A12 b.links.length d13] rfl ld30 rfl rfl) ?_
  refine tl_callv ca34 rfl (fun w hw => kb_Check_ok b hr_b (by first | assumption | omega) hw) rfl ?_
  refine tl (v_ib rfl rfl rfl) ?_
  refine tl (v_assign rfl) ?_
  refine tl_nil <| tx_then ?_
  refine tc_split 6 rfl (fun h33 => ?_) (fun h33 => ?_)
  ·
   refine tc_yes rfl ?_
   refine tc_seq <| tc_region ?_
   refine tl (v_build [.slice none 0 0, .slice none 0 0] zc33 pl33 rfl rfl) ?_
   refine tl_st 0 [.slice none 0 0, .slice none 0 0] rfl rfl ld33 rfl rfl rfl rfl rfl rfl ?_
   refine tl (v_assign rfl) ?_
   refine tl_nil <| tx_then <| tc_ret <| tx_blk_ret <| tx_then_ret ?_
   refine tx_retct (cells := [.slice none 0 0, .slice none 0 0]) 0 (.inl rfl) rfl rfl rfl ld33 rfl ?_
   have e34 : ((Sig.mk ([] : List (Int)) ([] : List (Int))) : Sig) = (namesM b l).1 := by (rw [namesM_base (by grind)])
   have e35 : (20 : Int) = (namesM b l).2 := by (rw [namesM_base (by grind)])
   intro w hw
   exact ⟨_, _, [], rfl, .refl _, hw.drop 2, ([.slice none 0 0, .slice none 0 0]), (congrArg (fun (z1_ : Int) => (.tuple #[.agg #[.slice none 0 0, .slice none 0 0], .int .i64 z1_] : Value)) e35), rfl, (Eq.mp (congrArg (fun z => kSig.rep R z [.slice none 0 0, .slice none 0 0]) e34) ⟨_, _, _, _, rfl, (SlAt.nil _ _ _), (SlAt.nil _ _ _)⟩)⟩
  ·
   refine tc_no rfl ?_
   refine tc_seq <| tc_region ?_
   refine tl (v_move rfl) ?_
   refine tl (v_ld_agg 1 [.slice A15 b.names.concepts.length d16, .slice A19 b.names.roles.length d20, .slice A23 b.names.inds.length d24, .slice A3 b.incls.length d4, .slice A6 b.roles.length d7, .slice A9 b.facts.length d10, .slice A12 b.links.length d13] rfl ld30 rfl rfl) ?_
   refine tl_callv ca36 rfl (fun w hw => kb_Count_ok b hr_b hw) rfl ?_
   refine tl_callv ca52 rfl (fun w hw => kb_Rising_ok l (axiomsN b : Int) hs_l (by unfold i64; omega) hw) rfl ?_
   refine tl (v_neg rfl) ?_
   refine tl (v_assign rfl) ?_
   refine tl_nil <| tx_then ?_
   refine tc_splitb 11 rfl (fun h36 => ?_) (fun h36 => ?_)
   ·
    refine tc_yes rfl ?_
    refine tc_seq <| tc_region ?_
    refine tl (v_build [.slice none 0 0, .slice none 0 0] zc33 pl33 rfl rfl) ?_
    refine tl_st 0 [.slice none 0 0, .slice none 0 0] rfl rfl ld33 rfl rfl rfl rfl rfl rfl ?_
    refine tl (v_assign rfl) ?_
    refine tl_nil <| tx_then <| tc_ret <| tx_blk_ret <| tx_then_ret ?_
    refine tx_retct (cells := [.slice none 0 0, .slice none 0 0]) 0 (.inl rfl) rfl rfl rfl ld33 rfl ?_
    have e37 : ((Sig.mk ([] : List (Int)) ([] : List (Int))) : Sig) = (namesM b l).1 := by (rw [namesM_arg (by grind) (by grind)])
    have e38 : (1 : Int) = (namesM b l).2 := by (rw [namesM_arg (by grind) (by grind)])
    intro w hw
    exact ⟨_, _, [], rfl, .refl _, hw.drop 2, ([.slice none 0 0, .slice none 0 0]), (congrArg (fun (z1_ : Int) => (.tuple #[.agg #[.slice none 0 0, .slice none 0 0], .int .i64 z1_] : Value)) e38), rfl, (Eq.mp (congrArg (fun z => kSig.rep R z [.slice none 0 0, .slice none 0 0]) e37) ⟨_, _, _, _, rfl, (SlAt.nil _ _ _), (SlAt.nil _ _ _)⟩)⟩
   ·
    refine tc_no rfl ?_
    refine tc_skip <| tx_blk <| tx_then <| tc_seq <| tc_region ?_
    refine tl (v_ld_agg 1 [.slice A15 b.names.concepts.length d16, .slice A19 b.names.roles.length d20, .slice A23 b.names.inds.length d24, .slice A3 b.incls.length d4, .slice A6 b.roles.length d7, .slice A9 b.facts.length d10, .slice A12 b.links.length d13] rfl ld30 rfl rfl) ?_
    refine tl (v_move rfl) ?_
    refine tl_callo ca53 rfl (fun w hw => module_names_ok b l hr_b hs_l (by first | assumption | exact baseB_ok (by grind) | exact rising_le (by grind) (by grind)) (by first | assumption | exact baseB_ok (by grind) | exact rising_le (by grind) (by grind)) (by first | assumption | exact baseB_ok (by grind) | exact rising_le (by grind) (by grind)) hw) rfl ?_
    rintro _ R40 _ hle41 ⟨cs_z39_0, rfl, rfl, hr_z39_0⟩
    try replace hG := hG.mono hle41
    obtain ⟨A42, d43, A46, d47, rfl, hs44, hs48⟩ := id hr_z39_0
    have z45 := hs44.size
    unfold big at z45
    have z49 := hs48.size
    unfold big at z49
    refine tl_st 0 [.slice A42 (((namesP b l).concepts).length) d43, .slice A46 (((namesP b l).roles).length) d47] rfl rfl ld33 rfl rfl rfl rfl rfl rfl ?_
    refine tl (v_assign rfl) ?_
    refine tl_nil <| tx_then <| tc_ret ?_
    refine tx_retct (cells := [.slice A42 (((namesP b l).concepts).length) d43, .slice A46 (((namesP b l).roles).length) d47]) 0 (.inl rfl) rfl rfl rfl ld33 rfl ?_
    have e50 : ((namesP b l) : Sig) = (namesM b l).1 := by (rw [namesM_ok (by grind) (by grind)])
    have e51 : (0 : Int) = (namesM b l).2 := by (rw [namesM_ok (by grind) (by grind)])
    intro w hw
    exact ⟨_, _, [], rfl, hle41, hw.drop 2, ([.slice A42 (((namesP b l).concepts).length) d43, .slice A46 (((namesP b l).roles).length) d47]), (congrArg (fun (z1_ : Int) => (.tuple #[.agg #[.slice A42 (((namesP b l).concepts).length) d43, .slice A46 (((namesP b l).roles).length) d47], .int .i64 z1_] : Value)) e51), rfl, (Eq.mp (congrArg (fun z => kSig.rep R40 z [.slice A42 (((namesP b l).concepts).length) d43, .slice A46 (((namesP b l).roles).length) d47]) e50) hr_z39_0)⟩

end Go.Proofs.YtcbcdlajnmkioaaGreatDoor
