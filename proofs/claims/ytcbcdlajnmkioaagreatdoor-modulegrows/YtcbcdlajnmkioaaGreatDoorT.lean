/- A part of the proof of the statement ModuleGrows of isagogelaw19: functions walked, and plain laws on what they answer. -/
import Derived.Test.YtcbcdlajnmkioaaGreatDoorS
namespace Go.Proofs.YtcbcdlajnmkioaaGreatDoor
open Go Go.Proofs
set_option linter.unusedSimpArgs false
set_option linter.unusedVariables false
theorem ca36 : Callable Tryz.prog 36 := ⟨by kernel_rfl⟩
theorem ca66 : Callable Tryz.prog 66 := ⟨by kernel_rfl⟩
theorem ca82 : Callable Tryz.prog 82 := ⟨by kernel_rfl⟩
theorem ca83 : Callable Tryz.prog 83 := ⟨by kernel_rfl⟩

set_option maxRecDepth 20000 in
set_option maxHeartbeats 8000000 in
theorem kb_Valid_1_ok {R : RO} {G : List Res} {w : World} (r : Int) {b_b : Nat} {c_b : List Value} (b : Base) (hi_r : i64 r) (hr_b : kBase.rep R b c_b) (hm_b : Res.blk b_b c_b 30 ∈ G) (hw : Own w R (G)) :
    Calls Tryz.prog 82 [.int .i64 r, .pointer (some ⟨b_b, 0, none⟩)].toArray w (Gives R G (.bool (decide (okR b.names r)))) := by
  unfold i64 at hi_r
  obtain ⟨c1, A3, d4, A6, d7, A9, d10, A12, d13, rfl, hr2, hs5, hs8, hs11, hs14⟩ := id hr_b
  have z27 := hs5.size
  unfold big at z27
  have z28 := hs8.size
  unfold big at z28
  have z29 := hs11.size
  unfold big at z29
  have z30 := hs14.size
  unfold big at z30
  obtain ⟨A15, d16, A19, d20, A23, d24, rfl, hs17, hs21, hs25⟩ := id hr2
  have z18 := hs17.size
  unfold big at z18
  have z22 := hs21.size
  unfold big at z22
  have z26 := hs25.size
  unfold big at z26
  refine fn_enter (vs := [.int .i64 r, .pointer (some ⟨b_b, 0, none⟩)]) Tryz.func82 rfl rfl rfl ?_ hw
  refine tc_seq <| tc_region ?_
  refine tl (v_assign rfl) ?_
  refine tl_nil <| tx_then ?_
  refine tc_cut [(3, .bool (decide ((0 ≤ r) ∧ (r < (2 * (b.names.roles.length : Int))))))] (G) (fun _ => True) (fun K hK31 hE32 => ?_) ?_
  ·
   refine tc_region ?_
   refine tl (v_move rfl) ?_
   refine tl (v_ib rfl rfl rfl) ?_
   refine tl (v_move rfl) ?_
   refine tl_split 6 rfl (fun h33 => ?_) (fun h33 => ?_)
   ·
    refine tl_grun 6 rfl rfl ?_
    refine tl (v_move rfl) ?_
    refine tl_grun 6 rfl rfl ?_
    refine tl (v_fieldAddr 0 rfl fo30_0 rfl) ?_
    refine tl_grun 6 rfl rfl ?_
    refine tl (v_fieldAddr 1 rfl fo24_1 rfl) ?_
    refine tl_grun 6 rfl rfl ?_
    refine tl (mem_ld hm_b rfl ld22 rfl) ?_
    refine tl_grun 6 rfl rfl ?_
    refine tl (v_len rfl sl22) ?_
    refine tl_grun 6 rfl rfl ?_
    refine tl (v_mul rfl rfl (by omega) (by omega)) ?_
    refine tl_grun 6 rfl rfl ?_
    refine tl (v_ib rfl rfl rfl) ?_
    refine tl (v_pick_t rfl rfl) ?_
    refine tl (v_assign rfl) ?_
    refine tl_nil ?_
    exact tx_cut hK31 (.refl _) (trivial) ⟨show some (Value.bool (decide (r < (2 * (b.names.roles.length : Int))))) = some (Value.bool (decide ((0 ≤ r) ∧ (r < (2 * (b.names.roles.length : Int)))))) by first | (simp [h33]; done) | grind | (simp [h33] <;> omega), trivial⟩ (fun w hw => hw)
   ·
    refine tl_gskip 6 rfl rfl rfl ?_
    refine tl_gskip 6 rfl rfl rfl ?_
    refine tl_gskip 6 rfl rfl rfl ?_
    refine tl_gskip 6 rfl rfl rfl ?_
    refine tl_gskip 6 rfl rfl rfl ?_
    refine tl_gskip 6 rfl rfl rfl ?_
    refine tl_gskip 6 rfl rfl rfl ?_
    refine tl (v_pick_f rfl rfl) ?_
    refine tl (v_assign rfl) ?_
    refine tl_nil ?_
    exact tx_cut hK31 (.refl _) (trivial) ⟨show some (Value.bool false) = some (Value.bool (decide ((0 ≤ r) ∧ (r < (2 * (b.names.roles.length : Int)))))) by first | (simp [h33]; done) | grind | (simp [h33] <;> omega), trivial⟩ (fun w hw => hw)
  ·
   refine fun R35 hle36 hj34 => tc_weaken hle36 ?_
   refine tc_ret ?_
   refine tx_ret1 (.inl rfl) rfl rfl ?_
   have e37 : (decide ((0 ≤ r) ∧ (r < (2 * (b.names.roles.length : Int)))) : Bool) = decide (okR b.names r) := by first | (rw [Bool.eq_iff_iff]; simp only [okR, decide_eq_true_eq, Bool.false_eq_true, false_iff]; omega) | (simp only [okR]; grind)
   exact fun w hw => ⟨congrArg Ending.returned (congrArg (fun x0 => Value.bool x0) e37), hw⟩

set_option maxRecDepth 20000 in
set_option maxHeartbeats 8000000 in
theorem kb_Valid_2_ok {R : RO} {G : List Res} {w : World} (r : Int) {b_b : Nat} {c_b : List Value} (b : Base) (hi_r : i64 r) (hr_b : kBase.rep R b c_b) (hm_b : Res.blk b_b c_b 30 ∈ G) (hw : Own w R (G)) :
    Calls Tryz.prog 83 [.int .i64 r, .pointer (some ⟨b_b, 0, none⟩)].toArray w (Gives R G (.bool (decide (okI b.names r)))) := by
  unfold i64 at hi_r
  obtain ⟨c1, A3, d4, A6, d7, A9, d10, A12, d13, rfl, hr2, hs5, hs8, hs11, hs14⟩ := id hr_b
  have z27 := hs5.size
  unfold big at z27
  have z28 := hs8.size
  unfold big at z28
  have z29 := hs11.size
  unfold big at z29
  have z30 := hs14.size
  unfold big at z30
  obtain ⟨A15, d16, A19, d20, A23, d24, rfl, hs17, hs21, hs25⟩ := id hr2
  have z18 := hs17.size
  unfold big at z18
  have z22 := hs21.size
  unfold big at z22
  have z26 := hs25.size
  unfold big at z26
  refine fn_enter (vs := [.int .i64 r, .pointer (some ⟨b_b, 0, none⟩)]) Tryz.func83 rfl rfl rfl ?_ hw
  refine tc_seq <| tc_region ?_
  refine tl (v_assign rfl) ?_
  refine tl_nil <| tx_then ?_
  refine tc_cut [(3, .bool (decide ((0 ≤ r) ∧ (r < (b.names.inds.length : Int)))))] (G) (fun _ => True) (fun K hK31 hE32 => ?_) ?_
  ·
   refine tc_region ?_
   refine tl (v_move rfl) ?_
   refine tl (v_ib rfl rfl rfl) ?_
   refine tl (v_move rfl) ?_
   refine tl_split 6 rfl (fun h33 => ?_) (fun h33 => ?_)
   ·
    refine tl_grun 6 rfl rfl ?_
    refine tl (v_move rfl) ?_
    refine tl_grun 6 rfl rfl ?_
    refine tl (v_fieldAddr 0 rfl fo30_0 rfl) ?_
    refine tl_grun 6 rfl rfl ?_
    refine tl (v_fieldAddr 2 rfl fo24_2 rfl) ?_
    refine tl_grun 6 rfl rfl ?_
    refine tl (mem_ld hm_b rfl ld22 rfl) ?_
    refine tl_grun 6 rfl rfl ?_
    refine tl (v_len rfl sl22) ?_
    refine tl_grun 6 rfl rfl ?_
    refine tl (v_ib rfl rfl rfl) ?_
    refine tl (v_pick_t rfl rfl) ?_
    refine tl (v_assign rfl) ?_
    refine tl_nil ?_
    exact tx_cut hK31 (.refl _) (trivial) ⟨show some (Value.bool (decide (r < (b.names.inds.length : Int)))) = some (Value.bool (decide ((0 ≤ r) ∧ (r < (b.names.inds.length : Int))))) by first | (simp [h33]; done) | grind | (simp [h33] <;> omega), trivial⟩ (fun w hw => hw)
   ·
    refine tl_gskip 6 rfl rfl rfl ?_
    refine tl_gskip 6 rfl rfl rfl ?_
    refine tl_gskip 6 rfl rfl rfl ?_
    refine tl_gskip 6 rfl rfl rfl ?_
    refine tl_gskip 6 rfl rfl rfl ?_
    refine tl_gskip 6 rfl rfl rfl ?_
    refine tl (v_pick_f rfl rfl) ?_
    refine tl (v_assign rfl) ?_
    refine tl_nil ?_
    exact tx_cut hK31 (.refl _) (trivial) ⟨show some (Value.bool false) = some (Value.bool (decide ((0 ≤ r) ∧ (r < (b.names.inds.length : Int))))) by first | (simp [h33]; done) | grind | (simp [h33] <;> omega), trivial⟩ (fun w hw => hw)
  ·
   refine fun R35 hle36 hj34 => tc_weaken hle36 ?_
   refine tc_ret ?_
   refine tx_ret1 (.inl rfl) rfl rfl ?_
   have e37 : (decide ((0 ≤ r) ∧ (r < (b.names.inds.length : Int))) : Bool) = decide (okI b.names r) := by first | (rw [Bool.eq_iff_iff]; simp only [okI, decide_eq_true_eq, Bool.false_eq_true, false_iff]; omega) | (simp only [okI]; grind)
   exact fun w hw => ⟨congrArg Ending.returned (congrArg (fun x0 => Value.bool x0) e37), hw⟩

theorem link_wrap {n : Names} (x : Link) (h : n.roles.length ≤ 140737488355328) (h0 : 0 ≤ x.role) (h1 : x.role < n.roles.length) : okR n (IntKind.i64.wrap (2 * x.role)) := by
  rw [wrap_in (by omega) (by omega)]; exact ⟨by omega, by omega⟩
theorem inclsC_pre {l : List Incl} {i : Nat} {x : Incl} (h : l[i]? = some x) : nodesL (inclsC (l.take i)) + nodesC x.sub + nodesC x.sup ≤ nodesL (inclsC l) := by
  have e : l = l.take i ++ x :: l.drop (i + 1) := by
    obtain ⟨hi, rfl⟩ := List.getElem?_eq_some_iff.1 h
    rw [← List.drop_eq_getElem_cons hi, List.take_append_drop]
  have : inclsC l = inclsC (l.take i) ++ (x.sub :: x.sup :: inclsC (l.drop (i + 1))) := by
    conv => lhs; rw [e]
    simp [inclsC]
  rw [this, nodesL_append]; simp only [nodesL]; omega
theorem factsC_pre {l : List Fact} {i : Nat} {x : Fact} (h : l[i]? = some x) : nodesL (factsC (l.take i)) + nodesC x.con ≤ nodesL (factsC l) := by
  have e : l = l.take i ++ x :: l.drop (i + 1) := by
    obtain ⟨hi, rfl⟩ := List.getElem?_eq_some_iff.1 h
    rw [← List.drop_eq_getElem_cons hi, List.take_append_drop]
  have : factsC l = factsC (l.take i) ++ (x.con :: factsC (l.drop (i + 1))) := by
    conv => lhs; rw [e]
    simp [factsC]
  rw [this, nodesL_append]; simp only [nodesL]; omega
/-- A concept that passes with m nodes left, and one that does not. -/
theorem valP_t {n : Names} {c : Concept} {m : Int} (h : (valP n c m 1).1 = true) (h0 : 0 ≤ m) (h1 : m ≤ 400) : okC n c ∧ (valP n c m 1).2 = m - nodesC c ∧ 0 ≤ (valP n c m 1).2 := by
  have ⟨a, b, d, e⟩ := valP_iff n c m 1 h0
  have k := a.1 h
  have := b h
  exact ⟨⟨by omega, by omega, k.2.2⟩, this, by omega⟩
theorem valP_f {n : Names} {c : Concept} {m : Int} (h : (valP n c m 1).1 = false) (h0 : 0 ≤ m) (hc : okC n c) : m < nodesC c := by
  have ⟨a, b, d, e⟩ := valP_iff n c m 1 h0
  rcases Int.lt_or_le m (nodesC c) with k | k
  · exact k
  · have := a.2 ⟨k, by have := hc.2.1; omega, hc.2.2⟩
    rw [h] at this; cases this
theorem nodes_split (b : Base) : nodesL (conceptsB b) = nodesL (inclsC b.incls) + nodesL (factsC b.facts) := nodesL_append _ _

set_option maxRecDepth 20000 in
set_option maxHeartbeats 8000000 in
theorem kb_Valid_ok {R : RO} {G : List Res} {w : World} {c_b : List Value} (b : Base) (hr_b : kBase.rep R b c_b) (hG : Glob R) (hw : Own w R (G)) :
    Calls Tryz.prog 66 [.agg c_b.toArray].toArray w (Gives R G (.bool (baseB b))) := by
  obtain ⟨c1, A3, d4, A6, d7, A9, d10, A12, d13, rfl, hr2, hs5, hs8, hs11, hs14⟩ := id hr_b
  have z27 := hs5.size
  unfold big at z27
  have z28 := hs8.size
  unfold big at z28
  have z29 := hs11.size
  unfold big at z29
  have z30 := hs14.size
  unfold big at z30
  obtain ⟨A15, d16, A19, d20, A23, d24, rfl, hs17, hs21, hs25⟩ := id hr2
  have z18 := hs17.size
  unfold big at z18
  have z22 := hs21.size
  unfold big at z22
  have z26 := hs25.size
  unfold big at z26
  have hn60 : 0 ≤ 0 := Nat.le_refl 0
  refine fn_enter (vs := [.agg #[.slice A15 b.names.concepts.length d16, .slice A19 b.names.roles.length d20, .slice A23 b.names.inds.length d24, .slice A3 b.incls.length d4, .slice A6 b.roles.length d7, .slice A9 b.facts.length d10, .slice A12 b.links.length d13]]) Tryz.func66 rfl rfl rfl ?_ hw
  refine tc_seq <| tc_region ?_
  refine tl_box_agg (l := [.slice A15 b.names.concepts.length d16, .slice A19 b.names.roles.length d20, .slice A23 b.names.inds.length d24, .slice A3 b.incls.length d4, .slice A6 b.roles.length d7, .slice A9 b.facts.length d10, .slice A12 b.links.length d13]) rfl rfl fun b31 => ?_
  refine tl (v_assign rfl) ?_
  refine tl_nil <| tx_then <| tc_seq ?_
  refine tc_cut [(0, .agg #[.slice A15 b.names.concepts.length d16, .slice A19 b.names.roles.length d20, .slice A23 b.names.inds.length d24, .slice A3 b.incls.length d4, .slice A6 b.roles.length d7, .slice A9 b.facts.length d10, .slice A12 b.links.length d13]), (1, .pointer (some ⟨b31, 0, none⟩)), (2, .bool false), (22, .bool (decide (((!(namesB b.names)) = true) ∨ (60 < (axiomsN b : Int)))))] (.blk b31 [.slice A15 b.names.concepts.length d16, .slice A19 b.names.roles.length d20, .slice A23 b.names.inds.length d24, .slice A3 b.incls.length d4, .slice A6 b.roles.length d7, .slice A9 b.facts.length d10, .slice A12 b.links.length d13] 30 :: G) (fun _ => True) (fun K hK32 hE33 => ?_) ?_
  ·
   refine tc_region ?_
   refine tl (v_fieldAddr 0 rfl fo30_0 rfl) ?_
   refine tl (v_ld_agg 0 [.slice A15 b.names.concepts.length d16, .slice A19 b.names.roles.length d20, .slice A23 b.names.inds.length d24] rfl ld24 rfl rfl) ?_
   refine tl_callv ca80 rfl (fun w hw => concept_ValidNames_ok b.names hr2 (by first | assumption | omega) hw) rfl ?_
   refine tl (v_neg rfl) ?_
   refine tl (v_move rfl) ?_
   refine tl_splitb 18 rfl (fun h34 => ?_) (fun h34 => ?_)
   ·
    refine tl_gskip 18 rfl rfl rfl ?_
    refine tl_gskip 18 rfl rfl rfl ?_
    refine tl_gskip 18 rfl rfl rfl ?_
    refine tl (v_pick_t rfl rfl) ?_
    refine tl_nil ?_
    exact tx_cut hK32 (.refl _) (trivial) ⟨rfl, rfl, rfl, show some (Value.bool true) = some (Value.bool (decide (((!(namesB b.names)) = true) ∨ (60 < (axiomsN b : Int))))) by first | (simp [h34]; done) | grind | (simp [h34] <;> omega), trivial⟩ (fun w hw => hw)
   ·
    refine tl_grun 18 rfl rfl ?_
    refine tl (v_ld_agg 0 [.slice A15 b.names.concepts.length d16, .slice A19 b.names.roles.length d20, .slice A23 b.names.inds.length d24, .slice A3 b.incls.length d4, .slice A6 b.roles.length d7, .slice A9 b.facts.length d10, .slice A12 b.links.length d13] rfl ld30 rfl rfl) ?_
    refine tl_grun 18 rfl rfl ?_
    refine tl_callv ca36 rfl (fun w hw => kb_Count_ok b hr_b hw) rfl ?_
    refine tl_grun 18 rfl rfl ?_
    refine tl (v_ib rfl rfl rfl) ?_
    refine tl (v_pick_f rfl rfl) ?_
    refine tl_nil ?_
    exact tx_cut hK32 (.refl _) (trivial) ⟨rfl, rfl, rfl, show some (Value.bool (decide (60 < (axiomsN b : Int)))) = some (Value.bool (decide (((!(namesB b.names)) = true) ∨ (60 < (axiomsN b : Int))))) by first | (simp [h34]; done) | grind | (simp [h34] <;> omega), trivial⟩ (fun w hw => hw)
  ·
   refine fun R36 hle37 hj35 => tc_weaken hle37 ?_
   refine tc_split 22 rfl (fun h38 => ?_) (fun h38 => ?_)
   ·
    refine tc_yes rfl ?_
    refine tc_seq <| tc_region ?_
    refine tl (v_assign rfl) ?_
    refine tl_nil <| tx_then <| tc_ret <| tx_then_ret ?_
    refine tx_ret1 (.inl rfl) rfl rfl ?_
    have e39 : (false : Bool) = baseB b := by (rw [eq_comm]; unfold baseB; rw [decide_eq_false_iff_not]; intro h_; have h1_ := h_.names; have h2_ := h_.count; grind)
    exact fun w hw => ⟨congrArg Ending.returned (congrArg (fun x0 => Value.bool x0) e39), hw.drop 1⟩
   ·
    refine tc_no rfl ?_
    refine tc_skip <| tx_then <| tc_seq <| tc_region ?_
    refine tl_alloc zc3 rfl fun b40 => ?_
    refine tl_st 0 [.int .i64 400] rfl rfl ld3 rfl rfl rfl rfl rfl rfl ?_
    refine tl_nil <| tx_then <| tc_seq <| tc_seq <| tc_region ?_
    refine tl (v_fieldAddr 3 rfl fo30_1 rfl) ?_
    refine tl (v_ld 1 rfl ld25 rfl rfl) ?_
    refine tl (v_len rfl sl25) ?_
    refine tl (v_move rfl) ?_
    refine tl_nil <| tx_then <| tc_block ?_
    refine tc_loop ?_
    refine th_loop (fun b_ : Nat × Int => match b_ with | (i, m) => b.incls.length - i) (fun b_ : Nat × Int => match b_ with | (i, m) => [(1, .pointer (some ⟨b31, 0, none⟩)), (3, .pointer (some ⟨b40, 0, none⟩)), (24, .slice A3 b.incls.length d4), (25, .int .i64 (b.incls.length : Int)), (26, .int .i64 (i : Int))]) (fun b_ : Nat × Int => match b_ with | (i, m) => (.blk b40 [.int .i64 m] 3 :: .blk b31 [.slice A15 b.names.concepts.length d16, .slice A19 b.names.roles.length d20, .slice A23 b.names.inds.length d24, .slice A3 b.incls.length d4, .slice A6 b.roles.length d7, .slice A9 b.facts.length d10, .slice A12 b.links.length d13] 30 :: G)) (fun (b_ : Nat × Int) (R_ : RO) => match b_ with | (i, m) => i ≤ b.incls.length ∧ 0 ≤ m ∧ m = 400 - nodesL (inclsC (b.incls.take i)) ∧ ∀ c ∈ inclsC (b.incls.take i), okC b.names c) (0, 400) ⟨rfl, rfl, rfl, rfl, rfl, trivial⟩ (by exact ⟨by omega, by omega, by simp [nodesL, inclsC], by simp [inclsC]⟩) (fun w hw => hw) ?_
    rintro ⟨i, m⟩ R43 hle44 hI41 ih42
    try replace hr2 := kNames.mono _ _ _ _ hle44 hr2
    try replace hs5 := hs5.mono hle44
    try replace hs8 := hs8.mono hle44
    try replace hs11 := hs11.mono hle44
    try replace hs14 := hs14.mono hle44
    try replace hr_b := kBase.mono _ _ _ _ hle44 hr_b
    try replace hG := hG.mono hle44
    show TC Tryz.prog _ _ _ [] [(1, .pointer (some ⟨b31, 0, none⟩)), (3, .pointer (some ⟨b40, 0, none⟩)), (24, .slice A3 b.incls.length d4), (25, .int .i64 (b.incls.length : Int)), (26, .int .i64 (i : Int))] R43 (.blk b40 [.int .i64 m] 3 :: .blk b31 [.slice A15 b.names.concepts.length d16, .slice A19 b.names.roles.length d20, .slice A23 b.names.inds.length d24, .slice A3 b.incls.length d4, .slice A6 b.roles.length d7, .slice A9 b.facts.length d10, .slice A12 b.links.length d13] 30 :: G)
    obtain ⟨hi1, hi2, hi3, hi4⟩ := hI41
    refine tc_seq <| tc_region ?_
    refine tl (v_ib rfl rfl rfl) ?_
    refine tl_nil <| tx_then <| tc_seq ?_
    refine tc_split 27 rfl (fun h45 => ?_) (fun h45 => ?_)
    ·
     refine tc_yes rfl ?_
     refine tc_skip <| tx_then <| tc_seq <| tc_block <| tc_seq <| tc_region ?_
     have hb51 : i < b.incls.length := by omega
     obtain ⟨x46, hx47⟩ : ∃ x, b.incls[i]? = some x := ⟨_, List.getElem?_eq_getElem hb51⟩
     obtain ⟨c48, hr49, ha50⟩ := hs5.get _ x46 hx47
     obtain ⟨c52, c53, rfl, hr54, hr55⟩ := id hr49
     obtain ⟨A56, d57, rfl, i58, i59, hs60⟩ := kConcept_open hr54
     unfold i64 at i58 i59
     have z61 := hs60.size
     unfold big at z61
     obtain ⟨A62, d63, rfl, i65, i66, hs67⟩ := kConcept_open hr55
     unfold i64 at i65 i66
     have z68 := hs67.size
     unfold big at z68
     refine tl (v_idxS (i := i) hs5 rfl rfl rfl sl25 hb51) ?_
     refine tl (v_ldA_agg 0 [.int .i64 x46.sub.op, .int .i64 x46.sub.n, .slice A56 x46.sub.args.length d57, .int .i64 x46.sup.op, .int .i64 x46.sup.n, .slice A62 x46.sup.args.length d63] ha50 rfl ld92 rfl rfl) ?_
     refine tl_alloc zc92 rfl fun b69 => ?_
     refine tl_st 0 [.int .i64 x46.sub.op, .int .i64 x46.sub.n, .slice A56 x46.sub.args.length d57, .int .i64 x46.sup.op, .int .i64 x46.sup.n, .slice A62 x46.sup.args.length d63] rfl rfl ld92 rfl rfl rfl rfl rfl rfl ?_
     refine tl_nil <| tx_then <| tc_seq <| tc_region ?_
     refine tl (v_fieldAddr 0 rfl fo30_0 rfl) ?_
     refine tl (v_ld_agg 2 [.slice A15 b.names.concepts.length d16, .slice A19 b.names.roles.length d20, .slice A23 b.names.inds.length d24] rfl ld24 rfl rfl) ?_
     refine tl (v_fieldAddr 0 rfl fo92_0 rfl) ?_
     refine tl (v_ld_agg 0 [.int .i64 x46.sub.op, .int .i64 x46.sub.n, .slice A56 x46.sub.args.length d57] rfl ld37 rfl rfl) ?_
     refine tl_G (.blk b40 [.int .i64 m] 3 :: .blk b69 [.int .i64 x46.sub.op, .int .i64 x46.sub.n, .slice A56 x46.sub.args.length d57, .int .i64 x46.sup.op, .int .i64 x46.sup.n, .slice A62 x46.sup.args.length d63] 92 :: .blk b31 [.slice A15 b.names.concepts.length d16, .slice A19 b.names.roles.length d20, .slice A23 b.names.inds.length d24, .slice A3 b.incls.length d4, .slice A6 b.roles.length d7, .slice A9 b.facts.length d10, .slice A12 b.links.length d13] 30 :: G) (fun w hw => (hw.pick 1)) ?_
     refine tl_callo ca81 rfl (fun w hw => concept_Valid_ok b.names x46.sub m hr2 hr54 (by unfold i64; omega) (by first | assumption | omega | (have p1_ := valP_t (n := b.names) (c := x46.sub) (m := m) (by grind) (by omega) (by omega); omega)) (by first | assumption | omega | (have p1_ := valP_t (n := b.names) (c := x46.sub) (m := m) (by grind) (by omega) (by omega); omega)) hw) rfl ?_
     rintro _ R71 _ hle72 ⟨rfl, rfl⟩
     try replace hr2 := kNames.mono _ _ _ _ hle72 hr2
     try replace hs8 := hs8.mono hle72
     try replace hs11 := hs11.mono hle72
     try replace hs14 := hs14.mono hle72
     try replace hr_b := kBase.mono _ _ _ _ hle72 hr_b
     try replace hG := hG.mono hle72
     try replace hr55 := kConcept.mono _ _ _ _ hle72 hr55
     have hle73 := hle44.trans hle72
     have hf74 := valP_lo b.names x46.sub m 1 (by first | omega | grind)
     refine tl (v_neg rfl) ?_
     refine tl (v_move rfl) ?_
     refine tl_splitb 36 rfl (fun h75 => ?_) (fun h75 => ?_)
     ·
      refine tl_gskip 36 rfl rfl rfl ?_
      refine tl_gskip 36 rfl rfl rfl ?_
      refine tl_gskip 36 rfl rfl rfl ?_
      refine tl_gskip 36 rfl rfl rfl ?_
      refine tl_gskip 36 rfl rfl rfl ?_
      refine tl_gskip 36 rfl rfl rfl ?_
      refine tl (v_pick_t rfl rfl) ?_
      refine tl_nil <| tx_then ?_
      refine tc_yes rfl ?_
      refine tc_seq <| tc_region ?_
      refine tl (v_assign rfl) ?_
      refine tl_nil <| tx_then <| tc_ret <| tx_blk_ret <| tx_then_ret <| tx_then_ret <| tx_blk_ret <| tx_then_ret ?_
      refine tx_ret1 (.inl rfl) rfl rfl ?_
      have e76 : (false : Bool) = baseB b := by (rw [eq_comm]; unfold baseB; rw [decide_eq_false_iff_not]; intro h_; have n1_ := h_.nodes; have n2_ := nodes_split b; have n3_ := inclsC_pre hx47; have c1_ := h_.concepts _ (mem_concepts_incl hx47).1; have c2_ := h_.concepts _ (mem_concepts_incl hx47).2; first | (have f_ := valP_f (n := b.names) (c := x46.sub) (m := m) (by grind) (by omega) c1_; omega) | (have p1_ := valP_t (n := b.names) (c := x46.sub) (m := m) (by grind) (by omega) (by omega); have f_ := valP_f (n := b.names) (c := x46.sup) (m := (valP b.names x46.sub m 1).2) (by grind) (by omega) c2_; omega))
      exact fun w hw => ⟨congrArg Ending.returned (congrArg (fun x0 => Value.bool x0) e76), (hw.drop 3).weaken hle73⟩
     ·
      refine tl_grun 36 rfl rfl ?_
      refine tl (v_fieldAddr 0 rfl fo30_0 rfl) ?_
      refine tl_grun 36 rfl rfl ?_
      refine tl (v_ld_agg 2 [.slice A15 b.names.concepts.length d16, .slice A19 b.names.roles.length d20, .slice A23 b.names.inds.length d24] rfl ld24 rfl rfl) ?_
      refine tl_grun 36 rfl rfl ?_
      refine tl (v_fieldAddr 3 rfl fo92_1 rfl) ?_
      refine tl_grun 36 rfl rfl ?_
      refine tl (v_ld_agg 1 [.int .i64 x46.sup.op, .int .i64 x46.sup.n, .slice A62 x46.sup.args.length d63] rfl ld37 rfl rfl) ?_
      refine tl_grun 36 rfl rfl ?_
      refine tl_callo ca81 rfl (fun w hw => concept_Valid_ok b.names x46.sup ((valP b.names x46.sub m 1).2) hr2 hr55 (by unfold i64; omega) (by first | assumption | omega | (have p1_ := valP_t (n := b.names) (c := x46.sub) (m := m) (by grind) (by omega) (by omega); omega)) (by first | assumption | omega | (have p1_ := valP_t (n := b.names) (c := x46.sub) (m := m) (by grind) (by omega) (by omega); omega)) hw) rfl ?_
      rintro _ R78 _ hle79 ⟨rfl, rfl⟩
      try replace hr2 := kNames.mono _ _ _ _ hle79 hr2
      try replace hs8 := hs8.mono hle79
      try replace hs11 := hs11.mono hle79
      try replace hs14 := hs14.mono hle79
      try replace hr_b := kBase.mono _ _ _ _ hle79 hr_b
      try replace hG := hG.mono hle79
      have hle80 := hle73.trans hle79
      have hle81 := hle72.trans hle79
      have hf82 := valP_lo b.names x46.sup ((valP b.names x46.sub m 1).2) 1 (by first | omega | grind)
      refine tl_grun 36 rfl rfl ?_
      refine tl (v_neg rfl) ?_
      refine tl (v_pick_f rfl rfl) ?_
      refine tl_nil <| tx_then ?_
      refine tc_splitb 43 rfl (fun h83 => ?_) (fun h83 => ?_)
      ·
       refine tc_yes rfl ?_
       refine tc_seq <| tc_region ?_
       refine tl (v_assign rfl) ?_
       refine tl_nil <| tx_then <| tc_ret <| tx_blk_ret <| tx_then_ret <| tx_then_ret <| tx_blk_ret <| tx_then_ret ?_
       refine tx_ret1 (.inl rfl) rfl rfl ?_
       have e84 : (false : Bool) = baseB b := by (rw [eq_comm]; unfold baseB; rw [decide_eq_false_iff_not]; intro h_; have n1_ := h_.nodes; have n2_ := nodes_split b; have n3_ := inclsC_pre hx47; have c1_ := h_.concepts _ (mem_concepts_incl hx47).1; have c2_ := h_.concepts _ (mem_concepts_incl hx47).2; first | (have f_ := valP_f (n := b.names) (c := x46.sub) (m := m) (by grind) (by omega) c1_; omega) | (have p1_ := valP_t (n := b.names) (c := x46.sub) (m := m) (by grind) (by omega) (by omega); have f_ := valP_f (n := b.names) (c := x46.sup) (m := (valP b.names x46.sub m 1).2) (by grind) (by omega) c2_; omega))
       exact fun w hw => ⟨congrArg Ending.returned (congrArg (fun x0 => Value.bool x0) e84), (hw.drop 3).weaken hle80⟩
      ·
       refine tc_no rfl ?_
       refine tc_skip <| tx_blk <| tx_then <| tc_region ?_
       refine tl (v_add rfl rfl (by omega) (by omega)) ?_
       refine tl (v_move rfl) ?_
       refine tl_nil ?_
       refine tx_round ?_
       exact fun a w ha hw => ih42.out (i + 1, (valP b.names x46.sup ((valP b.names x46.sub m 1).2) 1).2) _ (hle81) (by have p1_ := valP_t (n := b.names) (c := x46.sub) (m := m) (by grind) (by omega) (by omega); have p2_ := valP_t (n := b.names) (c := x46.sup) (m := (valP b.names x46.sub m 1).2) (by grind) (by omega) (by omega); refine ⟨by omega, by omega, ?_, ?_⟩; (rw [inclsC_take hx47, nodesL_append]; simp only [nodesL]; omega); (intro c_ hc_; rw [inclsC_take hx47, List.mem_append] at hc_; simp only [List.mem_cons, List.not_mem_nil, or_false] at hc_; rcases hc_ with hc_ | rfl | rfl; exact hi4 _ hc_; exact p1_.1; exact p2_.1)) (by (try dsimp only); omega) a w (ha.sub (lkAll_lk ⟨rfl, rfl, rfl, rfl, rfl, trivial⟩)) ((((hw.pick 1).tail.pick 1).pick 1))
    ·
     refine tc_no rfl ?_
     refine tc_exit <| tx_then_exit <| tx_then_exit <| tx_blk_exit <| tx_then <| tc_seq <| tc_region ?_
     refine tl (v_mkF rfl) ?_
     refine tl (v_assign rfl) ?_
     refine tl_nil <| tx_then <| tc_seq <| tc_region ?_
     refine tl (v_mkF rfl) ?_
     refine tl (v_assign rfl) ?_
     refine tl_nil <| tx_then <| tc_seq <| tc_seq <| tc_region ?_
     refine tl (v_fieldAddr 4 rfl fo30_2 rfl) ?_
     refine tl (v_ld 1 rfl ld26 rfl rfl) ?_
     refine tl (v_len rfl sl26) ?_
     refine tl (v_move rfl) ?_
     refine tl_nil <| tx_then <| tc_block ?_
     refine tc_loop ?_
     refine th_loop (fun j : Nat => b.roles.length - j) (fun j : Nat => [(1, .pointer (some ⟨b31, 0, none⟩)), (3, .pointer (some ⟨b40, 0, none⟩)), (6, .func (.func 82) #[] #[.pointer (some ⟨b31, 0, none⟩)]), (7, .func (.func 83) #[] #[.pointer (some ⟨b31, 0, none⟩)]), (48, .slice A6 b.roles.length d7), (49, .int .i64 (b.roles.length : Int)), (50, .int .i64 (j : Int))]) (fun j : Nat => (.blk b40 [.int .i64 m] 3 :: .blk b31 [.slice A15 b.names.concepts.length d16, .slice A19 b.names.roles.length d20, .slice A23 b.names.inds.length d24, .slice A3 b.incls.length d4, .slice A6 b.roles.length d7, .slice A9 b.facts.length d10, .slice A12 b.links.length d13] 30 :: G)) (fun (j : Nat) (R_ : RO) => j ≤ b.roles.length ∧ ∀ x ∈ b.roles.take j, okR b.names x.sub ∧ okR b.names x.sup) (0) ⟨rfl, rfl, rfl, rfl, rfl, rfl, rfl, trivial⟩ (by exact ⟨by omega, by simp⟩) (fun w hw => hw) ?_
     rintro j R87 hle88 hI85 ih86
     try replace hr2 := kNames.mono _ _ _ _ hle88 hr2
     try replace hs8 := hs8.mono hle88
     try replace hs11 := hs11.mono hle88
     try replace hs14 := hs14.mono hle88
     try replace hr_b := kBase.mono _ _ _ _ hle88 hr_b
     try replace hG := hG.mono hle88
     have hle89 := hle44.trans hle88
     show TC Tryz.prog _ _ _ [] [(1, .pointer (some ⟨b31, 0, none⟩)), (3, .pointer (some ⟨b40, 0, none⟩)), (6, .func (.func 82) #[] #[.pointer (some ⟨b31, 0, none⟩)]), (7, .func (.func 83) #[] #[.pointer (some ⟨b31, 0, none⟩)]), (48, .slice A6 b.roles.length d7), (49, .int .i64 (b.roles.length : Int)), (50, .int .i64 (j : Int))] R87 (.blk b40 [.int .i64 m] 3 :: .blk b31 [.slice A15 b.names.concepts.length d16, .slice A19 b.names.roles.length d20, .slice A23 b.names.inds.length d24, .slice A3 b.incls.length d4, .slice A6 b.roles.length d7, .slice A9 b.facts.length d10, .slice A12 b.links.length d13] 30 :: G)
     obtain ⟨hj1, hj2⟩ := hI85
     refine tc_seq <| tc_region ?_
     refine tl (v_ib rfl rfl rfl) ?_
     refine tl_nil <| tx_then <| tc_seq ?_
     refine tc_split 51 rfl (fun h90 => ?_) (fun h90 => ?_)
     ·
      refine tc_yes rfl ?_
      refine tc_skip <| tx_then <| tc_seq <| tc_block <| tc_seq <| tc_region ?_
      have hb96 : j < b.roles.length := by omega
      obtain ⟨x91, hx92⟩ : ∃ x, b.roles[j]? = some x := ⟨_, List.getElem?_eq_getElem hb96⟩
      obtain ⟨c93, hr94, ha95⟩ := hs8.get _ x91 hx92
      obtain ⟨rfl, i97, i98⟩ := id hr94
      unfold i64 at i97
      unfold i64 at i98
      refine tl (v_idxS (i := j) hs8 rfl rfl rfl sl26 hb96) ?_
      refine tl (v_ldA_agg 0 [.int .i64 x91.sub, .int .i64 x91.sup] ha95 rfl ld84 rfl rfl) ?_
      refine tl_alloc zc84 rfl fun b99 => ?_
      refine tl_st 0 [.int .i64 x91.sub, .int .i64 x91.sup] rfl rfl ld84 rfl rfl rfl rfl rfl rfl ?_
      refine tl_nil <| tx_then ?_
      refine tc_cut [(1, .pointer (some ⟨b31, 0, none⟩)), (3, .pointer (some ⟨b40, 0, none⟩)), (6, .func (.func 82) #[] #[.pointer (some ⟨b31, 0, none⟩)]), (7, .func (.func 83) #[] #[.pointer (some ⟨b31, 0, none⟩)]), (48, .slice A6 b.roles.length d7), (49, .int .i64 (b.roles.length : Int)), (50, .int .i64 (j : Int)), (51, .bool true), (9, .pointer (some ⟨b99, 0, none⟩)), (65, .bool (decide ((¬ (okR b.names x91.sub)) ∨ (¬ (okR b.names x91.sup)))))] (.blk b99 [.int .i64 x91.sub, .int .i64 x91.sup] 84 :: .blk b40 [.int .i64 m] 3 :: .blk b31 [.slice A15 b.names.concepts.length d16, .slice A19 b.names.roles.length d20, .slice A23 b.names.inds.length d24, .slice A3 b.incls.length d4, .slice A6 b.roles.length d7, .slice A9 b.facts.length d10, .slice A12 b.links.length d13] 30 :: G) (fun _ => True) (fun K hK100 hE101 => ?_) ?_
      ·
       refine tc_region ?_
       refine tl (v_move rfl) ?_
       refine tl (v_fieldAddr 0 rfl fo84_0 rfl) ?_
       refine tl (v_ld 0 rfl ld3 rfl rfl) ?_
       refine tl_callvG (goes_fun ca82 rfl rfl) (fun w hw => kb_Valid_1_ok x91.sub b (by unfold i64; omega) hr_b (.tail _ (.tail _ (.head _))) hw) rfl ?_
       refine tl (v_negd rfl) ?_
       refine tl (v_move rfl) ?_
       refine tl_split 59 rfl (fun h102 => ?_) (fun h102 => ?_)
       ·
        refine tl_gskip 59 rfl rfl rfl ?_
        refine tl_gskip 59 rfl rfl rfl ?_
        refine tl_gskip 59 rfl rfl rfl ?_
        refine tl_gskip 59 rfl rfl rfl ?_
        refine tl_gskip 59 rfl rfl rfl ?_
        refine tl (v_pick_t rfl rfl) ?_
        refine tl_nil ?_
        exact tx_cut hK100 (.refl _) (trivial) ⟨rfl, rfl, rfl, rfl, rfl, rfl, rfl, rfl, rfl, show some (Value.bool true) = some (Value.bool (decide ((¬ (okR b.names x91.sub)) ∨ (¬ (okR b.names x91.sup))))) by first | (simp [h102]; done) | grind | (simp [h102] <;> omega), trivial⟩ (fun w hw => hw)
       ·
        refine tl_grun 59 rfl rfl ?_
        refine tl (v_move rfl) ?_
        refine tl_grun 59 rfl rfl ?_
        refine tl (v_fieldAddr 1 rfl fo84_1 rfl) ?_
        refine tl_grun 59 rfl rfl ?_
        refine tl (v_ld 0 rfl ld3 rfl rfl) ?_
        refine tl_grun 59 rfl rfl ?_
        refine tl_callvG (goes_fun ca82 rfl rfl) (fun w hw => kb_Valid_1_ok x91.sup b (by unfold i64; omega) hr_b (.tail _ (.tail _ (.head _))) hw) rfl ?_
        refine tl_grun 59 rfl rfl ?_
        refine tl (v_negd rfl) ?_
        refine tl (v_pick_f rfl rfl) ?_
        refine tl_nil ?_
        exact tx_cut hK100 (.refl _) (trivial) ⟨rfl, rfl, rfl, rfl, rfl, rfl, rfl, rfl, rfl, show some (Value.bool (decide (¬ (okR b.names x91.sup)))) = some (Value.bool (decide ((¬ (okR b.names x91.sub)) ∨ (¬ (okR b.names x91.sup))))) by first | (simp [h102]; done) | grind | (simp [h102] <;> omega), trivial⟩ (fun w hw => hw)
      ·
       refine fun R104 hle105 hj103 => tc_weaken hle105 ?_
       refine tc_split 65 rfl (fun h106 => ?_) (fun h106 => ?_)
       ·
        refine tc_yes rfl ?_
        refine tc_seq <| tc_region ?_
        refine tl (v_assign rfl) ?_
        refine tl_nil <| tx_then <| tc_ret <| tx_blk_ret <| tx_then_ret <| tx_then_ret <| tx_blk_ret <| tx_then_ret ?_
        refine tx_ret1 (.inl rfl) rfl rfl ?_
        have e107 : (false : Bool) = baseB b := by (rw [eq_comm]; unfold baseB; rw [decide_eq_false_iff_not]; intro h_; have h1_ := h_.roles _ (List.mem_of_getElem? hx92); grind)
        exact fun w hw => ⟨congrArg Ending.returned (congrArg (fun x0 => Value.bool x0) e107), (hw.drop 3).weaken hle89⟩
       ·
        refine tc_no rfl ?_
        refine tc_skip <| tx_blk <| tx_then <| tc_region ?_
        refine tl (v_add rfl rfl (by omega) (by omega)) ?_
        refine tl (v_move rfl) ?_
        refine tl_nil ?_
        refine tx_round ?_
        exact fun a w ha hw => ih86.out (j + 1) _ (.refl _) (by exact ⟨by omega, all_take hj2 hx92 (by grind)⟩) (by (try dsimp only); omega) a w (ha.sub (lkAll_lk ⟨rfl, rfl, rfl, rfl, rfl, rfl, congrArg (fun z => some (Value.int .i64 z)) (show ((j : Int) + 1 : Int) = ((j + 1) : Int) by first | rfl | omega), trivial⟩)) (hw.drop 1)
     ·
      refine tc_no rfl ?_
      refine tc_exit <| tx_then_exit <| tx_then_exit <| tx_blk_exit <| tx_then <| tc_seq <| tc_seq <| tc_region ?_
      refine tl (v_fieldAddr 5 rfl fo30_3 rfl) ?_
      refine tl (v_ld 1 rfl ld27 rfl rfl) ?_
      refine tl (v_len rfl sl27) ?_
      refine tl (v_move rfl) ?_
      refine tl_nil <| tx_then <| tc_block ?_
      refine tc_loop ?_
      refine th_loop (fun b_ : Nat × Int => match b_ with | (k, mf) => b.facts.length - k) (fun b_ : Nat × Int => match b_ with | (k, mf) => [(1, .pointer (some ⟨b31, 0, none⟩)), (3, .pointer (some ⟨b40, 0, none⟩)), (6, .func (.func 82) #[] #[.pointer (some ⟨b31, 0, none⟩)]), (7, .func (.func 83) #[] #[.pointer (some ⟨b31, 0, none⟩)]), (68, .slice A9 b.facts.length d10), (69, .int .i64 (b.facts.length : Int)), (70, .int .i64 (k : Int))]) (fun b_ : Nat × Int => match b_ with | (k, mf) => (.blk b40 [.int .i64 mf] 3 :: .blk b31 [.slice A15 b.names.concepts.length d16, .slice A19 b.names.roles.length d20, .slice A23 b.names.inds.length d24, .slice A3 b.incls.length d4, .slice A6 b.roles.length d7, .slice A9 b.facts.length d10, .slice A12 b.links.length d13] 30 :: G)) (fun (b_ : Nat × Int) (R_ : RO) => match b_ with | (k, mf) => k ≤ b.facts.length ∧ 0 ≤ mf ∧ mf = m - nodesL (factsC (b.facts.take k)) ∧ (∀ c ∈ factsC (b.facts.take k), okC b.names c) ∧ ∀ x ∈ b.facts.take k, okI b.names x.ind) (0, m) ⟨rfl, rfl, rfl, rfl, rfl, rfl, rfl, trivial⟩ (by exact ⟨by omega, by omega, by simp [nodesL, factsC], by simp [factsC], by simp⟩) (fun w hw => hw) ?_
      rintro ⟨k, mf⟩ R110 hle111 hI108 ih109
      try replace hr2 := kNames.mono _ _ _ _ hle111 hr2
      try replace hs11 := hs11.mono hle111
      try replace hs14 := hs14.mono hle111
      try replace hr_b := kBase.mono _ _ _ _ hle111 hr_b
      try replace hG := hG.mono hle111
      have hle112 := hle89.trans hle111
      have hle113 := hle88.trans hle111
      show TC Tryz.prog _ _ _ [] [(1, .pointer (some ⟨b31, 0, none⟩)), (3, .pointer (some ⟨b40, 0, none⟩)), (6, .func (.func 82) #[] #[.pointer (some ⟨b31, 0, none⟩)]), (7, .func (.func 83) #[] #[.pointer (some ⟨b31, 0, none⟩)]), (68, .slice A9 b.facts.length d10), (69, .int .i64 (b.facts.length : Int)), (70, .int .i64 (k : Int))] R110 (.blk b40 [.int .i64 mf] 3 :: .blk b31 [.slice A15 b.names.concepts.length d16, .slice A19 b.names.roles.length d20, .slice A23 b.names.inds.length d24, .slice A3 b.incls.length d4, .slice A6 b.roles.length d7, .slice A9 b.facts.length d10, .slice A12 b.links.length d13] 30 :: G)
      obtain ⟨hk1, hk2, hk3, hk4, hk5⟩ := hI108
      refine tc_seq <| tc_region ?_
      refine tl (v_ib rfl rfl rfl) ?_
      refine tl_nil <| tx_then <| tc_seq ?_
      refine tc_split 71 rfl (fun h114 => ?_) (fun h114 => ?_)
      ·
       refine tc_yes rfl ?_
       refine tc_skip <| tx_then <| tc_seq <| tc_block <| tc_seq <| tc_region ?_
       have hb120 : k < b.facts.length := by omega
       obtain ⟨x115, hx116⟩ : ∃ x, b.facts[k]? = some x := ⟨_, List.getElem?_eq_getElem hb120⟩
       obtain ⟨c117, hr118, ha119⟩ := hs11.get _ x115 hx116
       obtain ⟨c121, rfl, i122, hr123⟩ := id hr118
       unfold i64 at i122
       obtain ⟨A124, d125, rfl, i126, i127, hs128⟩ := kConcept_open hr123
       unfold i64 at i126 i127
       have z129 := hs128.size
       unfold big at z129
       refine tl (v_idxS (i := k) hs11 rfl rfl rfl sl27 hb120) ?_
       refine tl (v_ldA_agg 0 [.int .i64 x115.ind, .int .i64 x115.con.op, .int .i64 x115.con.n, .slice A124 x115.con.args.length d125] ha119 rfl ld87 rfl rfl) ?_
       refine tl_alloc zc87 rfl fun b130 => ?_
       refine tl_st 0 [.int .i64 x115.ind, .int .i64 x115.con.op, .int .i64 x115.con.n, .slice A124 x115.con.args.length d125] rfl rfl ld87 rfl rfl rfl rfl rfl rfl ?_
       refine tl_nil <| tx_then <| tc_seq <| tc_region ?_
       refine tl (v_move rfl) ?_
       refine tl (v_fieldAddr 0 rfl fo87_0 rfl) ?_
       refine tl (v_ld 0 rfl ld3 rfl rfl) ?_
       refine tl_callvG (goes_fun ca83 rfl rfl) (fun w hw => kb_Valid_2_ok x115.ind b (by unfold i64; omega) hr_b (.tail _ (.tail _ (.head _))) hw) rfl ?_
       refine tl (v_negd rfl) ?_
       refine tl (v_move rfl) ?_
       refine tl_split 79 rfl (fun h131 => ?_) (fun h131 => ?_)
       ·
        refine tl_gskip 79 rfl rfl rfl ?_
        refine tl_gskip 79 rfl rfl rfl ?_
        refine tl_gskip 79 rfl rfl rfl ?_
        refine tl_gskip 79 rfl rfl rfl ?_
        refine tl_gskip 79 rfl rfl rfl ?_
        refine tl_gskip 79 rfl rfl rfl ?_
        refine tl (v_pick_t rfl rfl) ?_
        refine tl_nil <| tx_then ?_
        refine tc_yes rfl ?_
        refine tc_seq <| tc_region ?_
        refine tl (v_assign rfl) ?_
        refine tl_nil <| tx_then <| tc_ret <| tx_blk_ret <| tx_then_ret <| tx_then_ret <| tx_blk_ret <| tx_then_ret ?_
        refine tx_ret1 (.inl rfl) rfl rfl ?_
        have e132 : (false : Bool) = baseB b := by (rw [eq_comm]; unfold baseB; rw [decide_eq_false_iff_not]; intro h_; have n1_ := h_.nodes; have n2_ := nodes_split b; have n3_ := factsC_pre hx116; rw [take_all (l := b.incls) (by assumption) (by assumption)] at hi3; have c1_ := h_.concepts _ (mem_concepts_fact hx116); have i1_ := h_.facts _ (List.mem_of_getElem? hx116); first | (exfalso; grind) | (have f_ := valP_f (n := b.names) (c := x115.con) (m := mf) (by grind) (by omega) c1_; omega))
        exact fun w hw => ⟨congrArg Ending.returned (congrArg (fun x0 => Value.bool x0) e132), (hw.drop 3).weaken hle112⟩
       ·
        refine tl_grun 79 rfl rfl ?_
        refine tl (v_fieldAddr 0 rfl fo30_0 rfl) ?_
        refine tl_grun 79 rfl rfl ?_
        refine tl (v_ld_agg 2 [.slice A15 b.names.concepts.length d16, .slice A19 b.names.roles.length d20, .slice A23 b.names.inds.length d24] rfl ld24 rfl rfl) ?_
        refine tl_grun 79 rfl rfl ?_
        refine tl (v_fieldAddr 1 rfl fo87_1 rfl) ?_
        refine tl_grun 79 rfl rfl ?_
        refine tl (v_ld_agg 0 [.int .i64 x115.con.op, .int .i64 x115.con.n, .slice A124 x115.con.args.length d125] rfl ld37 rfl rfl) ?_
        refine tl_grun 79 rfl rfl ?_
        refine tl_G (.blk b40 [.int .i64 mf] 3 :: .blk b130 [.int .i64 x115.ind, .int .i64 x115.con.op, .int .i64 x115.con.n, .slice A124 x115.con.args.length d125] 87 :: .blk b31 [.slice A15 b.names.concepts.length d16, .slice A19 b.names.roles.length d20, .slice A23 b.names.inds.length d24, .slice A3 b.incls.length d4, .slice A6 b.roles.length d7, .slice A9 b.facts.length d10, .slice A12 b.links.length d13] 30 :: G) (fun w hw => (hw.pick 1)) ?_
        refine tl_callo ca81 rfl (fun w hw => concept_Valid_ok b.names x115.con mf hr2 hr123 (by unfold i64; omega) (by first | assumption | omega | (have p1_ := valP_t (n := b.names) (c := x115.sub) (m := m) (by grind) (by omega) (by omega); omega)) (by first | assumption | omega | (have p1_ := valP_t (n := b.names) (c := x115.sub) (m := m) (by grind) (by omega) (by omega); omega)) hw) rfl ?_
        rintro _ R134 _ hle135 ⟨rfl, rfl⟩
        try replace hs14 := hs14.mono hle135
        try replace hr_b := kBase.mono _ _ _ _ hle135 hr_b
        try replace hG := hG.mono hle135
        have hle136 := hle112.trans hle135
        have hle137 := hle113.trans hle135
        have hle138 := hle111.trans hle135
        have hf139 := valP_lo b.names x115.con mf 1 (by first | omega | grind)
        refine tl_grun 79 rfl rfl ?_
        refine tl (v_neg rfl) ?_
        refine tl (v_pick_f rfl rfl) ?_
        refine tl_nil <| tx_then ?_
        refine tc_splitb 86 rfl (fun h140 => ?_) (fun h140 => ?_)
        ·
         refine tc_yes rfl ?_
         refine tc_seq <| tc_region ?_
         refine tl (v_assign rfl) ?_
         refine tl_nil <| tx_then <| tc_ret <| tx_blk_ret <| tx_then_ret <| tx_then_ret <| tx_blk_ret <| tx_then_ret ?_
         refine tx_ret1 (.inl rfl) rfl rfl ?_
         have e141 : (false : Bool) = baseB b := by (rw [eq_comm]; unfold baseB; rw [decide_eq_false_iff_not]; intro h_; have n1_ := h_.nodes; have n2_ := nodes_split b; have n3_ := factsC_pre hx116; rw [take_all (l := b.incls) (by assumption) (by assumption)] at hi3; have c1_ := h_.concepts _ (mem_concepts_fact hx116); have i1_ := h_.facts _ (List.mem_of_getElem? hx116); first | (exfalso; grind) | (have f_ := valP_f (n := b.names) (c := x115.con) (m := mf) (by grind) (by omega) c1_; omega))
         exact fun w hw => ⟨congrArg Ending.returned (congrArg (fun x0 => Value.bool x0) e141), (hw.drop 3).weaken hle136⟩
        ·
         refine tc_no rfl ?_
         refine tc_skip <| tx_blk <| tx_then <| tc_region ?_
         refine tl (v_add rfl rfl (by omega) (by omega)) ?_
         refine tl (v_move rfl) ?_
         refine tl_nil ?_
         refine tx_round ?_
         exact fun a w ha hw => ih109.out (k + 1, (valP b.names x115.con mf 1).2) _ (hle135) (by have p1_ := valP_t (n := b.names) (c := x115.con) (m := mf) (by grind) (by omega) (by omega); have q_ : okI b.names x115.ind := (by grind); refine ⟨by omega, by omega, ?_, ?_, all_take hk5 hx116 q_⟩; (rw [factsC_take hx116, nodesL_append]; simp only [nodesL]; omega); (intro c_ hc_; rw [factsC_take hx116, List.mem_append] at hc_; simp only [List.mem_cons, List.not_mem_nil, or_false] at hc_; rcases hc_ with hc_ | rfl; exact hk4 _ hc_; exact p1_.1)) (by (try dsimp only); omega) a w (ha.sub (lkAll_lk ⟨rfl, rfl, rfl, rfl, rfl, rfl, congrArg (fun z => some (Value.int .i64 z)) (show ((k : Int) + 1 : Int) = ((k + 1) : Int) by first | rfl | omega), trivial⟩)) ((((hw.pick 1).tail.pick 1).pick 1))
      ·
       refine tc_no rfl ?_
       refine tc_exit <| tx_then_exit <| tx_then_exit <| tx_blk_exit <| tx_then <| tc_seq <| tc_seq <| tc_region ?_
       refine tl (v_fieldAddr 6 rfl fo30_4 rfl) ?_
       refine tl (v_ld 1 rfl ld28 rfl rfl) ?_
       refine tl (v_len rfl sl28) ?_
       refine tl (v_move rfl) ?_
       refine tl_nil <| tx_then <| tc_block ?_
       refine tc_loop ?_
       refine th_loop (fun q : Nat => b.links.length - q) (fun q : Nat => [(1, .pointer (some ⟨b31, 0, none⟩)), (6, .func (.func 82) #[] #[.pointer (some ⟨b31, 0, none⟩)]), (7, .func (.func 83) #[] #[.pointer (some ⟨b31, 0, none⟩)]), (89, .slice A12 b.links.length d13), (90, .int .i64 (b.links.length : Int)), (91, .int .i64 (q : Int))]) (fun q : Nat => (.blk b40 [.int .i64 mf] 3 :: .blk b31 [.slice A15 b.names.concepts.length d16, .slice A19 b.names.roles.length d20, .slice A23 b.names.inds.length d24, .slice A3 b.incls.length d4, .slice A6 b.roles.length d7, .slice A9 b.facts.length d10, .slice A12 b.links.length d13] 30 :: G)) (fun (q : Nat) (R_ : RO) => q ≤ b.links.length ∧ ∀ x ∈ b.links.take q, okL b.names x) (0) ⟨rfl, rfl, rfl, rfl, rfl, rfl, trivial⟩ (by exact ⟨by omega, by simp⟩) (fun w hw => hw) ?_
       rintro q R144 hle145 hI142 ih143
       try replace hs14 := hs14.mono hle145
       try replace hr_b := kBase.mono _ _ _ _ hle145 hr_b
       try replace hG := hG.mono hle145
       have hle146 := hle112.trans hle145
       have hle147 := hle113.trans hle145
       have hle148 := hle111.trans hle145
       show TC Tryz.prog _ _ _ [] [(1, .pointer (some ⟨b31, 0, none⟩)), (6, .func (.func 82) #[] #[.pointer (some ⟨b31, 0, none⟩)]), (7, .func (.func 83) #[] #[.pointer (some ⟨b31, 0, none⟩)]), (89, .slice A12 b.links.length d13), (90, .int .i64 (b.links.length : Int)), (91, .int .i64 (q : Int))] R144 (.blk b40 [.int .i64 mf] 3 :: .blk b31 [.slice A15 b.names.concepts.length d16, .slice A19 b.names.roles.length d20, .slice A23 b.names.inds.length d24, .slice A3 b.incls.length d4, .slice A6 b.roles.length d7, .slice A9 b.facts.length d10, .slice A12 b.links.length d13] 30 :: G)
       obtain ⟨hq1, hq2⟩ := hI142
       refine tc_seq <| tc_region ?_
       refine tl (v_ib rfl rfl rfl) ?_
       refine tl_nil <| tx_then <| tc_seq ?_
       refine tc_split 92 rfl (fun h149 => ?_) (fun h149 => ?_)
       ·
        refine tc_yes rfl ?_
        refine tc_skip <| tx_then <| tc_seq <| tc_block <| tc_seq <| tc_region ?_
        have hb155 : q < b.links.length := by omega
        obtain ⟨x150, hx151⟩ : ∃ x, b.links[q]? = some x := ⟨_, List.getElem?_eq_getElem hb155⟩
        obtain ⟨c152, hr153, ha154⟩ := hs14.get _ x150 hx151
        obtain ⟨rfl, i156, i157, i158⟩ := id hr153
        unfold i64 at i156
        unfold i64 at i157
        unfold i64 at i158
        have hf159 := link_wrap (n := b.names) x150 (by omega)
        refine tl (v_idxS (i := q) hs14 rfl rfl rfl sl28 hb155) ?_
        refine tl (v_ldA_agg 0 [.int .i64 x150.role, .int .i64 x150.frm, .int .i64 x150.to] ha154 rfl ld89 rfl rfl) ?_
        refine tl_alloc zc89 rfl fun b160 => ?_
        refine tl_st 0 [.int .i64 x150.role, .int .i64 x150.frm, .int .i64 x150.to] rfl rfl ld89 rfl rfl rfl rfl rfl rfl ?_
        refine tl_nil <| tx_then ?_
        refine tc_cut [(1, .pointer (some ⟨b31, 0, none⟩)), (6, .func (.func 82) #[] #[.pointer (some ⟨b31, 0, none⟩)]), (7, .func (.func 83) #[] #[.pointer (some ⟨b31, 0, none⟩)]), (89, .slice A12 b.links.length d13), (90, .int .i64 (b.links.length : Int)), (91, .int .i64 (q : Int)), (92, .bool true), (13, .pointer (some ⟨b160, 0, none⟩)), (128, .bool (decide (((((x150.role < 0) ∨ (¬ (okR b.names (IntKind.i64.wrap (2 * x150.role))))) ∨ ((b.names.roles.length : Int) ≤ x150.role)) ∨ (¬ (okI b.names x150.frm))) ∨ (¬ (okI b.names x150.to)))))] (.blk b160 [.int .i64 x150.role, .int .i64 x150.frm, .int .i64 x150.to] 89 :: .blk b40 [.int .i64 mf] 3 :: .blk b31 [.slice A15 b.names.concepts.length d16, .slice A19 b.names.roles.length d20, .slice A23 b.names.inds.length d24, .slice A3 b.incls.length d4, .slice A6 b.roles.length d7, .slice A9 b.facts.length d10, .slice A12 b.links.length d13] 30 :: G) (fun _ => True) (fun K hK161 hE162 => ?_) ?_
        ·
         refine tc_region ?_
         refine tl (v_fieldAddr 0 rfl fo89_0 rfl) ?_
         refine tl (v_ld 0 rfl ld3 rfl rfl) ?_
         refine tl (v_ib rfl rfl rfl) ?_
         refine tl (v_move rfl) ?_
         refine tl_split 98 rfl (fun h163 => ?_) (fun h163 => ?_)
         ·
          refine tl_gskip 98 rfl rfl rfl ?_
          refine tl_gskip 98 rfl rfl rfl ?_
          refine tl_gskip 98 rfl rfl rfl ?_
          refine tl_gskip 98 rfl rfl rfl ?_
          refine tl_gskip 98 rfl rfl rfl ?_
          refine tl_gskip 98 rfl rfl rfl ?_
          refine tl (v_pick_t rfl rfl) ?_
          refine tl (v_move rfl) ?_
          refine tl_gskip 106 rfl rfl rfl ?_
          refine tl_gskip 106 rfl rfl rfl ?_
          refine tl_gskip 106 rfl rfl rfl ?_
          refine tl_gskip 106 rfl rfl rfl ?_
          refine tl_gskip 106 rfl rfl rfl ?_
          refine tl_gskip 106 rfl rfl rfl ?_
          refine tl_gskip 106 rfl rfl rfl ?_
          refine tl (v_pick_t rfl rfl) ?_
          refine tl (v_move rfl) ?_
          refine tl_gskip 115 rfl rfl rfl ?_
          refine tl_gskip 115 rfl rfl rfl ?_
          refine tl_gskip 115 rfl rfl rfl ?_
          refine tl_gskip 115 rfl rfl rfl ?_
          refine tl_gskip 115 rfl rfl rfl ?_
          refine tl (v_pick_t rfl rfl) ?_
          refine tl (v_move rfl) ?_
          refine tl_gskip 122 rfl rfl rfl ?_
          refine tl_gskip 122 rfl rfl rfl ?_
          refine tl_gskip 122 rfl rfl rfl ?_
          refine tl_gskip 122 rfl rfl rfl ?_
          refine tl_gskip 122 rfl rfl rfl ?_
          refine tl (v_pick_t rfl rfl) ?_
          refine tl_nil ?_
          exact tx_cut hK161 (.refl _) (trivial) ⟨rfl, rfl, rfl, rfl, rfl, rfl, rfl, rfl, show some (Value.bool true) = some (Value.bool (decide (((((x150.role < 0) ∨ (¬ (okR b.names (IntKind.i64.wrap (2 * x150.role))))) ∨ ((b.names.roles.length : Int) ≤ x150.role)) ∨ (¬ (okI b.names x150.frm))) ∨ (¬ (okI b.names x150.to))))) by first | (simp [h163]; done) | grind | (simp [h163] <;> omega), trivial⟩ (fun w hw => hw)
         ·
          refine tl_grun 98 rfl rfl ?_
          refine tl (v_move rfl) ?_
          refine tl_grun 98 rfl rfl ?_
          refine tl (v_fieldAddr 0 rfl fo89_0 rfl) ?_
          refine tl_grun 98 rfl rfl ?_
          refine tl (v_ld 0 rfl ld3 rfl rfl) ?_
          refine tl_grun 98 rfl rfl ?_
          refine tl (v_ib rfl rfl rfl) ?_
          refine tl_grun 98 rfl rfl ?_
          refine tl_callvG (goes_fun ca82 rfl rfl) (fun w hw => kb_Valid_1_ok (IntKind.i64.wrap (2 * x150.role)) b (wrap_rng _) hr_b (.tail _ (.tail _ (.head _))) hw) rfl ?_
          refine tl_grun 98 rfl rfl ?_
          refine tl (v_negd rfl) ?_
          refine tl (v_pick_f rfl rfl) ?_
          refine tl (v_move rfl) ?_
          refine tl_split 106 rfl (fun h164 => ?_) (fun h164 => ?_)
          ·
           refine tl_gskip 106 rfl rfl rfl ?_
           refine tl_gskip 106 rfl rfl rfl ?_
           refine tl_gskip 106 rfl rfl rfl ?_
           refine tl_gskip 106 rfl rfl rfl ?_
           refine tl_gskip 106 rfl rfl rfl ?_
           refine tl_gskip 106 rfl rfl rfl ?_
           refine tl_gskip 106 rfl rfl rfl ?_
           refine tl (v_pick_t rfl rfl) ?_
           refine tl (v_move rfl) ?_
           refine tl_gskip 115 rfl rfl rfl ?_
           refine tl_gskip 115 rfl rfl rfl ?_
           refine tl_gskip 115 rfl rfl rfl ?_
           refine tl_gskip 115 rfl rfl rfl ?_
           refine tl_gskip 115 rfl rfl rfl ?_
           refine tl (v_pick_t rfl rfl) ?_
           refine tl (v_move rfl) ?_
           refine tl_gskip 122 rfl rfl rfl ?_
           refine tl_gskip 122 rfl rfl rfl ?_
           refine tl_gskip 122 rfl rfl rfl ?_
           refine tl_gskip 122 rfl rfl rfl ?_
           refine tl_gskip 122 rfl rfl rfl ?_
           refine tl (v_pick_t rfl rfl) ?_
           refine tl_nil ?_
           exact tx_cut hK161 (.refl _) (trivial) ⟨rfl, rfl, rfl, rfl, rfl, rfl, rfl, rfl, show some (Value.bool true) = some (Value.bool (decide (((((x150.role < 0) ∨ (¬ (okR b.names (IntKind.i64.wrap (2 * x150.role))))) ∨ ((b.names.roles.length : Int) ≤ x150.role)) ∨ (¬ (okI b.names x150.frm))) ∨ (¬ (okI b.names x150.to))))) by first | (simp [h163, h164]; done) | grind | (simp [h163, h164] <;> omega), trivial⟩ (fun w hw => hw)
          ·
           refine tl_grun 106 rfl rfl ?_
           refine tl (v_fieldAddr 0 rfl fo89_0 rfl) ?_
           refine tl_grun 106 rfl rfl ?_
           refine tl (v_ld 0 rfl ld3 rfl rfl) ?_
           refine tl_grun 106 rfl rfl ?_
           refine tl (v_fieldAddr 0 rfl fo30_0 rfl) ?_
           refine tl_grun 106 rfl rfl ?_
           refine tl (v_fieldAddr 1 rfl fo24_1 rfl) ?_
           refine tl_grun 106 rfl rfl ?_
           refine tl (v_ld 2 rfl ld22 rfl rfl) ?_
           refine tl_grun 106 rfl rfl ?_
           refine tl (v_len rfl sl22) ?_
           refine tl_grun 106 rfl rfl ?_
           refine tl (v_ib rfl rfl rfl) ?_
           refine tl (v_pick_f rfl rfl) ?_
           refine tl (v_move rfl) ?_
           refine tl_split 115 rfl (fun h165 => ?_) (fun h165 => ?_)
           ·
            refine tl_gskip 115 rfl rfl rfl ?_
            refine tl_gskip 115 rfl rfl rfl ?_
            refine tl_gskip 115 rfl rfl rfl ?_
            refine tl_gskip 115 rfl rfl rfl ?_
            refine tl_gskip 115 rfl rfl rfl ?_
            refine tl (v_pick_t rfl rfl) ?_
            refine tl (v_move rfl) ?_
            refine tl_gskip 122 rfl rfl rfl ?_
            refine tl_gskip 122 rfl rfl rfl ?_
            refine tl_gskip 122 rfl rfl rfl ?_
            refine tl_gskip 122 rfl rfl rfl ?_
            refine tl_gskip 122 rfl rfl rfl ?_
            refine tl (v_pick_t rfl rfl) ?_
            refine tl_nil ?_
            exact tx_cut hK161 (.refl _) (trivial) ⟨rfl, rfl, rfl, rfl, rfl, rfl, rfl, rfl, show some (Value.bool true) = some (Value.bool (decide (((((x150.role < 0) ∨ (¬ (okR b.names (IntKind.i64.wrap (2 * x150.role))))) ∨ ((b.names.roles.length : Int) ≤ x150.role)) ∨ (¬ (okI b.names x150.frm))) ∨ (¬ (okI b.names x150.to))))) by first | (simp [h163, h164, h165]; done) | grind | (simp [h163, h164, h165] <;> omega), trivial⟩ (fun w hw => hw)
           ·
            refine tl_grun 115 rfl rfl ?_
            refine tl (v_move rfl) ?_
            refine tl_grun 115 rfl rfl ?_
            refine tl (v_fieldAddr 1 rfl fo89_1 rfl) ?_
            refine tl_grun 115 rfl rfl ?_
            refine tl (v_ld 0 rfl ld3 rfl rfl) ?_
            refine tl_grun 115 rfl rfl ?_
            refine tl_callvG (goes_fun ca83 rfl rfl) (fun w hw => kb_Valid_2_ok x150.frm b (by unfold i64; omega) hr_b (.tail _ (.tail _ (.head _))) hw) rfl ?_
            refine tl_grun 115 rfl rfl ?_
            refine tl (v_negd rfl) ?_
            refine tl (v_pick_f rfl rfl) ?_
            refine tl (v_move rfl) ?_
            refine tl_split 122 rfl (fun h166 => ?_) (fun h166 => ?_)
            ·
             refine tl_gskip 122 rfl rfl rfl ?_
             refine tl_gskip 122 rfl rfl rfl ?_
             refine tl_gskip 122 rfl rfl rfl ?_
             refine tl_gskip 122 rfl rfl rfl ?_
             refine tl_gskip 122 rfl rfl rfl ?_
             refine tl (v_pick_t rfl rfl) ?_
             refine tl_nil ?_
             exact tx_cut hK161 (.refl _) (trivial) ⟨rfl, rfl, rfl, rfl, rfl, rfl, rfl, rfl, show some (Value.bool true) = some (Value.bool (decide (((((x150.role < 0) ∨ (¬ (okR b.names (IntKind.i64.wrap (2 * x150.role))))) ∨ ((b.names.roles.length : Int) ≤ x150.role)) ∨ (¬ (okI b.names x150.frm))) ∨ (¬ (okI b.names x150.to))))) by first | (simp [h163, h164, h165, h166]; done) | grind | (simp [h163, h164, h165, h166] <;> omega), trivial⟩ (fun w hw => hw)
            ·
             refine tl_grun 122 rfl rfl ?_
             refine tl (v_move rfl) ?_
             refine tl_grun 122 rfl rfl ?_
             refine tl (v_fieldAddr 2 rfl fo89_2 rfl) ?_
             refine tl_grun 122 rfl rfl ?_
             refine tl (v_ld 0 rfl ld3 rfl rfl) ?_
             refine tl_grun 122 rfl rfl ?_
             refine tl_callvG (goes_fun ca83 rfl rfl) (fun w hw => kb_Valid_2_ok x150.to b (by unfold i64; omega) hr_b (.tail _ (.tail _ (.head _))) hw) rfl ?_
             refine tl_grun 122 rfl rfl ?_
             refine tl (v_negd rfl) ?_
             refine tl (v_pick_f rfl rfl) ?_
             refine tl_nil ?_
             exact tx_cut hK161 (.refl _) (trivial) ⟨rfl, rfl, rfl, rfl, rfl, rfl, rfl, rfl, show some (Value.bool (decide (¬ (okI b.names x150.to)))) = some (Value.bool (decide (((((x150.role < 0) ∨ (¬ (okR b.names (IntKind.i64.wrap (2 * x150.role))))) ∨ ((b.names.roles.length : Int) ≤ x150.role)) ∨ (¬ (okI b.names x150.frm))) ∨ (¬ (okI b.names x150.to))))) by first | (simp [h163, h164, h165, h166]; done) | grind | (simp [h163, h164, h165, h166] <;> omega), trivial⟩ (fun w hw => hw)
        ·
         refine fun R168 hle169 hj167 => tc_weaken hle169 ?_
         refine tc_split 128 rfl (fun h170 => ?_) (fun h170 => ?_)
         ·
          refine tc_yes rfl ?_
          refine tc_seq <| tc_region ?_
          refine tl (v_assign rfl) ?_
          refine tl_nil <| tx_then <| tc_ret <| tx_blk_ret <| tx_then_ret <| tx_then_ret <| tx_blk_ret <| tx_then_ret ?_
          refine tx_ret1 (.inl rfl) rfl rfl ?_
          have e171 : (false : Bool) = baseB b := by (rw [eq_comm]; unfold baseB; rw [decide_eq_false_iff_not]; intro h_; have h1_ := h_.links _ (List.mem_of_getElem? hx151); grind [okL])
          exact fun w hw => ⟨congrArg Ending.returned (congrArg (fun x0 => Value.bool x0) e171), (hw.drop 3).weaken hle146⟩
         ·
          refine tc_no rfl ?_
          refine tc_skip <| tx_blk <| tx_then <| tc_region ?_
          refine tl (v_add rfl rfl (by omega) (by omega)) ?_
          refine tl (v_move rfl) ?_
          refine tl_nil ?_
          refine tx_round ?_
          exact fun a w ha hw => ih143.out (q + 1) _ (.refl _) (by exact ⟨by omega, all_take hq2 hx151 (by grind [okL])⟩) (by (try dsimp only); omega) a w (ha.sub (lkAll_lk ⟨rfl, rfl, rfl, rfl, rfl, congrArg (fun z => some (Value.int .i64 z)) (show ((q : Int) + 1 : Int) = ((q + 1) : Int) by first | rfl | omega), trivial⟩)) (hw.drop 1)
       ·
        refine tc_no rfl ?_
        refine tc_exit <| tx_then_exit <| tx_then_exit <| tx_blk_exit <| tx_then <| tc_seq <| tc_region ?_
        refine tl (v_assign rfl) ?_
        refine tl_nil <| tx_then <| tc_ret ?_
        refine tx_ret1 (.inl rfl) rfl rfl ?_
        have e172 : (true : Bool) = baseB b := by (rw [take_all (by assumption) (by assumption)] at hi4 hi3; rw [take_all (by assumption) (by assumption)] at hj2; rw [take_all (by assumption) (by assumption)] at hk4 hk3 hk5; rw [take_all (by assumption) (by assumption)] at hq2; symm; unfold baseB; rw [decide_eq_true_eq]; exact ⟨by grind, by grind, fun c_ hc_ => by (unfold conceptsB at hc_; rw [List.mem_append] at hc_; rcases hc_ with hc_ | hc_; exact hi4 _ hc_; exact hk4 _ hc_), hj2, hk5, hq2, by rw [nodes_split]; omega⟩)
        exact fun w hw => ⟨congrArg Ending.returned (congrArg (fun x0 => Value.bool x0) e172), (hw.drop 2).weaken hle146⟩

set_option maxRecDepth 20000 in
set_option maxHeartbeats 8000000 in
theorem kb_Check_ok {R : RO} {G : List Res} {w : World} {c_b : List Value} (b : Base) (hr_b : kBase.rep R b c_b) (hG : Glob R) (hw : Own w R (G)) :
    Calls Tryz.prog 34 [.agg c_b.toArray].toArray w (Gives R G (.int .i64 (if baseB b = true then 0 else 20 : Int))) := by
  obtain ⟨c1, A3, d4, A6, d7, A9, d10, A12, d13, rfl, hr2, hs5, hs8, hs11, hs14⟩ := id hr_b
  have z27 := hs5.size
  unfold big at z27
  have z28 := hs8.size
  unfold big at z28
  have z29 := hs11.size
  unfold big at z29
  have z30 := hs14.size
  unfold big at z30
  obtain ⟨A15, d16, A19, d20, A23, d24, rfl, hs17, hs21, hs25⟩ := id hr2
  have z18 := hs17.size
  unfold big at z18
  have z22 := hs21.size
  unfold big at z22
  have z26 := hs25.size
  unfold big at z26
  refine fn_enter (vs := [.agg #[.slice A15 b.names.concepts.length d16, .slice A19 b.names.roles.length d20, .slice A23 b.names.inds.length d24, .slice A3 b.incls.length d4, .slice A6 b.roles.length d7, .slice A9 b.facts.length d10, .slice A12 b.links.length d13]]) Tryz.func34 rfl rfl rfl ?_ hw
  refine tc_seq <| tc_region ?_
  refine tl_box_agg (l := [.slice A15 b.names.concepts.length d16, .slice A19 b.names.roles.length d20, .slice A23 b.names.inds.length d24, .slice A3 b.incls.length d4, .slice A6 b.roles.length d7, .slice A9 b.facts.length d10, .slice A12 b.links.length d13]) rfl rfl fun b31 => ?_
  refine tl (v_assign rfl) ?_
  refine tl_nil <| tx_then <| tc_seq <| tc_seq <| tc_region ?_
  refine tl (v_ld_agg 0 [.slice A15 b.names.concepts.length d16, .slice A19 b.names.roles.length d20, .slice A23 b.names.inds.length d24, .slice A3 b.incls.length d4, .slice A6 b.roles.length d7, .slice A9 b.facts.length d10, .slice A12 b.links.length d13] rfl ld30 rfl rfl) ?_
  refine tl_callv ca66 rfl (fun w hw => kb_Valid_ok b hr_b (by first | assumption | omega) hw) rfl ?_
  refine tl (v_neg rfl) ?_
  refine tl_nil <| tx_then ?_
  refine tc_splitb 5 rfl (fun h32 => ?_) (fun h32 => ?_)
  ·
   refine tc_yes rfl ?_
   refine tc_seq <| tc_region ?_
   refine tl (v_assign rfl) ?_
   refine tl_nil <| tx_then <| tc_ret <| tx_then_ret ?_
   refine tx_ret1 (.inl rfl) rfl rfl ?_
   have e33 : (20 : Int) = (if baseB b = true then 0 else 20 : Int) := by (symm; first | (rw [if_pos (by grind)]) | (rw [if_neg (by grind)]))
   exact fun w hw => ⟨congrArg Ending.returned (congrArg (fun x0 => Value.int .i64 x0) e33), hw.drop 1⟩
  ·
   refine tc_no rfl ?_
   refine tc_skip <| tx_then <| tc_seq <| tc_region ?_
   refine tl (v_assign rfl) ?_
   refine tl_nil <| tx_then <| tc_ret ?_
   refine tx_ret1 (.inl rfl) rfl rfl ?_
   have e34 : (0 : Int) = (if baseB b = true then 0 else 20 : Int) := by (symm; first | (rw [if_pos (by grind)]) | (rw [if_neg (by grind)]))
   exact fun w hw => ⟨congrArg Ending.returned (congrArg (fun x0 => Value.int .i64 x0) e34), hw.drop 1⟩

end Go.Proofs.YtcbcdlajnmkioaaGreatDoor
