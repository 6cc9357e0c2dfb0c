/- A part of the proof of the statement ModuleGrows of isagogelaw19: functions walked, and plain laws on what they answer. -/
import Derived.Test.YtcbcdlajnmkioaaGreatDoorT
namespace Go.Proofs.YtcbcdlajnmkioaaGreatDoor
open Go Go.Proofs
set_option linter.unusedSimpArgs false
set_option linter.unusedVariables false
theorem ca114 : Callable Tryz.prog 114 := ⟨by kernel_rfl⟩
theorem ca168 : Callable Tryz.prog 168 := ⟨by kernel_rfl⟩
theorem fo162_0 : fieldOff Tryz.prog 162 0 = some 0 := by kernel_rfl
theorem fo162_1 : fieldOff Tryz.prog 162 1 = some 3 := by kernel_rfl
theorem fo164_0 : fieldOff Tryz.prog 164 0 = some 0 := by kernel_rfl
theorem fo164_1 : fieldOff Tryz.prog 164 1 = some 1 := by kernel_rfl
theorem ld163 : ldInfo Tryz.prog 163 = some (true, 2) := by kernel_rfl
theorem ld165 : ldInfo Tryz.prog 165 = some (true, 3) := by kernel_rfl
theorem pl24 : places Tryz.prog 24 = some (true, [(0, 1), (1, 1), (2, 1)], 0) := by kernel_rfl
theorem pl87 : places Tryz.prog 87 = some (true, [(0, 1), (1, 3)], 0) := by kernel_rfl
theorem pl92 : places Tryz.prog 92 = some (true, [(0, 3), (3, 3)], 0) := by kernel_rfl
theorem zc24 : zcells Tryz.prog 24 = some [.slice none 0 0, .slice none 0 0, .slice none 0 0] := by kernel_rfl

theorem slAt_none {α} {k : Kd α} {R : RO} {A : Option Addr} {l : List α} (h : SlAt k R A l) (hA : A.isNone = true) : l = [] := by
  rcases l with _ | ⟨x, l⟩
  · rfl
  · obtain ⟨b, o, e⟩ := h.addr (by simp)
    rw [e] at hA; cases hA
theorem len_le_nodesL : ∀ l : List Concept, l.length ≤ nodesL l
  | [] => Nat.le_refl _
  | x :: xs => by have := len_le_nodesL xs; have := nodesC_pos x; simp only [nodesL, List.length_cons]; omega

set_option maxRecDepth 20000 in
set_option maxHeartbeats 8000000 in
theorem slices_Clone_string_string_ok {R : RO} {G : List Res} {w : World} {A_l : Option Addr} {d_l : Nat} (l : List (ByteArray)) (hs_l : SlAt kStr R A_l l) (hb : l.length ≤ 1000) (hw : Own w R (G)) :
    Calls Tryz.prog 114 [.slice A_l l.length d_l].toArray w (RetO R G (fun v_ R' L_ => ∃ (A_0 : Option Addr) (c_0 : Nat) (l_0 : List Value), v_ = (.slice A_0 l.length c_0 : Value) ∧ L_ = ([.vec (.slice A_0 l.length c_0) l.length 9 1 l_0] : List Res) ∧ (kStr).reps R' l l_0)) := by
  have hz_l := hs_l.size
  unfold big at hz_l
  refine fn_enter (vs := [.slice A_l l.length d_l]) Tryz.func114 rfl rfl rfl ?_ hw
  refine tc_seq <| tc_region ?_
  refine tl (v_assign rfl) ?_
  refine tl_nil <| tx_then <| tc_seq <| tc_seq <| tc_region ?_
  refine tl (v_move rfl) ?_
  refine tl (v_slnil rfl rfl sl22) ?_
  refine tl_nil <| tx_then ?_
  refine tc_splitb 4 rfl (fun h2 => ?_) (fun h2 => ?_)
  ·
   refine tc_yes rfl ?_
   refine tc_seq <| tc_region ?_
   refine tl (v_assign rfl) ?_
   refine tl_nil <| tx_then <| tc_ret <| tx_then_ret ?_
   refine tx_G _ (fun w hw => hw.vecnil 9 1) ?_
   have hv3 : (kStr).reps R [] [] := rfl
   refine tx_ret1 (.inl rfl) rfl rfl ?_
   have e5 : (([] : List (ByteArray)) : List (ByteArray)) = l := by exact (slAt_none hs_l h2).symm
   intro w hw
   exact ⟨_, _, [.vec (.slice none 0 0) 0 9 1 []], rfl, .refl _, hw, none, 0, [], (congrArg (fun (z0_ : List (ByteArray)) => (.slice none z0_.length 0 : Value)) e5), (congrArg (fun (z0_ : List (ByteArray)) => ([.vec (.slice none z0_.length 0) z0_.length 9 1 []] : List Res)) e5), (Eq.mp (congrArg (fun z => (kStr).reps R z []) e5) hv3)⟩
  ·
   refine tc_no rfl ?_
   refine tc_skip <| tx_then <| tc_seq <| tc_region ?_
   refine tl_bslice [] ap22 rfl rfl rfl rfl rfl rfl rfl fun b6 => ?_
   refine tl (v_move rfl) ?_
   refine tl_blkvec 0 0 1 rfl rfl rfl ?_
   have hv7 : (kStr).reps R ([] : List (ByteArray)) [] := rfl
   obtain ⟨ds13, rp14, src15⟩ := src_slAt ones_str hs_l
   refine tl_appS' (k := kStr) (m := l) 0 hv7 (rp14) ap22 rfl rfl rfl (rfl) (src15 _) (by first | omega | (simp; omega)) rfl rfl fun A9 c10 l11 hv12 => ?_
   refine tl (v_assign rfl) ?_
   refine tl_nil <| tx_then <| tc_ret ?_
   refine tx_ret1 (.inl rfl) rfl rfl ?_
   have e17 : ((([] : List (ByteArray)) ++ l) : List (ByteArray)) = l := by first | rfl | simp
   intro w hw
   exact ⟨_, _, [.vec (.slice A9 ((([] : List (ByteArray)) ++ l).length) c10) ((([] : List (ByteArray)) ++ l).length) 9 1 l11], rfl, .refl _, hw, A9, c10, l11, (congrArg (fun (z0_ : List (ByteArray)) => (.slice A9 z0_.length c10 : Value)) e17), (congrArg (fun (z0_ : List (ByteArray)) => ([.vec (.slice A9 z0_.length c10) z0_.length 9 1 l11] : List Res)) e17), (Eq.mp (congrArg (fun z => (kStr).reps R z l11) e17) hv12)⟩

set_option maxRecDepth 20000 in
set_option maxHeartbeats 8000000 in
theorem slices_Clone_int_int_ok {R : RO} {G : List Res} {w : World} {A_l : Option Addr} {d_l : Nat} (l : List (Int)) (hs_l : SlAt kInt R A_l l) (hb : l.length ≤ 1000) (hw : Own w R (G)) :
    Calls Tryz.prog 69 [.slice A_l l.length d_l].toArray w (RetO R G (fun v_ R' L_ => ∃ (A_0 : Option Addr) (c_0 : Nat) (l_0 : List Value), v_ = (.slice A_0 l.length c_0 : Value) ∧ L_ = ([.vec (.slice A_0 l.length c_0) l.length 3 1 l_0] : List Res) ∧ (kInt).reps R' l l_0)) := by
  have hz_l := hs_l.size
  unfold big at hz_l
  refine fn_enter (vs := [.slice A_l l.length d_l]) Tryz.func69 rfl rfl rfl ?_ hw
  refine tc_seq <| tc_region ?_
  refine tl (v_assign rfl) ?_
  refine tl_nil <| tx_then <| tc_seq <| tc_seq <| tc_region ?_
  refine tl (v_move rfl) ?_
  refine tl (v_slnil rfl rfl sl31) ?_
  refine tl_nil <| tx_then ?_
  refine tc_splitb 4 rfl (fun h2 => ?_) (fun h2 => ?_)
  ·
   refine tc_yes rfl ?_
   refine tc_seq <| tc_region ?_
   refine tl (v_assign rfl) ?_
   refine tl_nil <| tx_then <| tc_ret <| tx_then_ret ?_
   refine tx_G _ (fun w hw => hw.vecnil 3 1) ?_
   have hv3 : (kInt).reps R [] [] := rfl
   refine tx_ret1 (.inl rfl) rfl rfl ?_
   have e5 : (([] : List (Int)) : List (Int)) = l := by exact (slAt_none hs_l h2).symm
   intro w hw
   exact ⟨_, _, [.vec (.slice none 0 0) 0 3 1 []], rfl, .refl _, hw, none, 0, [], (congrArg (fun (z0_ : List (Int)) => (.slice none z0_.length 0 : Value)) e5), (congrArg (fun (z0_ : List (Int)) => ([.vec (.slice none z0_.length 0) z0_.length 3 1 []] : List Res)) e5), (Eq.mp (congrArg (fun z => (kInt).reps R z []) e5) hv3)⟩
  ·
   refine tc_no rfl ?_
   refine tc_skip <| tx_then <| tc_seq <| tc_region ?_
   refine tl_bslice [] ap31 rfl rfl rfl rfl rfl rfl rfl fun b6 => ?_
   refine tl (v_move rfl) ?_
   refine tl_blkvec 0 0 1 rfl rfl rfl ?_
   have hv7 : (kInt).reps R ([] : List (Int)) [] := rfl
   obtain ⟨ds13, rp14, src15⟩ := src_slAt ones_int hs_l
   refine tl_appS' (k := kInt) (m := l) 0 hv7 (rp14) ap31 rfl rfl rfl (rfl) (src15 _) (by first | omega | (simp; omega)) rfl rfl fun A9 c10 l11 hv12 => ?_
   refine tl (v_assign rfl) ?_
   refine tl_nil <| tx_then <| tc_ret ?_
   refine tx_ret1 (.inl rfl) rfl rfl ?_
   have e17 : ((([] : List (Int)) ++ l) : List (Int)) = l := by first | rfl | simp
   intro w hw
   exact ⟨_, _, [.vec (.slice A9 ((([] : List (Int)) ++ l).length) c10) ((([] : List (Int)) ++ l).length) 3 1 l11], rfl, .refl _, hw, A9, c10, l11, (congrArg (fun (z0_ : List (Int)) => (.slice A9 z0_.length c10 : Value)) e17), (congrArg (fun (z0_ : List (Int)) => ([.vec (.slice A9 z0_.length c10) z0_.length 3 1 l11] : List Res)) e17), (Eq.mp (congrArg (fun z => (kInt).reps R z l11) e17) hv12)⟩

set_option maxRecDepth 20000 in
set_option maxHeartbeats 8000000 in
theorem concept_Copied_ok_ (m : Nat) : ∀ {R : RO} {G : List Res} {w : World} {c_c : List Value} (c : Concept) (hr_c : kConcept.rep R c c_c) (hb : nodesC c ≤ 1000), SizeOf.sizeOf c = m → Own w R (G) →
    Calls Tryz.prog 168 [.agg c_c.toArray].toArray w (RetO R G (fun v_ R' L_ => ∃ (cs_0 : List Value), v_ = (.agg cs_0.toArray : Value) ∧ L_ = ([] : List Res) ∧ kConcept.rep R' c cs_0)) := by
  induction m using Nat.strongRecOn with
  | _ m ih =>
  intro R G w c_c c hr_c hb hm hw
  subst hm
  replace ih := Aside.mk ih
  obtain ⟨A1, d2, rfl, i3, i4, hs5⟩ := kConcept_open hr_c
  unfold i64 at i3 i4
  have z6 := hs5.size
  unfold big at z6
  have hne := nodesC_eq c
  have hll := len_le_nodesL c.args
  refine fn_enter (vs := [.agg #[.int .i64 c.op, .int .i64 c.n, .slice A1 c.args.length d2]]) Tryz.func168 rfl rfl rfl ?_ hw
  refine tc_seq <| tc_region ?_
  refine tl_box_agg (l := [.int .i64 c.op, .int .i64 c.n, .slice A1 c.args.length d2]) rfl rfl fun b7 => ?_
  refine tl_alloc zc37 rfl fun b8 => ?_
  refine tl_nil <| tx_then <| tc_seq <| tc_region ?_
  refine tl (v_fieldAddr 2 rfl fo37_2 rfl) ?_
  refine tl (v_ld 1 rfl ld35 rfl rfl) ?_
  refine tl (v_assign rfl) ?_
  refine tl_nil <| tx_then <| tc_seq <| tc_region ?_
  refine tl (v_fieldAddr 2 rfl fo37_2 rfl) ?_
  refine tl_st 1 [.int .i64 c.op, .int .i64 c.n, .slice none 0 0] rfl rfl ld35 rfl rfl rfl rfl rfl rfl ?_
  refine tl_nil <| tx_then <| tc_seq <| tc_seq <| tc_region ?_
  refine tl (v_move rfl) ?_
  refine tl (v_len rfl sl35) ?_
  refine tl (v_move rfl) ?_
  refine tl_nil <| tx_then <| tc_block ?_
  refine tc_G _ (fun w hw => hw.vecnil 37 3) ?_
  have hv9 : (kConcept).reps R [] [] := rfl
  refine tc_loop ?_
  refine th_loop (fun b_ : Nat × List (Concept) × Option Addr × Nat × List Value => match b_ with | (i, acc, A_acc, c_acc, l_acc) => c.args.length - i) (fun b_ : Nat × List (Concept) × Option Addr × Nat × List Value => match b_ with | (i, acc, A_acc, c_acc, l_acc) => [(1, .pointer (some ⟨b7, 0, none⟩)), (2, .pointer (some ⟨b8, 0, none⟩)), (9, .slice A1 c.args.length d2), (10, .int .i64 (c.args.length : Int)), (11, .int .i64 (i : Int))]) (fun b_ : Nat × List (Concept) × Option Addr × Nat × List Value => match b_ with | (i, acc, A_acc, c_acc, l_acc) => (.vec (.slice A_acc acc.length c_acc) acc.length 37 3 l_acc :: .blk b8 [.int .i64 0, .int .i64 0, .slice none 0 0] 37 :: .blk b7 [.int .i64 c.op, .int .i64 c.n, .slice A_acc acc.length c_acc] 37 :: G)) (fun (b_ : Nat × List (Concept) × Option Addr × Nat × List Value) (R_ : RO) => match b_ with | (i, acc, A_acc, c_acc, l_acc) => (kConcept).reps R_ acc l_acc ∧ (i ≤ c.args.length ∧ acc = c.args.take i)) (0, ([] : List (Concept)), none, 0, []) ⟨rfl, rfl, rfl, rfl, rfl, trivial⟩ (by refine ⟨hv9, ?_⟩; exact ⟨by omega, rfl⟩) (fun w hw => hw) ?_
  rintro ⟨i, acc, A_acc, c_acc, l_acc⟩ R15 hle16 hI13 ih14
  try replace hs5 := hs5.mono hle16
  try replace hr_c := kConcept.mono _ _ _ _ hle16 hr_c
  show TC Tryz.prog _ _ _ [] [(1, .pointer (some ⟨b7, 0, none⟩)), (2, .pointer (some ⟨b8, 0, none⟩)), (9, .slice A1 c.args.length d2), (10, .int .i64 (c.args.length : Int)), (11, .int .i64 (i : Int))] R15 (.vec (.slice A_acc acc.length c_acc) acc.length 37 3 l_acc :: .blk b8 [.int .i64 0, .int .i64 0, .slice none 0 0] 37 :: .blk b7 [.int .i64 c.op, .int .i64 c.n, .slice A_acc acc.length c_acc] 37 :: G)
  obtain ⟨hv12, hI17⟩ := hI13
  obtain ⟨hi1, hi2⟩ := hI17
  have hal : acc.length ≤ 1000 := by rw [hi2, List.length_take]; omega
  refine tc_seq <| tc_region ?_
  refine tl (v_ib rfl rfl rfl) ?_
  refine tl_nil <| tx_then <| tc_seq ?_
  refine tc_split 12 rfl (fun h18 => ?_) (fun h18 => ?_)
  ·
   refine tc_yes rfl ?_
   refine tc_skip <| tx_then <| tc_seq <| tc_block <| tc_seq <| tc_region ?_
   have hb24 : i < c.args.length := by omega
   obtain ⟨x19, hx20⟩ : ∃ x, c.args[i]? = some x := ⟨_, List.getElem?_eq_getElem hb24⟩
   obtain ⟨c21, hr22, ha23⟩ := hs5.get _ x19 hx20
   obtain ⟨A25, d26, rfl, i27, i28, hs29⟩ := kConcept_open hr22
   unfold i64 at i27 i28
   have z30 := hs29.size
   unfold big at z30
   have hf31 := nodesL_mem hx20
   have hf32 := take_succ_at hx20
   refine tl (v_idxS (i := i) hs5 rfl rfl rfl sl35 hb24) ?_
   refine tl (v_ldA_agg 0 [.int .i64 x19.op, .int .i64 x19.n, .slice A25 x19.args.length d26] ha23 rfl ld37 rfl rfl) ?_
   refine tl_alloc zc37 rfl fun b33 => ?_
   refine tl_st 0 [.int .i64 x19.op, .int .i64 x19.n, .slice A25 x19.args.length d26] rfl rfl ld37 rfl rfl rfl rfl rfl rfl ?_
   refine tl_nil <| tx_then ?_
   refine tc_draw R15 (.blk b33 [.int .i64 x19.op, .int .i64 x19.n, .slice A25 x19.args.length d26] 37 :: .blk b8 [.int .i64 0, .int .i64 0, .slice none 0 0] 37 :: .blk b7 [.int .i64 c.op, .int .i64 c.n, .slice A_acc acc.length c_acc] 37 :: G) 7 mixed ?_
   refine td 0 rfl (by kernel_rfl) (v_fieldAddr 2 rfl fo37_2 rfl) (fun w hw => ((((hw.pick 1).tail.pick 2).pick 2).pick 2)) ?_
   refine td 1 rfl (by kernel_rfl) (v_ld 2 rfl ld35 rfl rfl) (fun w hw => ((((hw.pick 1).tail.pick 2).pick 2).pick 2)) ?_
   refine td 2 rfl (by kernel_rfl) (v_ld_agg 0 [.int .i64 x19.op, .int .i64 x19.n, .slice A25 x19.args.length d26] rfl ld37 rfl rfl) (fun w hw => ((((hw.pick 1).tail.pick 2).pick 2).pick 2)) ?_
   refine td1 3 (by kernel_rfl) rfl ?_
   refine tl_callo ca168 rfl (fun w hw => ih.out (SizeOf.sizeOf x19) (by exact Concept.sizeOf_arg hx20) x19 hr22 (by omega) rfl hw) rfl ?_
   rintro _ R35 _ hle36 ⟨cs_z34_0, rfl, rfl, hr_z34_0⟩
   try replace hr_c := kConcept.mono _ _ _ _ hle36 hr_c
   try replace hv12 := Kd.reps_mono hle36 hv12
   have hle37 := hle16.trans hle36
   obtain ⟨A38, d39, rfl, i40, i41, hs42⟩ := kConcept_open hr_z34_0
   unfold i64 at i40 i41
   have z43 := hs42.size
   unfold big at z43
   refine tl_nil ?_
   refine tx_td (fun w hw => (((((hw.pick 1).tail.pick 2).pick 2).pick 2)).weaken hle36) ?_
   refine td1 4 (by kernel_rfl) rfl ?_
   refine tl_bslice [.int .i64 x19.op, .int .i64 x19.n, .slice A38 x19.args.length d39] ap35 rfl rfl rfl rfl rfl rfl rfl fun b44 => ?_
   refine tl_nil ?_
   refine tx_td (fun w hw => (((((hw.tail.pick 1).tail.pick 2).pick 2).pick 2)).weaken hle36) ?_
   refine td1 5 (by kernel_rfl) rfl ?_
   refine tl_app (k := kConcept) (e := x19) 2 0 hv12 (hr_z34_0) ap35 rfl rfl rfl rfl rfl (by omega) rfl rfl fun A45 c46 l47 hv48 => ?_
   refine tl_nil ?_
   refine tx_td (fun w hw => (((((hw.tail.pick 1).tail.pick 2).pick 2).pick 2)).weaken hle36) ?_
   refine td 6 rfl (by kernel_rfl) (v_fieldAddr 2 rfl fo37_2 rfl) (fun w hw => (((((hw.tail.pick 1).tail.pick 2).pick 2).pick 2)).weaken hle36) ?_
   refine td1 7 (by kernel_rfl) rfl ?_
   refine tl_st 4 [.int .i64 c.op, .int .i64 c.n, .slice A45 ((acc ++ [x19]).length) c46] rfl rfl ld35 rfl rfl rfl rfl rfl rfl ?_
   refine tl_nil ?_
   refine tx_tdz ?_
   refine td_done (by kernel_rfl) ?_
   refine tx_blk <| tx_then <| tc_region ?_
   refine tl (v_add rfl rfl (by omega) (by omega)) ?_
   refine tl (v_move rfl) ?_
   refine tl_nil ?_
   refine tx_round ?_
   exact fun a w ha hw => ih14.out (i + 1, (acc ++ [x19]), A45, c46, l47) _ (hle36) (by refine ⟨hv48, ?_⟩; exact ⟨by omega, by rw [hi2, take_succ_at hx20]⟩) (by (try dsimp only); omega) a w (ha.sub (lkAll_lk ⟨rfl, rfl, rfl, rfl, rfl, trivial⟩)) (hw.drop 2)
  ·
   refine tc_no rfl ?_
   refine tc_exit <| tx_then_exit <| tx_then_exit <| tx_blk_exit <| tx_then <| tc_seq <| tc_region ?_
   refine tl (v_ld_agg 2 [.int .i64 c.op, .int .i64 c.n, .slice A_acc acc.length c_acc] rfl ld37 rfl rfl) ?_
   refine tl_st 1 [.int .i64 c.op, .int .i64 c.n, .slice A_acc acc.length c_acc] rfl rfl ld37 rfl rfl rfl rfl rfl rfl ?_
   refine tl_nil <| tx_then <| tc_ret ?_
   refine tx_retireV (k := kConcept) (l := acc) 0 rfl hv12 rfl (by (unfold big; omega)) fun R51 hle52 hs50 => ?_
   try replace hr_c := kConcept.mono _ _ _ _ hle52 hr_c
   have hle53 := hle16.trans hle52
   have z54 := hs50.size
   unfold big at z54
   refine tx_retc (cells := [.int .i64 c.op, .int .i64 c.n, .slice A_acc acc.length c_acc]) 0 (.inl rfl) rfl rfl ld37 rfl ?_
   have e55 : ((Concept.mk c.op c.n acc) : Concept) = c := by (rw [hi2, take_all (by assumption) (by assumption)]; cases c; rfl)
   intro w hw
   exact ⟨_, _, [], rfl, hle53, hw.drop 2, ([.int .i64 c.op, .int .i64 c.n, .slice A_acc acc.length c_acc]), rfl, rfl, (Eq.mp (congrArg (fun z => kConcept.rep R51 z [.int .i64 c.op, .int .i64 c.n, .slice A_acc acc.length c_acc]) e55) (kConcept_mk (x := Concept.mk c.op c.n acc) (show i64 (c.op) from (by unfold i64; omega)) (show i64 (c.n) from (by unfold i64; omega)) hs50))⟩
theorem concept_Copied_ok {R : RO} {G : List Res} {w : World} {c_c : List Value} (c : Concept) (hr_c : kConcept.rep R c c_c) (hb : nodesC c ≤ 1000) (hw : Own w R (G)) :
    Calls Tryz.prog 168 [.agg c_c.toArray].toArray w (RetO R G (fun v_ R' L_ => ∃ (cs_0 : List Value), v_ = (.agg cs_0.toArray : Value) ∧ L_ = ([] : List Res) ∧ kConcept.rep R' c cs_0)) := concept_Copied_ok_ _ c hr_c hb rfl hw

set_option maxRecDepth 20000 in
set_option maxHeartbeats 8000000 in
theorem kb_Named_ok {R : RO} {G : List Res} {w : World} {c_n : List Value} (n : Names) (hr_n : kNames.rep R n c_n) (hb : n.concepts.length ≤ 1000 ∧ n.roles.length ≤ 1000 ∧ n.inds.length ≤ 1000) (hw : Own w R (G)) :
    Calls Tryz.prog 105 [.agg c_n.toArray].toArray w (RetO R G (fun v_ R' L_ => ∃ (A_0_0 : Option Addr) (d_0_0 : Nat) (A_0_1 : Option Addr) (d_0_1 : Nat) (A_0_2 : Option Addr) (d_0_2 : Nat), v_ = (.agg #[.slice A_0_0 n.concepts.length d_0_0, .slice A_0_1 n.roles.length d_0_1, .slice A_0_2 n.inds.length d_0_2, .slice none 0 0, .slice none 0 0, .slice none 0 0, .slice none 0 0] : Value) ∧ L_ = ([] : List Res) ∧ SlAt kStr R' A_0_0 n.concepts ∧ SlAt kStr R' A_0_1 n.roles ∧ SlAt kStr R' A_0_2 n.inds)) := by
  obtain ⟨A1, d2, A5, d6, A9, d10, rfl, hs3, hs7, hs11⟩ := id hr_n
  have z4 := hs3.size
  unfold big at z4
  have z8 := hs7.size
  unfold big at z8
  have z12 := hs11.size
  unfold big at z12
  refine fn_enter (vs := [.agg #[.slice A1 n.concepts.length d2, .slice A5 n.roles.length d6, .slice A9 n.inds.length d10]]) Tryz.func105 rfl rfl rfl ?_ hw
  refine tc_seq <| tc_region ?_
  refine tl_box_agg (l := [.slice A1 n.concepts.length d2, .slice A5 n.roles.length d6, .slice A9 n.inds.length d10]) rfl rfl fun b13 => ?_
  refine tl_alloc zc30 rfl fun b14 => ?_
  refine tl_nil <| tx_then <| tc_seq ?_
  refine tc_draw R (.blk b14 [.slice none 0 0, .slice none 0 0, .slice none 0 0, .slice none 0 0, .slice none 0 0, .slice none 0 0, .slice none 0 0] 30 :: .blk b13 [.slice A1 n.concepts.length d2, .slice A5 n.roles.length d6, .slice A9 n.inds.length d10] 24 :: G) 11 mixed ?_
  refine td 0 rfl (by kernel_rfl) (v_fieldAddr 0 rfl fo24_0 rfl) (fun w hw => hw) ?_
  refine td 1 rfl (by kernel_rfl) (v_ld 1 rfl ld22 rfl rfl) (fun w hw => hw) ?_
  refine td 3 rfl (by kernel_rfl) (v_fieldAddr 1 rfl fo24_1 rfl) (fun w hw => hw) ?_
  refine td 4 rfl (by kernel_rfl) (v_ld 1 rfl ld22 rfl rfl) (fun w hw => hw) ?_
  refine td 6 rfl (by kernel_rfl) (v_fieldAddr 2 rfl fo24_2 rfl) (fun w hw => hw) ?_
  refine td 7 rfl (by kernel_rfl) (v_ld 1 rfl ld22 rfl rfl) (fun w hw => hw) ?_
  refine td1 2 (by kernel_rfl) rfl ?_
  refine tl_callo ca114 rfl (fun w hw => slices_Clone_string_string_ok n.concepts hs3 (by first | assumption | omega) hw) rfl ?_
  rintro _ R16 _ hle17 ⟨A_z15_0, c_z15_0, l_z15_0, rfl, rfl, hv_z15_0⟩
  try replace hs7 := hs7.mono hle17
  try replace hs11 := hs11.mono hle17
  refine tl_nil ?_
  refine tx_td (fun w hw => (hw.drop 1).weaken hle17) ?_
  refine td1 5 (by kernel_rfl) rfl ?_
  refine tl_callo ca114 rfl (fun w hw => slices_Clone_string_string_ok n.roles hs7 (by first | assumption | omega) hw) rfl ?_
  rintro _ R19 _ hle20 ⟨A_z18_0, c_z18_0, l_z18_0, rfl, rfl, hv_z18_0⟩
  try replace hs11 := hs11.mono hle20
  try replace hv_z15_0 := Kd.reps_mono hle20 hv_z15_0
  have hle21 := hle17.trans hle20
  refine tl_nil ?_
  refine tx_td (fun w hw => (hw.drop 2).weaken hle21) ?_
  refine td1 8 (by kernel_rfl) rfl ?_
  refine tl_callo ca114 rfl (fun w hw => slices_Clone_string_string_ok n.inds hs11 (by first | assumption | omega) hw) rfl ?_
  rintro _ R23 _ hle24 ⟨A_z22_0, c_z22_0, l_z22_0, rfl, rfl, hv_z22_0⟩
  try replace hv_z15_0 := Kd.reps_mono hle24 hv_z15_0
  try replace hv_z18_0 := Kd.reps_mono hle24 hv_z18_0
  have hle25 := hle21.trans hle24
  have hle26 := hle20.trans hle24
  refine tl_nil ?_
  refine tx_td (fun w hw => (hw.drop 3).weaken hle25) ?_
  refine td 9 rfl (by kernel_rfl) (v_build [.slice A_z15_0 n.concepts.length c_z15_0, .slice A_z18_0 n.roles.length c_z18_0, .slice A_z22_0 n.inds.length c_z22_0] zc24 pl24 rfl rfl) (fun w hw => (hw.drop 3).weaken hle25) ?_
  refine td 10 rfl (by kernel_rfl) (v_build [.slice A_z15_0 n.concepts.length c_z15_0, .slice A_z18_0 n.roles.length c_z18_0, .slice A_z22_0 n.inds.length c_z22_0, .slice none 0 0, .slice none 0 0, .slice none 0 0, .slice none 0 0] zc30 pl30 rfl rfl) (fun w hw => (hw.drop 3).weaken hle25) ?_
  refine td1 11 (by kernel_rfl) rfl ?_
  refine tl_st 3 [.slice A_z15_0 n.concepts.length c_z15_0, .slice A_z18_0 n.roles.length c_z18_0, .slice A_z22_0 n.inds.length c_z22_0, .slice none 0 0, .slice none 0 0, .slice none 0 0, .slice none 0 0] rfl rfl ld30 rfl rfl rfl rfl rfl rfl ?_
  refine tl_nil ?_
  refine tx_tdz ?_
  refine td_done (by kernel_rfl) ?_
  refine tx_then <| tc_ret ?_
  refine tx_retireV (k := kStr) (l := n.concepts) 2 rfl hv_z15_0 rfl (by (unfold big; omega)) fun R28 hle29 hs27 => ?_
  try replace hv_z18_0 := Kd.reps_mono hle29 hv_z18_0
  try replace hv_z22_0 := Kd.reps_mono hle29 hv_z22_0
  have hle30 := hle25.trans hle29
  have hle31 := hle26.trans hle29
  have hle32 := hle24.trans hle29
  have z33 := hs27.size
  unfold big at z33
  refine tx_retireV (k := kStr) (l := n.roles) 1 rfl hv_z18_0 rfl (by (unfold big; omega)) fun R35 hle36 hs34 => ?_
  try replace hv_z22_0 := Kd.reps_mono hle36 hv_z22_0
  try replace hs27 := hs27.mono hle36
  have hle37 := hle30.trans hle36
  have hle38 := hle31.trans hle36
  have hle39 := hle32.trans hle36
  have hle40 := hle29.trans hle36
  have z41 := hs34.size
  unfold big at z41
  refine tx_retireV (k := kStr) (l := n.inds) 0 rfl hv_z22_0 rfl (by (unfold big; omega)) fun R43 hle44 hs42 => ?_
  try replace hs27 := hs27.mono hle44
  try replace hs34 := hs34.mono hle44
  have hle45 := hle37.trans hle44
  have hle46 := hle38.trans hle44
  have hle47 := hle39.trans hle44
  have hle48 := hle40.trans hle44
  have hle49 := hle36.trans hle44
  have z50 := hs42.size
  unfold big at z50
  refine tx_retc (cells := [.slice A_z15_0 n.concepts.length c_z15_0, .slice A_z18_0 n.roles.length c_z18_0, .slice A_z22_0 n.inds.length c_z22_0, .slice none 0 0, .slice none 0 0, .slice none 0 0, .slice none 0 0]) 0 (.inl rfl) rfl rfl ld30 rfl ?_
  have e51 : (n.concepts : List (ByteArray)) = n.concepts := by rfl
  have e52 : (n.roles : List (ByteArray)) = n.roles := by rfl
  have e53 : (n.inds : List (ByteArray)) = n.inds := by rfl
  intro w hw
  exact ⟨_, _, [], rfl, hle45, hw.drop 2, A_z15_0, c_z15_0, A_z18_0, c_z18_0, A_z22_0, c_z22_0, (Eq.trans (Eq.trans (congrArg (fun (z0_ : List (ByteArray)) => (.agg #[.slice A_z15_0 z0_.length c_z15_0, .slice A_z18_0 n.roles.length c_z18_0, .slice A_z22_0 n.inds.length c_z22_0, .slice none 0 0, .slice none 0 0, .slice none 0 0, .slice none 0 0] : Value)) e51) (congrArg (fun (z1_ : List (ByteArray)) => (.agg #[.slice A_z15_0 n.concepts.length c_z15_0, .slice A_z18_0 z1_.length c_z18_0, .slice A_z22_0 n.inds.length c_z22_0, .slice none 0 0, .slice none 0 0, .slice none 0 0, .slice none 0 0] : Value)) e52)) (congrArg (fun (z2_ : List (ByteArray)) => (.agg #[.slice A_z15_0 n.concepts.length c_z15_0, .slice A_z18_0 n.roles.length c_z18_0, .slice A_z22_0 z2_.length c_z22_0, .slice none 0 0, .slice none 0 0, .slice none 0 0, .slice none 0 0] : Value)) e53)), rfl, (Eq.mp (congrArg (fun z => SlAt kStr R43 A_z15_0 z) e51) hs27), (Eq.mp (congrArg (fun z => SlAt kStr R43 A_z18_0 z) e52) hs34), (Eq.mp (congrArg (fun z => SlAt kStr R43 A_z22_0 z) e53) hs42)⟩

inductive Ax where
  | incl (x : Incl)
  | role (x : RoleIncl)
  | fact (x : Fact)
  | link (x : Link)
def kAx : Kd Ax := ⟨1, fun R x cs => match x with
    | .incl y => ∃ c, kIncl.rep R y c ∧ cs = [.iface 162 (.agg c.toArray)]
    | .role y => ∃ c, kRoleIncl.rep R y c ∧ cs = [.iface 163 (.agg c.toArray)]
    | .fact y => ∃ c, kFact.rep R y c ∧ cs = [.iface 164 (.agg c.toArray)]
    | .link y => ∃ c, kLink.rep R y c ∧ cs = [.iface 165 (.agg c.toArray)],
  fun R x cs h => by cases x <;> (obtain ⟨c, _, rfl⟩ := h; rfl),
  fun R R' x cs hle h => by cases x <;> (obtain ⟨c, h1, rfl⟩ := h; exact ⟨c, Kd.mono _ _ _ _ _ hle h1, rfl⟩)⟩
theorem kAx_open {R : RO} {x : Ax} {cs : List Value} (h : kAx.rep R x cs) : ∃ t v, cs = [.iface t v] ∧ kAx.rep R x [.iface t v] := by
  cases x <;> (obtain ⟨c, h1, rfl⟩ := h; exact ⟨_, _, rfl, c, h1, rfl⟩)
theorem ones_ax : kAx.Ones := fun _ x cs h => by cases x <;> (obtain ⟨c, _, rfl⟩ := h; rfl)

set_option maxRecDepth 20000 in
set_option maxHeartbeats 8000000 in
theorem kb_incl_add_ok {R : RO} {G : List Res} {w : World} {c_x : List Value} (x : Incl) (l : List (Incl)) {b_l : Nat} {A_l : Option Addr} {c_l : Nat} {l_l : List Value} {q0_l q1_l q2_l q4_l q5_l q6_l : Value} (hr_x : kIncl.rep R x c_x) (hv_l : (kIncl).reps R l l_l) (hb : nodesC x.sub ≤ 1000 ∧ nodesC x.sup ≤ 1000 ∧ l.length ≤ 1000) (hw : Own w R (.blk b_l [q0_l, q1_l, q2_l, .slice A_l l.length c_l, q4_l, q5_l, q6_l] 30 :: .vec (.slice A_l l.length c_l) l.length 92 6 l_l :: G)) :
    Calls Tryz.prog 166 [.agg c_x.toArray, .pointer (some ⟨b_l, 0, none⟩)].toArray w (RetO R G (fun v_ R' L_ => ∃ (A_p_l : Option Addr) (c_p_l : Nat) (l_p_l : List Value), v_ = (.tuple #[] : Value) ∧ L_ = ([.blk b_l [q0_l, q1_l, q2_l, .slice A_p_l ((l ++ [x]).length) c_p_l, q4_l, q5_l, q6_l] 30, .vec (.slice A_p_l ((l ++ [x]).length) c_p_l) ((l ++ [x]).length) 92 6 l_p_l] : List Res) ∧ (kIncl).reps R' (l ++ [x]) l_p_l)) := by
  obtain ⟨c1, c2, rfl, hr3, hr4⟩ := id hr_x
  obtain ⟨A5, d6, rfl, i7, i8, hs9⟩ := kConcept_open hr3
  unfold i64 at i7 i8
  have z10 := hs9.size
  unfold big at z10
  obtain ⟨A11, d12, rfl, i13, i14, hs15⟩ := kConcept_open hr4
  unfold i64 at i13 i14
  have z16 := hs15.size
  unfold big at z16
  refine fn_enter (vs := [.agg #[.int .i64 x.sub.op, .int .i64 x.sub.n, .slice A5 x.sub.args.length d6, .int .i64 x.sup.op, .int .i64 x.sup.n, .slice A11 x.sup.args.length d12], .pointer (some ⟨b_l, 0, none⟩)]) Tryz.func166 rfl rfl rfl ?_ hw
  refine tc_seq <| tc_region ?_
  refine tl_box_agg (l := [.int .i64 x.sub.op, .int .i64 x.sub.n, .slice A5 x.sub.args.length d6, .int .i64 x.sup.op, .int .i64 x.sup.n, .slice A11 x.sup.args.length d12]) rfl rfl fun b19 => ?_
  refine tl_nil <| tx_then ?_
  refine tc_draw R (.blk b19 [.int .i64 x.sub.op, .int .i64 x.sub.n, .slice A5 x.sub.args.length d6, .int .i64 x.sup.op, .int .i64 x.sup.n, .slice A11 x.sup.args.length d12] 162 :: .blk b_l [q0_l, q1_l, q2_l, .slice A_l l.length c_l, q4_l, q5_l, q6_l] 30 :: G) 16 mixed ?_
  refine td 0 rfl (by kernel_rfl) (v_move rfl) (fun w hw => (((hw.pick 2).tail.pick 1).pick 1)) ?_
  refine td 1 rfl (by kernel_rfl) (v_move rfl) (fun w hw => (((hw.pick 2).tail.pick 1).pick 1)) ?_
  refine td 2 rfl (by kernel_rfl) (v_nilchk rfl) (fun w hw => (((hw.pick 2).tail.pick 1).pick 1)) ?_
  refine td 3 rfl (by kernel_rfl) (v_fieldAddr 3 rfl fo30_1 rfl) (fun w hw => (((hw.pick 2).tail.pick 1).pick 1)) ?_
  refine td 4 rfl (by kernel_rfl) (v_ld 1 rfl ld25 rfl rfl) (fun w hw => (((hw.pick 2).tail.pick 1).pick 1)) ?_
  refine td 5 rfl (by kernel_rfl) (v_fieldAddr 0 rfl fo162_0 rfl) (fun w hw => (((hw.pick 2).tail.pick 1).pick 1)) ?_
  refine td 6 rfl (by kernel_rfl) (v_ld_agg 0 [.int .i64 x.sub.op, .int .i64 x.sub.n, .slice A5 x.sub.args.length d6] rfl ld37 rfl rfl) (fun w hw => (((hw.pick 2).tail.pick 1).pick 1)) ?_
  refine td 8 rfl (by kernel_rfl) (v_fieldAddr 3 rfl fo162_1 rfl) (fun w hw => (((hw.pick 2).tail.pick 1).pick 1)) ?_
  refine td 9 rfl (by kernel_rfl) (v_ld_agg 0 [.int .i64 x.sup.op, .int .i64 x.sup.n, .slice A11 x.sup.args.length d12] rfl ld37 rfl rfl) (fun w hw => (((hw.pick 2).tail.pick 1).pick 1)) ?_
  refine td1 7 (by kernel_rfl) rfl ?_
  refine tl_callo ca168 rfl (fun w hw => concept_Copied_ok x.sub hr3 (by first | assumption | omega) hw) rfl ?_
  rintro _ R21 _ hle22 ⟨cs_z20_0, rfl, rfl, hr_z20_0⟩
  try replace hr4 := kConcept.mono _ _ _ _ hle22 hr4
  try replace hv_l := Kd.reps_mono hle22 hv_l
  obtain ⟨A23, d24, rfl, i25, i26, hs27⟩ := kConcept_open hr_z20_0
  unfold i64 at i25 i26
  have z28 := hs27.size
  unfold big at z28
  refine tl_nil ?_
  refine tx_td (fun w hw => ((((hw.pick 2).tail.pick 1).pick 1)).weaken hle22) ?_
  refine td1 10 (by kernel_rfl) rfl ?_
  refine tl_callo ca168 rfl (fun w hw => concept_Copied_ok x.sup hr4 (by first | assumption | omega) hw) rfl ?_
  rintro _ R30 _ hle31 ⟨cs_z29_0, rfl, rfl, hr_z29_0⟩
  try replace hv_l := Kd.reps_mono hle31 hv_l
  try replace hr_z20_0 := kConcept.mono _ _ _ _ hle31 hr_z20_0
  have hle32 := hle22.trans hle31
  obtain ⟨A33, d34, rfl, i35, i36, hs37⟩ := kConcept_open hr_z29_0
  unfold i64 at i35 i36
  have z38 := hs37.size
  unfold big at z38
  refine tl_nil ?_
  refine tx_td (fun w hw => ((((hw.pick 2).tail.pick 1).pick 1)).weaken hle32) ?_
  refine td 11 rfl (by kernel_rfl) (v_build [.int .i64 x.sub.op, .int .i64 x.sub.n, .slice A23 x.sub.args.length d24, .int .i64 x.sup.op, .int .i64 x.sup.n, .slice A33 x.sup.args.length d34] zc92 pl92 rfl rfl) (fun w hw => ((((hw.pick 2).tail.pick 1).pick 1)).weaken hle32) ?_
  refine td1 12 (by kernel_rfl) rfl ?_
  refine tl_bslice [.int .i64 x.sub.op, .int .i64 x.sub.n, .slice A23 x.sub.args.length d24, .int .i64 x.sup.op, .int .i64 x.sup.n, .slice A33 x.sup.args.length d34] ap25 rfl rfl rfl rfl rfl rfl rfl fun b39 => ?_
  refine tl_nil ?_
  refine tx_td (fun w hw => ((((hw.tail.pick 2).tail.pick 1).pick 1)).weaken hle32) ?_
  refine td1 13 (by kernel_rfl) rfl ?_
  refine tl_app (k := kIncl) (e := (Incl.mk x.sub x.sup)) 3 0 hv_l (⟨[.int .i64 x.sub.op, .int .i64 x.sub.n, .slice A23 x.sub.args.length d24], [.int .i64 x.sup.op, .int .i64 x.sup.n, .slice A33 x.sup.args.length d34], rfl, hr_z20_0, hr_z29_0⟩) ap25 rfl rfl rfl rfl rfl (by omega) rfl rfl fun A40 c41 l42 hv43 => ?_
  refine tl_nil ?_
  refine tx_td (fun w hw => ((((hw.tail.pick 2).tail.pick 1).pick 1)).weaken hle32) ?_
  refine td1 14 (by kernel_rfl) rfl ?_
  refine tl (v_nilchk rfl) ?_
  refine tl_nil ?_
  refine tx_td (fun w hw => ((((hw.tail.pick 2).tail.pick 1).pick 1)).weaken hle32) ?_
  refine td 15 rfl (by kernel_rfl) (v_fieldAddr 3 rfl fo30_1 rfl) (fun w hw => ((((hw.tail.pick 2).tail.pick 1).pick 1)).weaken hle32) ?_
  refine td1 16 (by kernel_rfl) rfl ?_
  refine tl_st 2 [q0_l, q1_l, q2_l, .slice A40 ((l ++ [(Incl.mk x.sub x.sup)]).length) c41, q4_l, q5_l, q6_l] rfl rfl ld25 rfl rfl rfl rfl rfl rfl ?_
  refine tl_nil ?_
  refine tx_tdz ?_
  refine td_done (by kernel_rfl) ?_
  refine tx_ret0 (.inr rfl) rfl ?_
  have e45 : ((l ++ [(Incl.mk x.sub x.sup)]) : List (Incl)) = l ++ [x] := by rfl
  intro w hw
  exact ⟨_, _, [.blk b_l [q0_l, q1_l, q2_l, .slice A40 ((l ++ [(Incl.mk x.sub x.sup)]).length) c41, q4_l, q5_l, q6_l] 30, .vec (.slice A40 ((l ++ [(Incl.mk x.sub x.sup)]).length) c41) ((l ++ [(Incl.mk x.sub x.sup)]).length) 92 6 l42], rfl, hle32, hw.drop 2, A40, c41, l42, rfl, (congrArg (fun (z0_ : List (Incl)) => ([.blk b_l [q0_l, q1_l, q2_l, .slice A40 z0_.length c41, q4_l, q5_l, q6_l] 30, .vec (.slice A40 z0_.length c41) z0_.length 92 6 l42] : List Res)) e45), (Eq.mp (congrArg (fun z => (kIncl).reps R30 z l42) e45) hv43)⟩

set_option maxRecDepth 20000 in
set_option maxHeartbeats 8000000 in
theorem kb_role_add_ok {R : RO} {G : List Res} {w : World} {c_x : List Value} (x : RoleIncl) (l : List (RoleIncl)) {b_l : Nat} {A_l : Option Addr} {c_l : Nat} {l_l : List Value} {q0_l q1_l q2_l q3_l q5_l q6_l : Value} (hr_x : kRoleIncl.rep R x c_x) (hv_l : (kRoleIncl).reps R l l_l) (hb : l.length ≤ 1000) (hw : Own w R (.blk b_l [q0_l, q1_l, q2_l, q3_l, .slice A_l l.length c_l, q5_l, q6_l] 30 :: .vec (.slice A_l l.length c_l) l.length 84 2 l_l :: G)) :
    Calls Tryz.prog 169 [.agg c_x.toArray, .pointer (some ⟨b_l, 0, none⟩)].toArray w (RetO R G (fun v_ R' L_ => ∃ (A_p_l : Option Addr) (c_p_l : Nat) (l_p_l : List Value), v_ = (.tuple #[] : Value) ∧ L_ = ([.blk b_l [q0_l, q1_l, q2_l, q3_l, .slice A_p_l ((l ++ [x]).length) c_p_l, q5_l, q6_l] 30, .vec (.slice A_p_l ((l ++ [x]).length) c_p_l) ((l ++ [x]).length) 84 2 l_p_l] : List Res) ∧ (kRoleIncl).reps R' (l ++ [x]) l_p_l)) := by
  obtain ⟨rfl, i1, i2⟩ := id hr_x
  unfold i64 at i1
  unfold i64 at i2
  refine fn_enter (vs := [.agg #[.int .i64 x.sub, .int .i64 x.sup], .pointer (some ⟨b_l, 0, none⟩)]) Tryz.func169 rfl rfl rfl ?_ hw
  refine tc_seq <| tc_region ?_
  refine tl_box_agg (l := [.int .i64 x.sub, .int .i64 x.sup]) rfl rfl fun b5 => ?_
  refine tl_nil <| tx_then ?_
  refine tc_draw R (.blk b5 [.int .i64 x.sub, .int .i64 x.sup] 163 :: .blk b_l [q0_l, q1_l, q2_l, q3_l, .slice A_l l.length c_l, q5_l, q6_l] 30 :: G) 10 mixed ?_
  refine td 0 rfl (by kernel_rfl) (v_move rfl) (fun w hw => (((hw.pick 2).tail.pick 1).pick 1)) ?_
  refine td 1 rfl (by kernel_rfl) (v_move rfl) (fun w hw => (((hw.pick 2).tail.pick 1).pick 1)) ?_
  refine td 2 rfl (by kernel_rfl) (v_nilchk rfl) (fun w hw => (((hw.pick 2).tail.pick 1).pick 1)) ?_
  refine td 3 rfl (by kernel_rfl) (v_fieldAddr 4 rfl fo30_2 rfl) (fun w hw => (((hw.pick 2).tail.pick 1).pick 1)) ?_
  refine td 4 rfl (by kernel_rfl) (v_ld 1 rfl ld26 rfl rfl) (fun w hw => (((hw.pick 2).tail.pick 1).pick 1)) ?_
  refine td 5 rfl (by kernel_rfl) (v_ld_agg 0 [.int .i64 x.sub, .int .i64 x.sup] rfl ld163 rfl rfl) (fun w hw => (((hw.pick 2).tail.pick 1).pick 1)) ?_
  refine td1 6 (by kernel_rfl) rfl ?_
  refine tl_bslice [.int .i64 x.sub, .int .i64 x.sup] ap26 rfl rfl rfl rfl rfl rfl rfl fun b6 => ?_
  refine tl_nil ?_
  refine tx_td (fun w hw => (((hw.tail.pick 2).tail.pick 1).pick 1)) ?_
  refine td1 7 (by kernel_rfl) rfl ?_
  refine tl_app (k := kRoleIncl) (e := x) 3 0 hv_l (hr_x) ap26 rfl rfl rfl rfl rfl (by omega) rfl rfl fun A7 c8 l9 hv10 => ?_
  refine tl_nil ?_
  refine tx_td (fun w hw => (((hw.tail.pick 2).tail.pick 1).pick 1)) ?_
  refine td1 8 (by kernel_rfl) rfl ?_
  refine tl (v_nilchk rfl) ?_
  refine tl_nil ?_
  refine tx_td (fun w hw => (((hw.tail.pick 2).tail.pick 1).pick 1)) ?_
  refine td 9 rfl (by kernel_rfl) (v_fieldAddr 4 rfl fo30_2 rfl) (fun w hw => (((hw.tail.pick 2).tail.pick 1).pick 1)) ?_
  refine td1 10 (by kernel_rfl) rfl ?_
  refine tl_st 2 [q0_l, q1_l, q2_l, q3_l, .slice A7 ((l ++ [x]).length) c8, q5_l, q6_l] rfl rfl ld26 rfl rfl rfl rfl rfl rfl ?_
  refine tl_nil ?_
  refine tx_tdz ?_
  refine td_done (by kernel_rfl) ?_
  refine tx_ret0 (.inr rfl) rfl ?_
  have e12 : ((l ++ [x]) : List (RoleIncl)) = l ++ [x] := by rfl
  intro w hw
  exact ⟨_, _, [.blk b_l [q0_l, q1_l, q2_l, q3_l, .slice A7 ((l ++ [x]).length) c8, q5_l, q6_l] 30, .vec (.slice A7 ((l ++ [x]).length) c8) ((l ++ [x]).length) 84 2 l9], rfl, .refl _, hw.drop 2, A7, c8, l9, rfl, (congrArg (fun (z0_ : List (RoleIncl)) => ([.blk b_l [q0_l, q1_l, q2_l, q3_l, .slice A7 z0_.length c8, q5_l, q6_l] 30, .vec (.slice A7 z0_.length c8) z0_.length 84 2 l9] : List Res)) e12), (Eq.mp (congrArg (fun z => (kRoleIncl).reps R z l9) e12) hv10)⟩

set_option maxRecDepth 20000 in
set_option maxHeartbeats 8000000 in
theorem kb_fact_add_ok {R : RO} {G : List Res} {w : World} {c_x : List Value} (x : Fact) (l : List (Fact)) {b_l : Nat} {A_l : Option Addr} {c_l : Nat} {l_l : List Value} {q0_l q1_l q2_l q3_l q4_l q6_l : Value} (hr_x : kFact.rep R x c_x) (hv_l : (kFact).reps R l l_l) (hb : nodesC x.con ≤ 1000 ∧ l.length ≤ 1000) (hw : Own w R (.blk b_l [q0_l, q1_l, q2_l, q3_l, q4_l, .slice A_l l.length c_l, q6_l] 30 :: .vec (.slice A_l l.length c_l) l.length 87 4 l_l :: G)) :
    Calls Tryz.prog 171 [.agg c_x.toArray, .pointer (some ⟨b_l, 0, none⟩)].toArray w (RetO R G (fun v_ R' L_ => ∃ (A_p_l : Option Addr) (c_p_l : Nat) (l_p_l : List Value), v_ = (.tuple #[] : Value) ∧ L_ = ([.blk b_l [q0_l, q1_l, q2_l, q3_l, q4_l, .slice A_p_l ((l ++ [x]).length) c_p_l, q6_l] 30, .vec (.slice A_p_l ((l ++ [x]).length) c_p_l) ((l ++ [x]).length) 87 4 l_p_l] : List Res) ∧ (kFact).reps R' (l ++ [x]) l_p_l)) := by
  obtain ⟨c1, rfl, i2, hr3⟩ := id hr_x
  unfold i64 at i2
  obtain ⟨A4, d5, rfl, i6, i7, hs8⟩ := kConcept_open hr3
  unfold i64 at i6 i7
  have z9 := hs8.size
  unfold big at z9
  refine fn_enter (vs := [.agg #[.int .i64 x.ind, .int .i64 x.con.op, .int .i64 x.con.n, .slice A4 x.con.args.length d5], .pointer (some ⟨b_l, 0, none⟩)]) Tryz.func171 rfl rfl rfl ?_ hw
  refine tc_seq <| tc_region ?_
  refine tl_box_agg (l := [.int .i64 x.ind, .int .i64 x.con.op, .int .i64 x.con.n, .slice A4 x.con.args.length d5]) rfl rfl fun b12 => ?_
  refine tl_nil <| tx_then ?_
  refine tc_draw R (.blk b12 [.int .i64 x.ind, .int .i64 x.con.op, .int .i64 x.con.n, .slice A4 x.con.args.length d5] 164 :: .blk b_l [q0_l, q1_l, q2_l, q3_l, q4_l, .slice A_l l.length c_l, q6_l] 30 :: G) 15 mixed ?_
  refine td 0 rfl (by kernel_rfl) (v_move rfl) (fun w hw => (((hw.pick 2).tail.pick 1).pick 1)) ?_
  refine td 1 rfl (by kernel_rfl) (v_move rfl) (fun w hw => (((hw.pick 2).tail.pick 1).pick 1)) ?_
  refine td 2 rfl (by kernel_rfl) (v_nilchk rfl) (fun w hw => (((hw.pick 2).tail.pick 1).pick 1)) ?_
  refine td 3 rfl (by kernel_rfl) (v_fieldAddr 5 rfl fo30_3 rfl) (fun w hw => (((hw.pick 2).tail.pick 1).pick 1)) ?_
  refine td 4 rfl (by kernel_rfl) (v_ld 1 rfl ld27 rfl rfl) (fun w hw => (((hw.pick 2).tail.pick 1).pick 1)) ?_
  refine td 5 rfl (by kernel_rfl) (v_fieldAddr 0 rfl fo164_0 rfl) (fun w hw => (((hw.pick 2).tail.pick 1).pick 1)) ?_
  refine td 6 rfl (by kernel_rfl) (v_ld 0 rfl ld3 rfl rfl) (fun w hw => (((hw.pick 2).tail.pick 1).pick 1)) ?_
  refine td 7 rfl (by kernel_rfl) (v_fieldAddr 1 rfl fo164_1 rfl) (fun w hw => (((hw.pick 2).tail.pick 1).pick 1)) ?_
  refine td 8 rfl (by kernel_rfl) (v_ld_agg 0 [.int .i64 x.con.op, .int .i64 x.con.n, .slice A4 x.con.args.length d5] rfl ld37 rfl rfl) (fun w hw => (((hw.pick 2).tail.pick 1).pick 1)) ?_
  refine td1 9 (by kernel_rfl) rfl ?_
  refine tl_callo ca168 rfl (fun w hw => concept_Copied_ok x.con hr3 (by first | assumption | omega) hw) rfl ?_
  rintro _ R14 _ hle15 ⟨cs_z13_0, rfl, rfl, hr_z13_0⟩
  try replace hv_l := Kd.reps_mono hle15 hv_l
  obtain ⟨A16, d17, rfl, i18, i19, hs20⟩ := kConcept_open hr_z13_0
  unfold i64 at i18 i19
  have z21 := hs20.size
  unfold big at z21
  refine tl_nil ?_
  refine tx_td (fun w hw => ((((hw.pick 2).tail.pick 1).pick 1)).weaken hle15) ?_
  refine td 10 rfl (by kernel_rfl) (v_build [.int .i64 x.ind, .int .i64 x.con.op, .int .i64 x.con.n, .slice A16 x.con.args.length d17] zc87 pl87 rfl rfl) (fun w hw => ((((hw.pick 2).tail.pick 1).pick 1)).weaken hle15) ?_
  refine td1 11 (by kernel_rfl) rfl ?_
  refine tl_bslice [.int .i64 x.ind, .int .i64 x.con.op, .int .i64 x.con.n, .slice A16 x.con.args.length d17] ap27 rfl rfl rfl rfl rfl rfl rfl fun b22 => ?_
  refine tl_nil ?_
  refine tx_td (fun w hw => ((((hw.tail.pick 2).tail.pick 1).pick 1)).weaken hle15) ?_
  refine td1 12 (by kernel_rfl) rfl ?_
  refine tl_app (k := kFact) (e := (Fact.mk x.ind x.con)) 3 0 hv_l (⟨[.int .i64 x.con.op, .int .i64 x.con.n, .slice A16 x.con.args.length d17], rfl, (by unfold i64; omega), hr_z13_0⟩) ap27 rfl rfl rfl rfl rfl (by omega) rfl rfl fun A23 c24 l25 hv26 => ?_
  refine tl_nil ?_
  refine tx_td (fun w hw => ((((hw.tail.pick 2).tail.pick 1).pick 1)).weaken hle15) ?_
  refine td1 13 (by kernel_rfl) rfl ?_
  refine tl (v_nilchk rfl) ?_
  refine tl_nil ?_
  refine tx_td (fun w hw => ((((hw.tail.pick 2).tail.pick 1).pick 1)).weaken hle15) ?_
  refine td 14 rfl (by kernel_rfl) (v_fieldAddr 5 rfl fo30_3 rfl) (fun w hw => ((((hw.tail.pick 2).tail.pick 1).pick 1)).weaken hle15) ?_
  refine td1 15 (by kernel_rfl) rfl ?_
  refine tl_st 2 [q0_l, q1_l, q2_l, q3_l, q4_l, .slice A23 ((l ++ [(Fact.mk x.ind x.con)]).length) c24, q6_l] rfl rfl ld27 rfl rfl rfl rfl rfl rfl ?_
  refine tl_nil ?_
  refine tx_tdz ?_
  refine td_done (by kernel_rfl) ?_
  refine tx_ret0 (.inr rfl) rfl ?_
  have e28 : ((l ++ [(Fact.mk x.ind x.con)]) : List (Fact)) = l ++ [x] := by rfl
  intro w hw
  exact ⟨_, _, [.blk b_l [q0_l, q1_l, q2_l, q3_l, q4_l, .slice A23 ((l ++ [(Fact.mk x.ind x.con)]).length) c24, q6_l] 30, .vec (.slice A23 ((l ++ [(Fact.mk x.ind x.con)]).length) c24) ((l ++ [(Fact.mk x.ind x.con)]).length) 87 4 l25], rfl, hle15, hw.drop 2, A23, c24, l25, rfl, (congrArg (fun (z0_ : List (Fact)) => ([.blk b_l [q0_l, q1_l, q2_l, q3_l, q4_l, .slice A23 z0_.length c24, q6_l] 30, .vec (.slice A23 z0_.length c24) z0_.length 87 4 l25] : List Res)) e28), (Eq.mp (congrArg (fun z => (kFact).reps R14 z l25) e28) hv26)⟩

set_option maxRecDepth 20000 in
set_option maxHeartbeats 8000000 in
theorem kb_link_add_ok {R : RO} {G : List Res} {w : World} {c_x : List Value} (x : Link) (l : List (Link)) {b_l : Nat} {A_l : Option Addr} {c_l : Nat} {l_l : List Value} {q0_l q1_l q2_l q3_l q4_l q5_l : Value} (hr_x : kLink.rep R x c_x) (hv_l : (kLink).reps R l l_l) (hb : l.length ≤ 1000) (hw : Own w R (.blk b_l [q0_l, q1_l, q2_l, q3_l, q4_l, q5_l, .slice A_l l.length c_l] 30 :: .vec (.slice A_l l.length c_l) l.length 89 3 l_l :: G)) :
    Calls Tryz.prog 173 [.agg c_x.toArray, .pointer (some ⟨b_l, 0, none⟩)].toArray w (RetO R G (fun v_ R' L_ => ∃ (A_p_l : Option Addr) (c_p_l : Nat) (l_p_l : List Value), v_ = (.tuple #[] : Value) ∧ L_ = ([.blk b_l [q0_l, q1_l, q2_l, q3_l, q4_l, q5_l, .slice A_p_l ((l ++ [x]).length) c_p_l] 30, .vec (.slice A_p_l ((l ++ [x]).length) c_p_l) ((l ++ [x]).length) 89 3 l_p_l] : List Res) ∧ (kLink).reps R' (l ++ [x]) l_p_l)) := by
  obtain ⟨rfl, i1, i2, i3⟩ := id hr_x
  unfold i64 at i1
  unfold i64 at i2
  unfold i64 at i3
  refine fn_enter (vs := [.agg #[.int .i64 x.role, .int .i64 x.frm, .int .i64 x.to], .pointer (some ⟨b_l, 0, none⟩)]) Tryz.func173 rfl rfl rfl ?_ hw
  refine tc_seq <| tc_region ?_
  refine tl_box_agg (l := [.int .i64 x.role, .int .i64 x.frm, .int .i64 x.to]) rfl rfl fun b6 => ?_
  refine tl_nil <| tx_then ?_
  refine tc_draw R (.blk b6 [.int .i64 x.role, .int .i64 x.frm, .int .i64 x.to] 165 :: .blk b_l [q0_l, q1_l, q2_l, q3_l, q4_l, q5_l, .slice A_l l.length c_l] 30 :: G) 10 mixed ?_
  refine td 0 rfl (by kernel_rfl) (v_move rfl) (fun w hw => (((hw.pick 2).tail.pick 1).pick 1)) ?_
  refine td 1 rfl (by kernel_rfl) (v_move rfl) (fun w hw => (((hw.pick 2).tail.pick 1).pick 1)) ?_
  refine td 2 rfl (by kernel_rfl) (v_nilchk rfl) (fun w hw => (((hw.pick 2).tail.pick 1).pick 1)) ?_
  refine td 3 rfl (by kernel_rfl) (v_fieldAddr 6 rfl fo30_4 rfl) (fun w hw => (((hw.pick 2).tail.pick 1).pick 1)) ?_
  refine td 4 rfl (by kernel_rfl) (v_ld 1 rfl ld28 rfl rfl) (fun w hw => (((hw.pick 2).tail.pick 1).pick 1)) ?_
  refine td 5 rfl (by kernel_rfl) (v_ld_agg 0 [.int .i64 x.role, .int .i64 x.frm, .int .i64 x.to] rfl ld165 rfl rfl) (fun w hw => (((hw.pick 2).tail.pick 1).pick 1)) ?_
  refine td1 6 (by kernel_rfl) rfl ?_
  refine tl_bslice [.int .i64 x.role, .int .i64 x.frm, .int .i64 x.to] ap28 rfl rfl rfl rfl rfl rfl rfl fun b7 => ?_
  refine tl_nil ?_
  refine tx_td (fun w hw => (((hw.tail.pick 2).tail.pick 1).pick 1)) ?_
  refine td1 7 (by kernel_rfl) rfl ?_
  refine tl_app (k := kLink) (e := x) 3 0 hv_l (hr_x) ap28 rfl rfl rfl rfl rfl (by omega) rfl rfl fun A8 c9 l10 hv11 => ?_
  refine tl_nil ?_
  refine tx_td (fun w hw => (((hw.tail.pick 2).tail.pick 1).pick 1)) ?_
  refine td1 8 (by kernel_rfl) rfl ?_
  refine tl (v_nilchk rfl) ?_
  refine tl_nil ?_
  refine tx_td (fun w hw => (((hw.tail.pick 2).tail.pick 1).pick 1)) ?_
  refine td 9 rfl (by kernel_rfl) (v_fieldAddr 6 rfl fo30_4 rfl) (fun w hw => (((hw.tail.pick 2).tail.pick 1).pick 1)) ?_
  refine td1 10 (by kernel_rfl) rfl ?_
  refine tl_st 2 [q0_l, q1_l, q2_l, q3_l, q4_l, q5_l, .slice A8 ((l ++ [x]).length) c9] rfl rfl ld28 rfl rfl rfl rfl rfl rfl ?_
  refine tl_nil ?_
  refine tx_tdz ?_
  refine td_done (by kernel_rfl) ?_
  refine tx_ret0 (.inr rfl) rfl ?_
  have e13 : ((l ++ [x]) : List (Link)) = l ++ [x] := by rfl
  intro w hw
  exact ⟨_, _, [.blk b_l [q0_l, q1_l, q2_l, q3_l, q4_l, q5_l, .slice A8 ((l ++ [x]).length) c9] 30, .vec (.slice A8 ((l ++ [x]).length) c9) ((l ++ [x]).length) 89 3 l10], rfl, .refl _, hw.drop 2, A8, c9, l10, rfl, (congrArg (fun (z0_ : List (Link)) => ([.blk b_l [q0_l, q1_l, q2_l, q3_l, q4_l, q5_l, .slice A8 z0_.length c9] 30, .vec (.slice A8 z0_.length c9) z0_.length 89 3 l10] : List Res)) e13), (Eq.mp (congrArg (fun z => (kLink).reps R z l10) e13) hv11)⟩

end Go.Proofs.YtcbcdlajnmkioaaGreatDoor
