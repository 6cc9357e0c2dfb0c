/- A part of the proof of the statement ModuleGrows of isagogelaw19: functions walked, and plain laws on what they answer. -/
import Derived.Test.YtcbcdlajnmkioaaGreatDoorQ
namespace Go.Proofs.YtcbcdlajnmkioaaGreatDoor
open Go Go.Proofs
set_option linter.unusedSimpArgs false
set_option linter.unusedVariables false
theorem ca100 : Callable Tryz.prog 100 := ⟨by kernel_rfl⟩
theorem ca101 : Callable Tryz.prog 101 := ⟨by kernel_rfl⟩
theorem ca106 : Callable Tryz.prog 106 := ⟨by kernel_rfl⟩
theorem ii3 : isInt Tryz.prog 3 = true := by kernel_rfl
theorem mi154 : mapInfo keyS Tryz.prog 154 = true := by kernel_rfl

set_option maxRecDepth 20000 in
set_option maxHeartbeats 8000000 in
theorem slices_Grow_string_string_ok {R : RO} {G : List Res} {w : World} (m : Int) (hi_m : i64 m) (hb : 0 ≤ m ∧ m ≤ 1000) (hw : Own w R (G)) :
    Calls Tryz.prog 106 [.slice none 0 0, .int .i64 m].toArray w (RetO R G (fun v_ R' L_ => ∃ (A_0 : Option Addr) (c_0 : Nat) (l_0 : List Value), v_ = (.slice A_0 (([] : List ByteArray).length) c_0 : Value) ∧ L_ = ([.vec (.slice A_0 (([] : List ByteArray).length) c_0) (([] : List ByteArray).length) 9 1 l_0] : List Res) ∧ (kStr).reps R' ([] : List ByteArray) l_0)) := by
  unfold i64 at hi_m
  refine fn_enter (vs := [.slice none 0 0, .int .i64 m]) Tryz.func106 rfl rfl rfl ?_ hw
  refine tc_seq <| tc_region ?_
  refine tl (v_assign rfl) ?_
  refine tl_nil <| tx_then <| tc_seq <| tc_seq <| tc_region ?_
  refine tl (v_move rfl) ?_
  refine tl (v_ib rfl rfl rfl) ?_
  refine tl_nil <| tx_then ?_
  refine tc_split 6 rfl (fun h2 => ?_) (fun h2 => ?_)
  ·
   refine tc_yes rfl ?_
   exfalso
   omega
  ·
   refine tc_no rfl ?_
   refine tc_skip <| tx_then <| tc_seq <| tc_seq <| tc_region ?_
   refine tl (v_move rfl) ?_
   refine tl (v_move rfl) ?_
   refine tl (v_cap rfl sl22) ?_
   refine tl (v_move rfl) ?_
   refine tl (v_len rfl sl22) ?_
   refine tl (v_sub rfl rfl (by omega) (by omega)) ?_
   refine tl (v_sub rfl rfl (by omega) (by omega)) ?_
   refine tl_head (show Value.int .i64 (m - (0 - 0)) = Value.int .i64 (m.toNat : Int) from congrArg _ (by omega)) ?_
   refine tl (v_assign rfl) ?_
   refine tl_nil <| tx_then <| tc_seq <| tc_region ?_
   refine tl (v_move rfl) ?_
   refine tl (v_ib rfl rfl rfl) ?_
   refine tl_nil <| tx_then ?_
   refine tc_split 16 rfl (fun h3 => ?_) (fun h3 => ?_)
   ·
    refine tc_yes rfl ?_
    refine tc_region ?_
    refine tl (v_move rfl) ?_
    refine tl (v_move rfl) ?_
    refine tl (v_cap rfl sl22) ?_
    refine tl (v_sliceN rfl sl22 rfl) ?_
    refine tl (v_move rfl) ?_
    refine tl_appz (k := m.toNat) ap22 ii3 rfl rfl rfl (by omega) (by omega) rfl rfl fun A4 c5 => ?_
    have hv6 : (kStr).reps R (List.replicate m.toNat (⟨#[]⟩ : ByteArray)) (List.replicate m.toNat (.string (⟨#[]⟩))) := reps_repl (k := kStr) (⟨rfl, by unfold big; exact Nat.zero_le _⟩) _
    have hl7 : m.toNat = (List.replicate m.toNat (⟨#[]⟩ : ByteArray)).length := List.length_replicate.symm
    refine tl_env [(0, .slice none 0 0), (1, .int .i64 (m.toNat : Int)), (4, .slice none 0 0), (5, .int .i64 m), (6, .bool false), (8, .int .i64 m), (9, .slice none 0 0), (10, .int .i64 0), (11, .slice none 0 0), (12, .int .i64 0), (13, .int .i64 (0 - 0)), (14, .int .i64 (m.toNat : Int)), (15, .int .i64 (m.toNat : Int)), (16, .bool true), (17, .slice none 0 0), (18, .slice none 0 0), (19, .int .i64 0), (20, .slice none 0 0), (21, .int .i64 (m.toNat : Int)), (22, .slice A4 ((List.replicate m.toNat (⟨#[]⟩ : ByteArray)).length) c5)] (by rw [← hl7]; exact ⟨rfl, rfl, rfl, rfl, rfl, rfl, rfl, rfl, rfl, rfl, rfl, rfl, rfl, rfl, rfl, rfl, rfl, rfl, rfl, rfl, trivial⟩) ?_
    refine tl_G (.vec (.slice A4 ((List.replicate m.toNat (⟨#[]⟩ : ByteArray)).length) c5) ((List.replicate m.toNat (⟨#[]⟩ : ByteArray)).length) 9 1 (List.replicate m.toNat (.string (⟨#[]⟩))) :: G) (fun w hw => by rw [← hl7]; exact hw) ?_
    refine tl (v_move rfl) ?_
    refine tl (v_len rfl sl22) ?_
    have hm9 : 0 ≤ (List.replicate m.toNat (⟨#[]⟩ : ByteArray)).length := by omega
    have hv10 := Kd.reps_take 0 hv6
    have hl11 : 0 = ((List.replicate m.toNat (⟨#[]⟩ : ByteArray)).take 0).length := by rw [List.length_take]; omega
    refine tl_truncV (m := 0) 0 rfl rfl sl22 rfl hm9 rfl ?_
    refine tl_env [(0, .slice none 0 0), (1, .int .i64 (m.toNat : Int)), (4, .slice none 0 0), (5, .int .i64 m), (6, .bool false), (8, .int .i64 m), (9, .slice none 0 0), (10, .int .i64 0), (11, .slice none 0 0), (12, .int .i64 0), (13, .int .i64 (0 - 0)), (14, .int .i64 (m.toNat : Int)), (15, .int .i64 (m.toNat : Int)), (16, .bool true), (17, .slice none 0 0), (18, .slice none 0 0), (19, .int .i64 0), (20, .slice none 0 0), (21, .int .i64 (m.toNat : Int)), (23, .slice none 0 0), (24, .int .i64 0), (25, .slice A4 (((List.replicate m.toNat (⟨#[]⟩ : ByteArray)).take 0).length) c5)] (by rw [← hl11]; exact ⟨rfl, rfl, rfl, rfl, rfl, rfl, rfl, rfl, rfl, rfl, rfl, rfl, rfl, rfl, rfl, rfl, rfl, rfl, rfl, rfl, rfl, rfl, trivial⟩) ?_
    refine tl_G (.vec (.slice A4 (((List.replicate m.toNat (⟨#[]⟩ : ByteArray)).take 0).length) c5) (((List.replicate m.toNat (⟨#[]⟩ : ByteArray)).take 0).length) 9 1 ((List.replicate m.toNat (.string (⟨#[]⟩))).take (0 * 1)) :: G) (fun w hw => by rw [← hl11]; exact hw) ?_
    refine tl (v_assign rfl) ?_
    refine tl_nil <| tx_then <| tc_seq <| tc_region ?_
    refine tl (v_move rfl) ?_
    refine tl (v_assign rfl) ?_
    refine tl_nil <| tx_then <| tc_ret ?_
    refine tx_ret1 (.inl rfl) rfl rfl ?_
    have e13 : (((List.replicate m.toNat (⟨#[]⟩ : ByteArray)).take 0) : List (ByteArray)) = ([] : List ByteArray) := by first | rfl | simp
    intro w hw
    exact ⟨_, _, [.vec (.slice A4 (((List.replicate m.toNat (⟨#[]⟩ : ByteArray)).take 0).length) c5) (((List.replicate m.toNat (⟨#[]⟩ : ByteArray)).take 0).length) 9 1 ((List.replicate m.toNat (.string (⟨#[]⟩))).take (0 * 1))], rfl, .refl _, hw, A4, c5, ((List.replicate m.toNat (.string (⟨#[]⟩))).take (0 * 1)), (congrArg (fun (z0_ : List (ByteArray)) => (.slice A4 z0_.length c5 : Value)) e13), (congrArg (fun (z0_ : List (ByteArray)) => ([.vec (.slice A4 z0_.length c5) z0_.length 9 1 ((List.replicate m.toNat (.string (⟨#[]⟩))).take (0 * 1))] : List Res)) e13), (Eq.mp (congrArg (fun z => (kStr).reps R z ((List.replicate m.toNat (.string (⟨#[]⟩))).take (0 * 1))) e13) hv10)⟩
   ·
    refine tc_no rfl ?_
    refine tc_skip <| tx_then <| tc_seq <| tc_region ?_
    refine tl (v_move rfl) ?_
    refine tl (v_assign rfl) ?_
    refine tl_nil <| tx_then <| tc_ret ?_
    refine tx_G _ (fun w hw => hw.vecnil 9 1) ?_
    have hv14 : (kStr).reps R [] [] := rfl
    refine tx_ret1 (.inl rfl) rfl rfl ?_
    have e16 : (([] : List (ByteArray)) : List (ByteArray)) = ([] : List ByteArray) := by first | rfl | simp
    intro w hw
    exact ⟨_, _, [.vec (.slice none 0 0) 0 9 1 []], rfl, .refl _, hw, none, 0, [], (congrArg (fun (z0_ : List (ByteArray)) => (.slice none z0_.length 0 : Value)) e16), (congrArg (fun (z0_ : List (ByteArray)) => ([.vec (.slice none z0_.length 0) z0_.length 9 1 []] : List Res)) e16), (Eq.mp (congrArg (fun z => (kStr).reps R z []) e16) hv14)⟩

theorem flat_take_le {α : Type} {L : List (List α)} (i : Nat) : (L.take i).flatten.length ≤ L.flatten.length := by
  have : L.flatten = (L.take i).flatten ++ (L.drop i).flatten := by rw [← List.flatten_append, List.take_append_drop]
  rw [this, List.length_append]; omega
theorem flat_take_len {α : Type} {L : List (List α)} {i : Nat} {x : List α} (hx : L[i]? = some x) : (L.take (i + 1)).flatten.length = (L.take i).flatten.length + x.length := by rw [flat_take hx, List.length_append]
theorem flat_take_all {α : Type} {L : List (List α)} {i : Nat} (h : i ≤ L.length) (h2 : ¬ ((i : Int) < (L.length : Int))) : (L.take i).flatten = L.flatten := by rw [take_all h h2]

set_option maxRecDepth 20000 in
set_option maxHeartbeats 8000000 in
theorem slices_Concat_string_string_ok {R : RO} {G : List Res} {w : World} {A_l : Option Addr} {d_l : Nat} (l : List (List (ByteArray))) (hs_l : SlAt kStr.sl R A_l l) (hb : l.flatten.length ≤ 1000) (hw : Own w R (G)) :
    Calls Tryz.prog 100 [.slice A_l l.length d_l].toArray w (RetO R G (fun v_ R' L_ => ∃ (A_0 : Option Addr) (c_0 : Nat) (l_0 : List Value), v_ = (.slice A_0 l.flatten.length c_0 : Value) ∧ L_ = ([.vec (.slice A_0 l.flatten.length c_0) l.flatten.length 9 1 l_0] : List Res) ∧ (kStr).reps R' l.flatten l_0)) := by
  have hz_l := hs_l.size
  unfold big at hz_l
  refine fn_enter (vs := [.slice A_l l.length d_l]) Tryz.func100 rfl rfl rfl ?_ hw
  refine tc_seq <| tc_region ?_
  refine tl (v_assign rfl) ?_
  refine tl_nil <| tx_then <| tc_seq <| tc_region ?_
  refine tl (v_assign rfl) ?_
  refine tl_nil <| tx_then <| tc_seq <| tc_seq <| tc_region ?_
  refine tl (v_move rfl) ?_
  refine tl (v_len rfl sl115) ?_
  refine tl (v_move rfl) ?_
  refine tl_nil <| tx_then <| tc_block ?_
  refine tc_loop ?_
  refine th_loopS (fun i : Nat => l.length - i) (fun i : Nat => [(0, .slice A_l l.length d_l), (2, .slice none 0 0), (9, .slice A_l l.length d_l), (10, .int .i64 (l.length : Int)), (11, .int .i64 (i : Int)), (3, .int .i64 ((l.take i).flatten.length : Int))]) (fun i : Nat => (G)) (fun (i : Nat) => i ≤ l.length) (0) ⟨rfl, rfl, rfl, rfl, rfl, congrArg (fun z => some (Value.int .i64 z)) (show (0 : Int) = ((l.take 0).flatten.length : Int) by simp), trivial⟩ (by omega) (fun w hw => hw) ?_
  rintro i hI2 ih3
  show TC Tryz.prog _ _ _ [] [(0, .slice A_l l.length d_l), (2, .slice none 0 0), (9, .slice A_l l.length d_l), (10, .int .i64 (l.length : Int)), (11, .int .i64 (i : Int)), (3, .int .i64 ((l.take i).flatten.length : Int))] R (G)
  have hfl1 := flat_take_le (L := l) i
  refine tc_seq <| tc_region ?_
  refine tl (v_ib rfl rfl rfl) ?_
  refine tl_nil <| tx_then <| tc_seq ?_
  refine tc_split 12 rfl (fun h6 => ?_) (fun h6 => ?_)
  ·
   refine tc_yes rfl ?_
   refine tc_skip <| tx_then <| tc_seq <| tc_block <| tc_seq <| tc_region ?_
   have hb12 : i < l.length := by omega
   obtain ⟨x7, hx8⟩ : ∃ x, l[i]? = some x := ⟨_, List.getElem?_eq_getElem hb12⟩
   obtain ⟨c9, hr10, ha11⟩ := hs_l.get _ x7 hx8
   obtain ⟨A13, d14, rfl, hs15⟩ := hr10
   have z16 := hs15.size
   unfold big at z16
   have hf17 := flat_take_len hx8
   have hf18 := flat_take_le (L := l) (i + 1)
   refine tl (v_idxS (i := i) hs_l rfl rfl rfl sl115 hb12) ?_
   refine tl (v_ldA 0 ha11 rfl ld22 rfl rfl) ?_
   refine tl (v_assign rfl) ?_
   refine tl_nil <| tx_then <| tc_seq <| tc_region ?_
   refine tl (v_move rfl) ?_
   refine tl (v_move rfl) ?_
   refine tl (v_len rfl sl22) ?_
   refine tl (v_add rfl rfl (by omega) (by omega)) ?_
   refine tl (v_assign rfl) ?_
   refine tl_nil <| tx_then <| tc_seq <| tc_region ?_
   refine tl (v_move rfl) ?_
   refine tl (v_ib rfl rfl rfl) ?_
   refine tl_nil <| tx_then ?_
   refine tc_split 20 rfl (fun h19 => ?_) (fun h19 => ?_)
   ·
    refine tc_yes rfl ?_
    exfalso
    omega
   ·
    refine tc_no rfl ?_
    refine tc_skip <| tx_blk <| tx_then <| tc_region ?_
    refine tl (v_add rfl rfl (by omega) (by omega)) ?_
    refine tl (v_move rfl) ?_
    refine tl_nil ?_
    refine tx_round ?_
    exact fun a w ha hw => ih3.out (i + 1) (by omega) (by (try dsimp only); omega) a w (ha.sub (lkAll_lk ⟨rfl, rfl, rfl, rfl, rfl, congrArg (fun z => some (Value.int .i64 z)) (show (((l.take i).flatten.length : Int) + (x7.length : Int) : Int) = ((l.take (i + 1)).flatten.length : Int) by omega), trivial⟩)) (hw)
  ·
   refine tc_no rfl ?_
   refine tc_exit <| tx_then_exit <| tx_then_exit <| tx_blk_exit <| tx_then <| tc_seq <| tc_region ?_
   refine tl (v_move rfl) ?_
   refine tl_callo ca106 rfl (fun w hw => slices_Grow_string_string_ok ((l.take i).flatten.length : Int) (by unfold i64; omega) (by first | assumption | omega) hw) rfl ?_
   rintro _ R21 _ hle22 ⟨A_z20_0, c_z20_0, l_z20_0, rfl, rfl, hv_z20_0⟩
   try replace hs_l := hs_l.mono hle22
   refine tl (v_assign rfl) ?_
   refine tl_nil <| tx_then <| tc_seq <| tc_seq <| tc_region ?_
   refine tl (v_move rfl) ?_
   refine tl (v_len rfl sl115) ?_
   refine tl (v_move rfl) ?_
   refine tl_nil <| tx_then <| tc_block ?_
   refine tc_loop ?_
   refine th_loopS (fun b_ : Nat × List (ByteArray) × Option Addr × Nat × List Value => match b_ with | (i, u, A_u, c_u, l_u) => l.length - i) (fun b_ : Nat × List (ByteArray) × Option Addr × Nat × List Value => match b_ with | (i, u, A_u, c_u, l_u) => [(2, .slice none 0 0), (25, .slice A_l l.length d_l), (26, .int .i64 (l.length : Int)), (27, .int .i64 (i : Int)), (6, .slice A_u u.length c_u)]) (fun b_ : Nat × List (ByteArray) × Option Addr × Nat × List Value => match b_ with | (i, u, A_u, c_u, l_u) => (.vec (.slice A_u u.length c_u) u.length 9 1 l_u :: G)) (fun (b_ : Nat × List (ByteArray) × Option Addr × Nat × List Value) => match b_ with | (i, u, A_u, c_u, l_u) => (kStr).reps R21 u l_u ∧ (i ≤ l.length ∧ u = (l.take i).flatten)) (0, ([] : List ByteArray), A_z20_0, c_z20_0, l_z20_0) ⟨rfl, rfl, rfl, rfl, rfl, trivial⟩ (by refine ⟨hv_z20_0, ?_⟩; exact ⟨by omega, rfl⟩) (fun w hw => hw) ?_
   rintro ⟨i, u, A_u, c_u, l_u⟩ hI25 ih26
   show TC Tryz.prog _ _ _ [] [(2, .slice none 0 0), (25, .slice A_l l.length d_l), (26, .int .i64 (l.length : Int)), (27, .int .i64 (i : Int)), (6, .slice A_u u.length c_u)] R21 (.vec (.slice A_u u.length c_u) u.length 9 1 l_u :: G)
   obtain ⟨hv24, hI29⟩ := hI25
   obtain ⟨hj1, hj2⟩ := hI29
   have hfl := flat_take_le (L := l) i
   rw [← hj2] at hfl
   refine tc_seq <| tc_region ?_
   refine tl (v_ib rfl rfl rfl) ?_
   refine tl_nil <| tx_then <| tc_seq ?_
   refine tc_split 28 rfl (fun h30 => ?_) (fun h30 => ?_)
   ·
    refine tc_yes rfl ?_
    refine tc_skip <| tx_then <| tc_seq <| tc_block <| tc_seq <| tc_region ?_
    have hb36 : i < l.length := by omega
    obtain ⟨x31, hx32⟩ : ∃ x, l[i]? = some x := ⟨_, List.getElem?_eq_getElem hb36⟩
    obtain ⟨c33, hr34, ha35⟩ := hs_l.get _ x31 hx32
    obtain ⟨A37, d38, rfl, hs39⟩ := hr34
    have z40 := hs39.size
    unfold big at z40
    have hf41 := flat_take_len hx32
    have hf42 := flat_take_le (L := l) (i + 1)
    refine tl (v_idxS (i := i) hs_l rfl rfl rfl sl115 hb36) ?_
    refine tl (v_ldA 0 ha35 rfl ld22 rfl rfl) ?_
    refine tl (v_assign rfl) ?_
    refine tl_nil <| tx_then <| tc_region ?_
    refine tl (v_move rfl) ?_
    refine tl (v_move rfl) ?_
    obtain ⟨ds47, rp48, src49⟩ := src_slAt ones_str hs39
    refine tl_appS' (k := kStr) (m := x31) 0 hv24 (rp48) ap22 rfl rfl rfl (rfl) (src49 _) (by first | omega | (simp only [List.length_append]; omega)) rfl rfl fun A43 c44 l45 hv46 => ?_
    refine tl (v_assign rfl) ?_
    refine tl_nil <| tx_blk <| tx_then <| tc_region ?_
    refine tl (v_add rfl rfl (by omega) (by omega)) ?_
    refine tl (v_move rfl) ?_
    refine tl_nil ?_
    refine tx_round ?_
    exact fun a w ha hw => ih26.out (i + 1, (u ++ x31), A43, c44, l45) (by refine ⟨hv46, ?_⟩; exact ⟨by omega, by rw [hj2, flat_take hx32]⟩) (by (try dsimp only); omega) a w (ha.sub (lkAll_lk ⟨rfl, rfl, rfl, rfl, rfl, trivial⟩)) (hw)
   ·
    refine tc_no rfl ?_
    refine tc_exit <| tx_then_exit <| tx_then_exit <| tx_blk_exit <| tx_then <| tc_seq <| tc_region ?_
    refine tl (v_move rfl) ?_
    refine tl (v_assign rfl) ?_
    refine tl_nil <| tx_then <| tc_ret ?_
    refine tx_ret1 (.inl rfl) rfl rfl ?_
    have e51 : (u : List (ByteArray)) = l.flatten := by exact hj2.trans (flat_take_all (by omega) (by assumption))
    intro w hw
    exact ⟨_, _, [.vec (.slice A_u u.length c_u) u.length 9 1 l_u], rfl, hle22, hw, A_u, c_u, l_u, (congrArg (fun (z0_ : List (ByteArray)) => (.slice A_u z0_.length c_u : Value)) e51), (congrArg (fun (z0_ : List (ByteArray)) => ([.vec (.slice A_u z0_.length c_u) z0_.length 9 1 l_u] : List Res)) e51), (Eq.mp (congrArg (fun z => (kStr).reps R21 z l_u) e51) hv24)⟩

theorem insK_new {κ : Type} [DecidableEq κ] {ks : List κ} {k : κ} (h : ¬ k ∈ ks) : insK ks k = ks ++ [k] := by unfold insK; rw [if_neg h]
theorem three_names (n : Names) : ([n.concepts, n.roles, n.inds] : List (List ByteArray)).flatten = namesL n := by simp [namesL]
theorem namesL_at {n : Names} {i : Nat} {x : ByteArray} (h : (([n.concepts, n.roles, n.inds] : List (List ByteArray)).flatten)[i]? = some x) : (namesL n)[i]? = some x := by rw [← three_names]; exact h
theorem namesL_len (n : Names) : (namesL n).length = n.concepts.length + n.roles.length + n.inds.length := by simp [namesL]; omega
theorem names_split {n : Names} {i : Nat} {x : ByteArray} (h : (namesL n)[i]? = some x) : namesL n = (namesL n).take i ++ x :: (namesL n).drop (i + 1) := by
  obtain ⟨hi, rfl⟩ := List.getElem?_eq_some_iff.1 h
  rw [← List.drop_eq_getElem_cons hi, List.take_append_drop]

set_option maxRecDepth 20000 in
set_option maxHeartbeats 8000000 in
theorem concept_ValidNames_ok {R : RO} {G : List Res} {w : World} {c_n : List Value} (n : Names) (hr_n : kNames.rep R n c_n) (hG : Glob R) (hw : Own w R (G)) :
    Calls Tryz.prog 80 [.agg c_n.toArray].toArray w (Gives R G (.bool (namesB n))) := by
  obtain ⟨A1, d2, A5, d6, A9, d10, rfl, hs3, hs7, hs11⟩ := id hr_n
  have z4 := hs3.size
  unfold big at z4
  have z8 := hs7.size
  unfold big at z8
  have z12 := hs11.size
  unfold big at z12
  have hnl := namesL_len n
  have h3n := three_names n
  have hcl := congrArg List.length h3n
  refine fn_enter (vs := [.agg #[.slice A1 n.concepts.length d2, .slice A5 n.roles.length d6, .slice A9 n.inds.length d10]]) Tryz.func80 rfl rfl rfl ?_ hw
  refine tc_seq <| tc_region ?_
  refine tl_box_agg (l := [.slice A1 n.concepts.length d2, .slice A5 n.roles.length d6, .slice A9 n.inds.length d10]) rfl rfl fun b13 => ?_
  refine tl (v_assign rfl) ?_
  refine tl_nil <| tx_then <| tc_seq ?_
  refine tc_cut [(0, .agg #[.slice A1 n.concepts.length d2, .slice A5 n.roles.length d6, .slice A9 n.inds.length d10]), (1, .pointer (some ⟨b13, 0, none⟩)), (2, .bool false), (21, .bool (decide (((16 < (n.concepts.length : Int)) ∨ (6 < (n.roles.length : Int))) ∨ (10 < (n.inds.length : Int)))))] (.blk b13 [.slice A1 n.concepts.length d2, .slice A5 n.roles.length d6, .slice A9 n.inds.length d10] 24 :: G) (fun _ => True) (fun K hK14 hE15 => ?_) ?_
  ·
   refine tc_region ?_
   refine tl (v_fieldAddr 0 rfl fo24_0 rfl) ?_
   refine tl (v_ld 0 rfl ld22 rfl rfl) ?_
   refine tl (v_len rfl sl22) ?_
   refine tl (v_ib rfl rfl rfl) ?_
   refine tl (v_move rfl) ?_
   refine tl_split 10 rfl (fun h16 => ?_) (fun h16 => ?_)
   ·
    refine tl_gskip 10 rfl rfl rfl ?_
    refine tl_gskip 10 rfl rfl rfl ?_
    refine tl_gskip 10 rfl rfl rfl ?_
    refine tl_gskip 10 rfl rfl rfl ?_
    refine tl (v_pick_t rfl rfl) ?_
    refine tl (v_move rfl) ?_
    refine tl_gskip 16 rfl rfl rfl ?_
    refine tl_gskip 16 rfl rfl rfl ?_
    refine tl_gskip 16 rfl rfl rfl ?_
    refine tl_gskip 16 rfl rfl rfl ?_
    refine tl (v_pick_t rfl rfl) ?_
    refine tl_nil ?_
    exact tx_cut hK14 (.refl _) (trivial) ⟨rfl, rfl, rfl, show some (Value.bool true) = some (Value.bool (decide (((16 < (n.concepts.length : Int)) ∨ (6 < (n.roles.length : Int))) ∨ (10 < (n.inds.length : Int))))) by first | (simp [h16]; done) | grind | (simp [h16] <;> omega), trivial⟩ (fun w hw => hw)
   ·
    refine tl_grun 10 rfl rfl ?_
    refine tl (v_fieldAddr 1 rfl fo24_1 rfl) ?_
    refine tl_grun 10 rfl rfl ?_
    refine tl (v_ld 0 rfl ld22 rfl rfl) ?_
    refine tl_grun 10 rfl rfl ?_
    refine tl (v_len rfl sl22) ?_
    refine tl_grun 10 rfl rfl ?_
    refine tl (v_ib rfl rfl rfl) ?_
    refine tl (v_pick_f rfl rfl) ?_
    refine tl (v_move rfl) ?_
    refine tl_split 16 rfl (fun h17 => ?_) (fun h17 => ?_)
    ·
     refine tl_gskip 16 rfl rfl rfl ?_
     refine tl_gskip 16 rfl rfl rfl ?_
     refine tl_gskip 16 rfl rfl rfl ?_
     refine tl_gskip 16 rfl rfl rfl ?_
     refine tl (v_pick_t rfl rfl) ?_
     refine tl_nil ?_
     exact tx_cut hK14 (.refl _) (trivial) ⟨rfl, rfl, rfl, show some (Value.bool true) = some (Value.bool (decide (((16 < (n.concepts.length : Int)) ∨ (6 < (n.roles.length : Int))) ∨ (10 < (n.inds.length : Int))))) by first | (simp [h16, h17]; done) | grind | (simp [h16, h17] <;> omega), trivial⟩ (fun w hw => hw)
    ·
     refine tl_grun 16 rfl rfl ?_
     refine tl (v_fieldAddr 2 rfl fo24_2 rfl) ?_
     refine tl_grun 16 rfl rfl ?_
     refine tl (v_ld 0 rfl ld22 rfl rfl) ?_
     refine tl_grun 16 rfl rfl ?_
     refine tl (v_len rfl sl22) ?_
     refine tl_grun 16 rfl rfl ?_
     refine tl (v_ib rfl rfl rfl) ?_
     refine tl (v_pick_f rfl rfl) ?_
     refine tl_nil ?_
     exact tx_cut hK14 (.refl _) (trivial) ⟨rfl, rfl, rfl, show some (Value.bool (decide (10 < (n.inds.length : Int)))) = some (Value.bool (decide (((16 < (n.concepts.length : Int)) ∨ (6 < (n.roles.length : Int))) ∨ (10 < (n.inds.length : Int))))) by first | (simp [h16, h17]; done) | grind | (simp [h16, h17] <;> omega), trivial⟩ (fun w hw => hw)
  ·
   refine fun R19 hle20 hj18 => tc_weaken hle20 ?_
   refine tc_split 21 rfl (fun h21 => ?_) (fun h21 => ?_)
   ·
    refine tc_yes rfl ?_
    refine tc_seq <| tc_region ?_
    refine tl (v_assign rfl) ?_
    refine tl_nil <| tx_then <| tc_ret <| tx_then_ret ?_
    refine tx_ret1 (.inl rfl) rfl rfl ?_
    have e22 : (false : Bool) = namesB n := by (unfold namesB; rw [eq_comm, decide_eq_false_iff_not]; rintro ⟨h_, h2_, h3_, -⟩; omega)
    exact fun w hw => ⟨congrArg Ending.returned (congrArg (fun x0 => Value.bool x0) e22), hw.drop 1⟩
   ·
    refine tc_no rfl ?_
    refine tc_skip <| tx_then <| tc_seq <| tc_region ?_
    refine tl_makeMap keyS rfl fun b23 => ?_
    refine tl (v_assign rfl) ?_
    refine tl_nil <| tx_then <| tc_seq <| tc_seq <| tc_region ?_
    refine tl (v_fieldAddr 0 rfl fo24_0 rfl) ?_
    refine tl (v_ld 1 rfl ld22 rfl rfl) ?_
    refine tl (v_fieldAddr 1 rfl fo24_1 rfl) ?_
    refine tl (v_ld 1 rfl ld22 rfl rfl) ?_
    refine tl (v_fieldAddr 2 rfl fo24_2 rfl) ?_
    refine tl (v_ld 1 rfl ld22 rfl rfl) ?_
    refine tl_bslice [.slice A1 n.concepts.length d2, .slice A5 n.roles.length d6, .slice A9 n.inds.length d10] ap115 rfl rfl rfl rfl rfl rfl rfl fun b24 => ?_
    refine tl_retire (k := kStr.sl) (l := ([n.concepts, n.roles, n.inds] : List (List (ByteArray)))) 0 rfl (⟨_, _, rfl, ⟨_, _, rfl, hs3⟩, ⟨_, _, rfl, ⟨_, _, rfl, hs7⟩, ⟨_, _, rfl, ⟨_, _, rfl, hs11⟩, rfl⟩⟩⟩) (by show 3 ≤ big; unfold big; omega) fun R26 hle27 hs25 => ?_
    try replace hG := hG.mono hle27
    have z28 := hs25.size
    unfold big at z28
    refine tl_callo ca100 rfl (fun w hw => slices_Concat_string_string_ok ([n.concepts, n.roles, n.inds] : List (List (ByteArray))) hs25 (by rw [h3n]; grind) hw) rfl ?_
    rintro _ R30 _ hle31 ⟨A_z29_0, c_z29_0, l_z29_0, rfl, rfl, hv_z29_0⟩
    try replace hG := hG.mono hle31
    have hle32 := hle27.trans hle31
    refine tl_retireV (k := kStr) (l := (([n.concepts, n.roles, n.inds] : List (List (ByteArray))).flatten)) 0 rfl hv_z29_0 rfl (by unfold big; rw [h3n]; omega) fun R34 hle35 hs33 => ?_
    try replace hG := hG.mono hle35
    have hle36 := hle32.trans hle35
    have hle37 := hle31.trans hle35
    have z38 := hs33.size
    unfold big at z38
    refine tl (v_len rfl sl22) ?_
    refine tl (v_move rfl) ?_
    refine tl_nil <| tx_then <| tc_block ?_
    refine tc_loop ?_
    refine th_loopS (fun b_ : Nat × List ByteArray => match b_ with | (i, seen) => (namesL n).length - i) (fun b_ : Nat × List ByteArray => match b_ with | (i, seen) => [(3, .map (some b23)), (30, .slice A_z29_0 ((([n.concepts, n.roles, n.inds] : List (List (ByteArray))).flatten).length) c_z29_0), (31, .int .i64 ((([n.concepts, n.roles, n.inds] : List (List (ByteArray))).flatten).length : Int)), (32, .int .i64 (i : Int))]) (fun b_ : Nat × List ByteArray => match b_ with | (i, seen) => (.set keyS b23 seen :: .blk b13 [.slice A1 n.concepts.length d2, .slice A5 n.roles.length d6, .slice A9 n.inds.length d10] 24 :: G)) (fun (b_ : Nat × List ByteArray) => match b_ with | (i, seen) => i ≤ (namesL n).length ∧ seen = (namesL n).take i ∧ (∀ s ∈ seen, nameB s = true) ∧ seen.Nodup) (0, ([] : List ByteArray)) ⟨rfl, rfl, rfl, rfl, trivial⟩ (by exact ⟨by omega, rfl, by simp, by simp⟩) (fun w hw => hw) ?_
    rintro ⟨i, seen⟩ hI39 ih40
    show TC Tryz.prog _ _ _ [] [(3, .map (some b23)), (30, .slice A_z29_0 ((([n.concepts, n.roles, n.inds] : List (List (ByteArray))).flatten).length) c_z29_0), (31, .int .i64 ((([n.concepts, n.roles, n.inds] : List (List (ByteArray))).flatten).length : Int)), (32, .int .i64 (i : Int))] R34 (.set keyS b23 seen :: .blk b13 [.slice A1 n.concepts.length d2, .slice A5 n.roles.length d6, .slice A9 n.inds.length d10] 24 :: G)
    obtain ⟨hi1, hi2, hi3, hi4⟩ := hI39
    refine tc_seq <| tc_region ?_
    refine tl (v_ib rfl rfl rfl) ?_
    refine tl_nil <| tx_then <| tc_seq ?_
    refine tc_split 33 rfl (fun h43 => ?_) (fun h43 => ?_)
    ·
     refine tc_yes rfl ?_
     refine tc_skip <| tx_then <| tc_seq <| tc_block <| tc_seq <| tc_region ?_
     have hb49 : i < (([n.concepts, n.roles, n.inds] : List (List (ByteArray))).flatten).length := by omega
     obtain ⟨x44, hx45⟩ : ∃ x, (([n.concepts, n.roles, n.inds] : List (List (ByteArray))).flatten)[i]? = some x := ⟨_, List.getElem?_eq_getElem hb49⟩
     obtain ⟨c46, hr47, ha48⟩ := hs33.get _ x44 hx45
     obtain ⟨rfl, z50⟩ := hr47
     unfold big at z50
     have hf51 := namesL_at hx45
     refine tl (v_idxS (i := i) hs33 rfl rfl rfl sl22 hb49) ?_
     refine tl (v_ldA 0 ha48 rfl ld9 rfl rfl) ?_
     refine tl (v_assign rfl) ?_
     refine tl_nil <| tx_then <| tc_seq ?_
     refine tc_cut [(3, .map (some b23)), (30, .slice A_z29_0 ((([n.concepts, n.roles, n.inds] : List (List (ByteArray))).flatten).length) c_z29_0), (31, .int .i64 ((([n.concepts, n.roles, n.inds] : List (List (ByteArray))).flatten).length : Int)), (32, .int .i64 (i : Int)), (33, .bool true), (5, .string x44), (43, .bool (decide (((!(nameB x44)) = true) ∨ (x44 ∈ seen))))] (.set keyS b23 seen :: .blk b13 [.slice A1 n.concepts.length d2, .slice A5 n.roles.length d6, .slice A9 n.inds.length d10] 24 :: G) (fun _ => True) (fun K hK52 hE53 => ?_) ?_
     ·
      refine tc_region ?_
      refine tl (v_move rfl) ?_
      refine tl_callv ca101 rfl (fun w hw => concept_Name_ok x44 (by first | assumption | (unfold big; omega)) (by first | assumption | omega) hw) rfl ?_
      refine tl (v_neg rfl) ?_
      refine tl (v_move rfl) ?_
      refine tl_splitb 39 rfl (fun h54 => ?_) (fun h54 => ?_)
      ·
       refine tl_gskip 39 rfl rfl rfl ?_
       refine tl_gskip 39 rfl rfl rfl ?_
       refine tl_gskip 39 rfl rfl rfl ?_
       refine tl (v_pick_t rfl rfl) ?_
       refine tl_nil ?_
       exact tx_cut hK52 (.refl _) (trivial) ⟨rfl, rfl, rfl, rfl, rfl, rfl, show some (Value.bool true) = some (Value.bool (decide (((!(nameB x44)) = true) ∨ (x44 ∈ seen)))) by first | (simp [h54]; done) | grind | (simp [h54] <;> omega), trivial⟩ (fun w hw => hw)
      ·
       refine tl_grun 39 rfl rfl ?_
       refine tl (v_move rfl) ?_
       refine tl_grun 39 rfl rfl ?_
       refine tl (v_move rfl) ?_
       refine tl_grun 39 rfl rfl ?_
       refine tl (v_lookup (K := keyS) (ks := seen) (k := x44) 0 mi154 rfl rfl rfl) ?_
       refine tl (v_pick_f rfl rfl) ?_
       refine tl_nil ?_
       exact tx_cut hK52 (.refl _) (trivial) ⟨rfl, rfl, rfl, rfl, rfl, rfl, show some (Value.bool (decide (x44 ∈ seen))) = some (Value.bool (decide (((!(nameB x44)) = true) ∨ (x44 ∈ seen)))) by first | (simp [h54]; done) | grind | (simp [h54] <;> omega), trivial⟩ (fun w hw => hw)
     ·
      refine fun R56 hle57 hj55 => tc_weaken hle57 ?_
      refine tc_split 43 rfl (fun h58 => ?_) (fun h58 => ?_)
      ·
       refine tc_yes rfl ?_
       refine tc_seq <| tc_region ?_
       refine tl (v_assign rfl) ?_
       refine tl_nil <| tx_then <| tc_ret <| tx_then_ret <| tx_blk_ret <| tx_then_ret <| tx_then_ret <| tx_blk_ret <| tx_then_ret ?_
       refine tx_ret1 (.inl rfl) rfl rfl ?_
       have e59 : (false : Bool) = namesB n := by (symm; refine namesB_false (names_split (namesL_at hx45)) ?_; rw [← hi2]; grind)
       exact fun w hw => ⟨congrArg Ending.returned (congrArg (fun x0 => Value.bool x0) e59), (hw.drop 2).weaken hle36⟩
      ·
       refine tc_no rfl ?_
       refine tc_skip <| tx_then <| tc_region ?_
       refine tl (v_move rfl) ?_
       refine tl (v_move rfl) ?_
       refine tl_mapset (K := keyS) (ks := seen) (k := x44) 0 mi154 rfl rfl rfl ?_
       refine tl_nil <| tx_blk <| tx_then <| tc_region ?_
       refine tl (v_add rfl rfl (by omega) (by omega)) ?_
       refine tl (v_move rfl) ?_
       refine tl_nil ?_
       refine tx_round ?_
       exact fun a w ha hw => ih40.out (i + 1, (insK seen x44)) (by (have hq_ : nameB x44 = true ∧ ¬ x44 ∈ seen := (by grind); have ht_ := take_succ_at (namesL_at hx45); rw [insK_new hq_.2]; exact ⟨by rw [hcl] at *; omega, by rw [hi2, ht_], fun s_ hs_ => by (rw [List.mem_append] at hs_; rcases hs_ with hs_ | hs_; exact hi3 s_ hs_; simp at hs_; subst hs_; exact hq_.1), nodup_snoc hi4 hq_.2⟩)) (by (try dsimp only); omega) a w (ha.sub (lkAll_lk ⟨rfl, rfl, rfl, rfl, trivial⟩)) (hw)
    ·
     refine tc_no rfl ?_
     refine tc_exit <| tx_then_exit <| tx_then_exit <| tx_blk_exit <| tx_then <| tc_seq <| tc_region ?_
     refine tl (v_assign rfl) ?_
     refine tl_nil <| tx_then <| tc_ret ?_
     refine tx_ret1 (.inl rfl) rfl rfl ?_
     have e60 : (true : Bool) = namesB n := by ((have e_ := take_all (l := namesL n) (i := i) (by omega) (by omega)); rw [e_] at hi2; subst hi2; symm; unfold namesB; rw [decide_eq_true_eq]; exact ⟨by omega, by omega, by omega, hi3, hi4⟩)
     exact fun w hw => ⟨congrArg Ending.returned (congrArg (fun x0 => Value.bool x0) e60), (hw.drop 2).weaken hle36⟩

end Go.Proofs.YtcbcdlajnmkioaaGreatDoor
