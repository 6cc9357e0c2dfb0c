/- A part of the proof of the statement ModuleGrows of isagogelaw19: functions walked, and plain laws on what they answer. -/
import Derived.Test.YtcbcdlajnmkioaaGreatDoorZ2
namespace Go.Proofs.YtcbcdlajnmkioaaGreatDoor
open Go Go.Proofs
set_option linter.unusedSimpArgs false
set_option linter.unusedVariables false
theorem ca70 : Callable Tryz.prog 70 := ⟨by kernel_rfl⟩
theorem ca84 : Callable Tryz.prog 84 := ⟨by kernel_rfl⟩

set_option maxRecDepth 20000 in
set_option maxHeartbeats 8000000 in
theorem module_module_1_ok {R : RO} {G : List Res} {w : World} (k : Int) (q : List Int) {b_q m_q : Nat} (hi_k : i64 k) (hb_q : Res.blk b_q [.map (some m_q)] 98 ∈ G) (hm_q : Res.set keyI m_q q ∈ G) (hw : Own w R (G)) :
    Calls Tryz.prog 70 [.int .i64 k, .pointer (some ⟨b_q, 0, none⟩)].toArray w (Gives R G (.bool (decide (¬ k ∈ q)))) := by
  unfold i64 at hi_k
  refine fn_enter (vs := [.int .i64 k, .pointer (some ⟨b_q, 0, none⟩)]) Tryz.func70 rfl rfl rfl ?_ hw
  refine tc_seq <| tc_region ?_
  refine tl (v_assign rfl) ?_
  refine tl_nil <| tx_then <| tc_seq <| tc_region ?_
  refine tl (mem_ld hb_q rfl ld98 rfl) ?_
  refine tl (v_move rfl) ?_
  refine tl (mem_lookup (K := keyI) (ks := q) (k := k) mi98 hm_q rfl rfl) ?_
  refine tl (v_negd rfl) ?_
  refine tl (v_assign rfl) ?_
  refine tl_nil <| tx_then <| tc_ret ?_
  refine tx_ret1 (.inl rfl) rfl rfl ?_
  have e1 : (decide (¬ (k ∈ q)) : Bool) = decide (¬ k ∈ q) := by rfl
  exact fun w hw => ⟨congrArg Ending.returned (congrArg (fun x0 => Value.bool x0) e1), hw⟩

def idxN (l q : List Int) : Int := match l.findIdx? (fun k => !decide (k ∈ q)) with | some i => i | none => -1
theorem idxN_at {l q : List Int} {i : Nat} {x : Int} (h : l[i]? = some x) (hx : ¬ x ∈ q) (hp : ∀ y ∈ l.take i, y ∈ q) : idxN l q = i := by
  have : l.findIdx? (fun k => !decide (k ∈ q)) = some i := by
    rw [List.findIdx?_eq_some_iff_getElem]
    obtain ⟨hl, rfl⟩ := List.getElem?_eq_some_iff.1 h
    refine ⟨hl, by simpa using hx, fun j hj => ?_⟩
    have := hp l[j] (List.mem_of_getElem? (i := j) (by rw [List.getElem?_take, if_pos hj, List.getElem?_eq_getElem (by omega)]))
    simpa using this
  simp [idxN, this]
theorem idxN_none {l q : List Int} (hp : ∀ y ∈ l, y ∈ q) : idxN l q = -1 := by
  have : l.findIdx? (fun k => !decide (k ∈ q)) = none := by
    rw [List.findIdx?_eq_none_iff]; intro x hx; simpa using hp x hx
  simp [idxN, this]
theorem idxN_spec (l q : List Int) : (idxN l q = -1 ∧ l.filter (fun k => decide (k ∈ q)) = l) ∨ (0 ≤ idxN l q ∧ (idxN l q).toNat < l.length ∧ l.take (idxN l q).toNat = (l.take ((idxN l q).toNat + 1)).filter fun k => decide (k ∈ q)) := by
  unfold idxN
  cases h : l.findIdx? (fun k => !decide (k ∈ q)) with
  | none =>
    left
    rw [List.findIdx?_eq_none_iff] at h
    exact ⟨rfl, List.filter_eq_self.2 fun x hx => by simpa using h x hx⟩
  | some i =>
    right
    rw [List.findIdx?_eq_some_iff_getElem] at h
    obtain ⟨hl, hx, hj⟩ := h
    simp only [Int.toNat_natCast]
    refine ⟨by omega, hl, ?_⟩
    rw [take_succ_at (List.getElem?_eq_getElem hl), List.filter_append, List.filter_eq_self.2 fun x hx => ?_]
    · have : [l[i]].filter (fun k => decide (k ∈ q)) = [] := by simpa using hx
      rw [this]; simp
    · obtain ⟨j, hj1, rfl⟩ := List.getElem_of_mem hx
      simp only [List.length_take] at hj1
      have := hj j (by omega)
      simpa [List.getElem_take] using this

set_option maxRecDepth 20000 in
set_option maxHeartbeats 8000000 in
theorem slices_IndexFunc_int_int_ok {R : RO} {G : List Res} {w : World} {A_l : Option Addr} {d_l : Nat} (l : List (Int)) (q : List Int) {b_q m_q : Nat} (hs_l : SlAt kInt R A_l l) (hb_q : Res.blk b_q [.map (some m_q)] 98 ∈ G) (hm_q : Res.set keyI m_q q ∈ G) (hw : Own w R (G)) :
    Calls Tryz.prog 84 [.slice A_l l.length d_l, .func (.func 70) #[] #[.pointer (some ⟨b_q, 0, none⟩)]].toArray w (Gives R G (.int .i64 (idxN l q))) := by
  have hz_l := hs_l.size
  unfold big at hz_l
  refine fn_enter (vs := [.slice A_l l.length d_l, .func (.func 70) #[] #[.pointer (some ⟨b_q, 0, none⟩)]]) Tryz.func84 rfl rfl rfl ?_ hw
  refine tc_seq <| tc_region ?_
  refine tl (v_assign rfl) ?_
  refine tl_nil <| tx_then <| tc_seq <| tc_seq <| tc_region ?_
  refine tl (v_move rfl) ?_
  refine tl (v_len rfl sl31) ?_
  refine tl (v_move rfl) ?_
  refine tl_nil <| tx_then <| tc_block ?_
  refine tc_loop ?_
  refine th_loopS (fun i : Nat => l.length - i) (fun i : Nat => [(0, .slice A_l l.length d_l), (1, .func (.func 70) #[] #[.pointer (some ⟨b_q, 0, none⟩)]), (7, .int .i64 (l.length : Int)), (8, .int .i64 (i : Int))]) (fun i : Nat => (G)) (fun (i : Nat) => i ≤ l.length ∧ ∀ y ∈ l.take i, y ∈ q) (0) ⟨rfl, rfl, rfl, rfl, trivial⟩ (by exact ⟨by omega, by simp⟩) (fun w hw => hw) ?_
  rintro i hI1 ih2
  show TC Tryz.prog _ _ _ [] [(0, .slice A_l l.length d_l), (1, .func (.func 70) #[] #[.pointer (some ⟨b_q, 0, none⟩)]), (7, .int .i64 (l.length : Int)), (8, .int .i64 (i : Int))] R (G)
  obtain ⟨hi1, hi2⟩ := hI1
  refine tc_seq <| tc_region ?_
  refine tl (v_ib rfl rfl rfl) ?_
  refine tl_nil <| tx_then <| tc_seq ?_
  refine tc_split 9 rfl (fun h5 => ?_) (fun h5 => ?_)
  ·
   refine tc_yes rfl ?_
   refine tc_skip <| tx_then <| tc_seq <| tc_block <| tc_seq <| tc_region ?_
   refine tl (v_move rfl) ?_
   refine tl (v_assign rfl) ?_
   refine tl_nil <| tx_then <| tc_seq <| tc_region ?_
   refine tl (v_move rfl) ?_
   refine tl (v_move rfl) ?_
   refine tl (v_move rfl) ?_
   have hb11 : i < l.length := by omega
   obtain ⟨x6, hx7⟩ : ∃ x, l[i]? = some x := ⟨_, List.getElem?_eq_getElem hb11⟩
   obtain ⟨c8, hr9, ha10⟩ := hs_l.get _ x6 hx7
   obtain ⟨rfl, i12⟩ := hr9
   unfold i64 at i12
   refine tl (v_idxS (i := i) hs_l rfl rfl rfl sl31 hb11) ?_
   refine tl (v_ldA 0 ha10 rfl ld3 rfl rfl) ?_
   refine tl_callvG (goes_fun ca70 rfl rfl) (fun w hw => module_module_1_ok x6 q (by unfold i64; omega) hb_q hm_q hw) rfl ?_
   refine tl_nil <| tx_then ?_
   refine tc_split 16 rfl (fun h13 => ?_) (fun h13 => ?_)
   ·
    refine tc_yes rfl ?_
    refine tc_seq <| tc_region ?_
    refine tl (v_move rfl) ?_
    refine tl (v_assign rfl) ?_
    refine tl_nil <| tx_then <| tc_ret <| tx_blk_ret <| tx_then_ret <| tx_then_ret <| tx_blk_ret <| tx_then_ret ?_
    refine tx_ret1 (.inl rfl) rfl rfl ?_
    have e14 : ((i : Int) : Int) = idxN l q := by (symm; exact idxN_at hx7 (by grind) hi2)
    exact fun w hw => ⟨congrArg Ending.returned (congrArg (fun x0 => Value.int .i64 x0) e14), hw⟩
   ·
    refine tc_no rfl ?_
    refine tc_skip <| tx_blk <| tx_then <| tc_region ?_
    refine tl (v_add rfl rfl (by omega) (by omega)) ?_
    refine tl (v_move rfl) ?_
    refine tl_nil ?_
    refine tx_round ?_
    exact fun a w ha hw => ih2.out (i + 1) (by exact ⟨by omega, all_take hi2 hx7 (by grind)⟩) (by (try dsimp only); omega) a w (ha.sub (lkAll_lk ⟨rfl, rfl, rfl, rfl, trivial⟩)) (hw)
  ·
   refine tc_no rfl ?_
   refine tc_exit <| tx_then_exit <| tx_then_exit <| tx_blk_exit <| tx_then <| tc_seq <| tc_region ?_
   refine tl (v_assign rfl) ?_
   refine tl_nil <| tx_then <| tc_ret ?_
   refine tx_ret1 (.inl rfl) rfl rfl ?_
   have e15 : ((-1) : Int) = idxN l q := by (rw [take_all (by assumption) (by assumption)] at hi2; exact (idxN_none hi2).symm)
   exact fun w hw => ⟨congrArg Ending.returned (congrArg (fun x0 => Value.int .i64 x0) e15), hw⟩

theorem del_keep {s u q : List Int} {i j : Nat} {x : Int} (hu : u.length = s.length) (h1 : u.take i = (s.take j).filter fun k => decide (k ∈ q)) (h2 : u.drop j = s.drop j) (hij : i ≤ j) (hx : u[j]? = some x) (hq : x ∈ q) :
    (u.set i x).length = s.length ∧ (u.set i x).take (i + 1) = (s.take (j + 1)).filter (fun k => decide (k ∈ q)) ∧ (u.set i x).drop (j + 1) = s.drop (j + 1) := by
  have hj : j < u.length := (List.getElem?_eq_some_iff.1 hx).1
  have hs : s[j]? = some x := by
    have := congrArg (fun l => l[0]?) h2
    simp only [List.getElem?_drop, Nat.add_zero] at this
    rw [← this]; exact hx
  refine ⟨by simp [hu], ?_, ?_⟩
  · rw [take_succ_at hs, List.filter_append, ← h1, List.take_add_one, List.getElem?_set_self (by omega), List.take_set_of_le (by omega)]
    simp [hq]
  · rw [List.drop_set_of_lt (by omega)]
    have := congrArg (List.drop 1) h2
    simpa [List.drop_drop] using this
theorem del_skip {s u q : List Int} {i j : Nat} {x : Int} (h1 : u.take i = (s.take j).filter fun k => decide (k ∈ q)) (h2 : u.drop j = s.drop j) (hx : u[j]? = some x) (hq : ¬ x ∈ q) :
    u.take i = (s.take (j + 1)).filter (fun k => decide (k ∈ q)) ∧ u.drop (j + 1) = s.drop (j + 1) := by
  have hs : s[j]? = some x := by
    have := congrArg (fun l => l[0]?) h2
    simp only [List.getElem?_drop, Nat.add_zero] at this
    rw [← this]; exact hx
  refine ⟨?_, ?_⟩
  · rw [take_succ_at hs, List.filter_append, ← h1]; simp [hq]
  · have := congrArg (List.drop 1) h2
    simpa [List.drop_drop] using this

set_option maxRecDepth 20000 in
set_option maxHeartbeats 8000000 in
theorem slices_DeleteFunc_int_int_ok {R : RO} {G : List Res} {w : World} (s : List (Int)) {A_s : Option Addr} {c_s : Nat} {l_s : List Value} (q : List Int) {b_q m_q : Nat} (hv_s : (kInt).reps R s l_s) (hb_q : Res.blk b_q [.map (some m_q)] 98 ∈ G) (hm_q : Res.set keyI m_q q ∈ G) (hb : s.length ≤ 1000) (hw : Own w R (.vec (.slice A_s s.length c_s) s.length 3 1 l_s :: G)) :
    Calls Tryz.prog 68 [.slice A_s s.length c_s, .func (.func 70) #[] #[.pointer (some ⟨b_q, 0, none⟩)]].toArray w (RetO R G (fun v_ R' L_ => ∃ (A_0 : Option Addr) (c_0 : Nat) (l_0 : List Value), v_ = (.slice A_0 ((s.filter fun k => decide (k ∈ q)).length) c_0 : Value) ∧ L_ = ([.vec (.slice A_0 ((s.filter fun k => decide (k ∈ q)).length) c_0) ((s.filter fun k => decide (k ∈ q)).length) 3 1 l_0] : List Res) ∧ (kInt).reps R' (s.filter fun k => decide (k ∈ q)) l_0)) := by
  have hsp := idxN_spec s q
  refine fn_enter (vs := [.slice A_s s.length c_s, .func (.func 70) #[] #[.pointer (some ⟨b_q, 0, none⟩)]]) Tryz.func68 rfl rfl rfl ?_ hw
  refine tc_seq <| tc_region ?_
  refine tl (v_assign rfl) ?_
  refine tl_nil <| tx_then <| tc_seq <| tc_region ?_
  refine tl (v_move rfl) ?_
  refine tl (v_move rfl) ?_
  refine tl_callv_lend (k := kInt) (l := s) 0 rfl hv_s rfl (by omega) ca84 rfl (fun R_ w hle_ hlent hw => by exact slices_IndexFunc_int_int_ok s q hlent hb_q hm_q hw) rfl ?_
  have hf3 := idxN_spec s q
  refine tl (v_assign rfl) ?_
  refine tl_nil <| tx_then <| tc_seq <| tc_seq <| tc_region ?_
  refine tl (v_move rfl) ?_
  refine tl (v_ib rfl rfl rfl) ?_
  refine tl_nil <| tx_then ?_
  refine tc_split 12 rfl (fun h4 => ?_) (fun h4 => ?_)
  ·
   refine tc_yes rfl ?_
   refine tc_seq <| tc_region ?_
   refine tl (v_move rfl) ?_
   refine tl (v_assign rfl) ?_
   refine tl_nil <| tx_then <| tc_ret <| tx_then_ret ?_
   refine tx_ret1 (.inl rfl) rfl rfl ?_
   have e5 : (s : List (Int)) = s.filter fun k => decide (k ∈ q) := by (obtain ⟨k1_, k2_⟩ | ⟨k1_, k2_, k3_⟩ := hsp; exact k2_.symm; omega)
   intro w hw
   exact ⟨_, _, [.vec (.slice A_s s.length c_s) s.length 3 1 l_s], rfl, .refl _, hw, A_s, c_s, l_s, (congrArg (fun (z0_ : List (Int)) => (.slice A_s z0_.length c_s : Value)) e5), (congrArg (fun (z0_ : List (Int)) => ([.vec (.slice A_s z0_.length c_s) z0_.length 3 1 l_s] : List Res)) e5), (Eq.mp (congrArg (fun z => (kInt).reps R z l_s) e5) hv_s)⟩
  ·
   refine tc_no rfl ?_
   refine tc_skip <| tx_then <| tc_seq <| tc_seq <| tc_region ?_
   refine tl (v_move rfl) ?_
   refine tl (v_add rfl rfl (by omega) (by omega)) ?_
   refine tl (v_assign rfl) ?_
   refine tl_nil <| tx_then <| tc_block ?_
   refine tc_loop ?_
   refine th_loopS (fun b_ : Nat × Nat × List (Int) × Option Addr × Nat × List Value => match b_ with | (i, j, u, A_u, c_u, l_u) => s.length - j) (fun b_ : Nat × Nat × List (Int) × Option Addr × Nat × List Value => match b_ with | (i, j, u, A_u, c_u, l_u) => [(1, .func (.func 70) #[] #[.pointer (some ⟨b_q, 0, none⟩)]), (4, .slice none 0 0), (5, .int .i64 (i : Int)), (6, .int .i64 (j : Int)), (0, .slice A_u u.length c_u)]) (fun b_ : Nat × Nat × List (Int) × Option Addr × Nat × List Value => match b_ with | (i, j, u, A_u, c_u, l_u) => (.vec (.slice A_u u.length c_u) u.length 3 1 l_u :: G)) (fun (b_ : Nat × Nat × List (Int) × Option Addr × Nat × List Value) => match b_ with | (i, j, u, A_u, c_u, l_u) => (kInt).reps R u l_u ∧ (i < j ∧ j ≤ s.length ∧ u.length = s.length ∧ u.take i = (s.take j).filter (fun k => decide (k ∈ q)) ∧ u.drop j = s.drop j)) ((idxN s q).toNat, (idxN s q).toNat + 1, s, A_s, c_s, l_s) ⟨rfl, rfl, congrArg (fun z => some (Value.int .i64 z)) (show (idxN s q : Int) = (((idxN s q).toNat) : Int) by omega), congrArg (fun z => some (Value.int .i64 z)) (show ((idxN s q) + 1 : Int) = (((idxN s q).toNat + 1) : Int) by omega), rfl, trivial⟩ (by refine ⟨hv_s, ?_⟩; (obtain ⟨k1_, k2_⟩ | ⟨k1_, k2_, k3_⟩ := hsp; exact absurd k1_ (by assumption); exact ⟨by omega, by omega, rfl, k3_, rfl⟩)) (fun w hw => hw) ?_
   rintro ⟨i, j, u, A_u, c_u, l_u⟩ hI8 ih9
   show TC Tryz.prog _ _ _ [] [(1, .func (.func 70) #[] #[.pointer (some ⟨b_q, 0, none⟩)]), (4, .slice none 0 0), (5, .int .i64 (i : Int)), (6, .int .i64 (j : Int)), (0, .slice A_u u.length c_u)] R (.vec (.slice A_u u.length c_u) u.length 3 1 l_u :: G)
   obtain ⟨hv7, hI12⟩ := hI8
   obtain ⟨hi1, hi2, hi3, hi4, hi5⟩ := hI12
   refine tc_seq <| tc_seq <| tc_region ?_
   refine tl (v_move rfl) ?_
   refine tl (v_move rfl) ?_
   refine tl (v_len rfl sl31) ?_
   refine tl (v_ib rfl rfl rfl) ?_
   refine tl_nil <| tx_then ?_
   refine tc_split 19 rfl (fun h13 => ?_) (fun h13 => ?_)
   ·
    refine tc_yes rfl ?_
    refine tc_skip <| tx_then <| tc_seq <| tc_block <| tc_seq <| tc_region ?_
    refine tl (v_move rfl) ?_
    refine tl (v_move rfl) ?_
    have hb16 : j < u.length := by omega
    obtain ⟨x14, hx15⟩ : ∃ x, u[j]? = some x := ⟨_, List.getElem?_eq_getElem hb16⟩
    obtain ⟨c17, hr18, hc19⟩ := Kd.reps_get1 rfl hv7 hx15
    obtain ⟨hz20_, hz20⟩ := id hr18
    cases hz20_
    unfold i64 at hz20
    refine tl (v_idxV1 (i := j) 0 rfl rfl rfl sl31 hb16) ?_
    refine tl (v_ldV 0 rfl rfl ld3 hc19) ?_
    refine tl (v_assign rfl) ?_
    refine tl_nil <| tx_then <| tc_seq <| tc_region ?_
    refine tl (v_move rfl) ?_
    refine tl (v_move rfl) ?_
    refine tl_callvG (goes_fun ca70 rfl rfl) (fun w hw => module_module_1_ok x14 q (by unfold i64; omega) (.tail _ (hb_q)) (.tail _ (hm_q)) hw) rfl ?_
    refine tl (v_negd rfl) ?_
    refine tl_nil <| tx_then ?_
    refine tc_split 29 rfl (fun h21 => ?_) (fun h21 => ?_)
    ·
     refine tc_yes rfl ?_
     refine tc_seq <| tc_region ?_
     refine tl (v_move rfl) ?_
     refine tl (v_move rfl) ?_
     refine tl (v_move rfl) ?_
     have hb24 : i < u.length := by omega
     obtain ⟨x22, hx23⟩ : ∃ x, u[i]? = some x := ⟨_, List.getElem?_eq_getElem hb24⟩
     obtain ⟨c25, hr26, hc27⟩ := Kd.reps_get1 rfl hv7 hx23
     obtain ⟨hz28_, hz28⟩ := id hr26
     cases hz28_
     unfold i64 at hz28
     refine tl (v_idxV1 (i := i) 0 rfl rfl rfl sl31 hb24) ?_
     have hb29 : i < l_u.length := by rw [Kd.reps_length hv7]; show _ < _ * 1; omega
     have hv30 := Kd.reps_set1 (k := kInt) (y := x14) (v := .int .i64 x14) rfl (⟨rfl, by unfold i64; omega⟩) i hv7
     refine tl_stV 0 rfl rfl rfl ld3 rfl hb29 ?_
     have hl32 : (u.set i x14).length = u.length := List.length_set
     refine tl_env [(1, .func (.func 70) #[] #[.pointer (some ⟨b_q, 0, none⟩)]), (4, .slice none 0 0), (5, .int .i64 (i : Int)), (6, .int .i64 (j : Int)), (0, .slice A_u ((u.set i x14).length) c_u), (16, .int .i64 (j : Int)), (17, .slice A_u ((u.set i x14).length) c_u), (18, .int .i64 (u.length : Int)), (19, .bool true), (22, .slice A_u ((u.set i x14).length) c_u), (23, .int .i64 (j : Int)), (25, .int .i64 x14), (7, .int .i64 x14), (26, .func (.func 70) #[] #[.pointer (some ⟨b_q, 0, none⟩)]), (27, .int .i64 x14), (28, .bool (decide (¬ x14 ∈ q))), (29, .bool true), (30, .slice A_u ((u.set i x14).length) c_u), (31, .int .i64 (i : Int)), (32, .int .i64 x14)] (by rw [hl32]; exact ⟨rfl, rfl, rfl, rfl, rfl, rfl, rfl, rfl, rfl, rfl, rfl, rfl, rfl, rfl, rfl, rfl, rfl, rfl, rfl, rfl, trivial⟩) ?_
     refine tl_G (.vec (.slice A_u ((u.set i x14).length) c_u) ((u.set i x14).length) 3 1 (l_u.set i (.int .i64 x14)) :: G) (fun w hw => by rw [hl32]; exact hw) ?_
     refine tl_nil <| tx_then <| tc_region ?_
     refine tl (v_move rfl) ?_
     refine tl (v_add rfl rfl (by omega) (by omega)) ?_
     refine tl (v_assign rfl) ?_
     refine tl_nil <| tx_blk <| tx_then <| tc_region ?_
     refine tl (v_move rfl) ?_
     refine tl (v_add rfl rfl (by omega) (by omega)) ?_
     refine tl (v_assign rfl) ?_
     refine tl_nil ?_
     refine tx_round ?_
     exact fun a w ha hw => ih9.out (i + 1, j + 1, (u.set i x14), A_u, c_u, (l_u.set i (.int .i64 x14))) (by refine ⟨hv30, ?_⟩; (obtain ⟨k1_, k2_, k3_⟩ := del_keep hi3 hi4 hi5 (by omega) hx15 (by grind); exact ⟨by omega, by omega, k1_, k2_, k3_⟩)) (by (try dsimp only); omega) a w (ha.sub (lkAll_lk ⟨rfl, rfl, rfl, congrArg (fun z => some (Value.int .i64 z)) (show ((j : Int) + 1 : Int) = ((j + 1) : Int) by first | rfl | omega), rfl, trivial⟩)) (hw)
    ·
     refine tc_no rfl ?_
     refine tc_skip <| tx_blk <| tx_then <| tc_region ?_
     refine tl (v_move rfl) ?_
     refine tl (v_add rfl rfl (by omega) (by omega)) ?_
     refine tl (v_assign rfl) ?_
     refine tl_nil ?_
     refine tx_round ?_
     exact fun a w ha hw => ih9.out (i, j + 1, u, A_u, c_u, l_u) (by refine ⟨hv7, ?_⟩; (obtain ⟨k2_, k3_⟩ := del_skip hi4 hi5 hx15 (by grind); exact ⟨by omega, by omega, hi3, k2_, k3_⟩)) (by (try dsimp only); omega) a w (ha.sub (lkAll_lk ⟨rfl, rfl, rfl, congrArg (fun z => some (Value.int .i64 z)) (show ((j : Int) + 1 : Int) = ((j + 1) : Int) by first | rfl | omega), rfl, trivial⟩)) (hw)
   ·
    refine tc_no rfl ?_
    refine tc_exit <| tx_then_exit <| tx_then_exit <| tx_blk_exit <| tx_then <| tc_seq <| tc_region ?_
    refine tl (v_move rfl) ?_
    refine tl (v_move rfl) ?_
    have hlo33 : i ≤ u.length := by omega
    have hhi34 : u.length ≤ u.length := by omega
    have hv36 := Kd.reps_take (u.length - i) (Kd.reps_drop i hv7)
    have hl37 : u.length - i = ((u.drop i).take (u.length - i)).length := by simp only [List.length_take, List.length_drop]; omega
    refine tl (v_sliceV i u.length 0 rfl rfl sl31 rfl rfl hlo33 hhi34) ?_
    refine tl_clearV (lo := i) 0 ap31 rfl rfl rfl rfl hlo33 ?_
    have hv38 : (kInt).reps R (u.take i ++ List.replicate (u.length - i) (0 : Int)) (l_u.take i ++ List.replicate (u.length - i) (Value.int .i64 0)) := reps_clear (k := kInt) rfl hv7 (⟨rfl, by unfold i64; omega⟩) _ _
    have hl39 : u.length = (u.take i ++ List.replicate (u.length - i) (0 : Int)).length := by rw [List.length_append, List.length_take, List.length_replicate]; omega
    refine tl_env [(1, .func (.func 70) #[] #[.pointer (some ⟨b_q, 0, none⟩)]), (4, .slice none 0 0), (5, .int .i64 (i : Int)), (6, .int .i64 (j : Int)), (0, .slice A_u ((u.take i ++ List.replicate (u.length - i) (0 : Int)).length) c_u), (16, .int .i64 (j : Int)), (17, .slice A_u ((u.take i ++ List.replicate (u.length - i) (0 : Int)).length) c_u), (18, .int .i64 (u.length : Int)), (19, .bool false), (36, .slice A_u ((u.take i ++ List.replicate (u.length - i) (0 : Int)).length) c_u), (37, .int .i64 (i : Int))] (by rw [← hl39]; exact ⟨rfl, rfl, rfl, rfl, rfl, rfl, rfl, rfl, rfl, rfl, rfl, trivial⟩) ?_
    refine tl_G (.vec (.slice A_u ((u.take i ++ List.replicate (u.length - i) (0 : Int)).length) c_u) ((u.take i ++ List.replicate (u.length - i) (0 : Int)).length) 3 1 (l_u.take i ++ List.replicate (u.length - i) (Value.int .i64 0)) :: G) (fun w hw => by rw [← hl39]; exact hw) ?_
    refine tl_nil <| tx_then <| tc_seq <| tc_region ?_
    refine tl (v_move rfl) ?_
    refine tl (v_move rfl) ?_
    have hm41 : i ≤ (u.take i ++ List.replicate (u.length - i) (0 : Int)).length := by omega
    have hv42 := Kd.reps_take i hv38
    have hl43 : i = ((u.take i ++ List.replicate (u.length - i) (0 : Int)).take i).length := by rw [List.length_take]; omega
    refine tl_truncV (m := i) 0 rfl rfl sl31 rfl hm41 rfl ?_
    refine tl_env [(1, .func (.func 70) #[] #[.pointer (some ⟨b_q, 0, none⟩)]), (4, .slice none 0 0), (5, .int .i64 (i : Int)), (6, .int .i64 (j : Int)), (16, .int .i64 (j : Int)), (18, .int .i64 (u.length : Int)), (19, .bool false), (37, .int .i64 (i : Int)), (40, .int .i64 (i : Int)), (41, .slice A_u (((u.take i ++ List.replicate (u.length - i) (0 : Int)).take i).length) c_u)] (by rw [← hl43]; exact ⟨rfl, rfl, rfl, rfl, rfl, rfl, rfl, rfl, rfl, rfl, trivial⟩) ?_
    refine tl_G (.vec (.slice A_u (((u.take i ++ List.replicate (u.length - i) (0 : Int)).take i).length) c_u) (((u.take i ++ List.replicate (u.length - i) (0 : Int)).take i).length) 3 1 ((l_u.take i ++ List.replicate (u.length - i) (Value.int .i64 0)).take (i * 1)) :: G) (fun w hw => by rw [← hl43]; exact hw) ?_
    refine tl (v_assign rfl) ?_
    refine tl_nil <| tx_then <| tc_ret ?_
    refine tx_ret1 (.inl rfl) rfl rfl ?_
    have e45 : (((u.take i ++ List.replicate (u.length - i) (0 : Int)).take i) : List (Int)) = s.filter fun k => decide (k ∈ q) := by (have e_ : s.take j = s := List.take_of_length_le (by omega); rw [e_] at hi4; rw [← hi4]; rw [List.take_append_of_le_length (by simp; omega), List.take_take, Nat.min_self])
    intro w hw
    exact ⟨_, _, [.vec (.slice A_u (((u.take i ++ List.replicate (u.length - i) (0 : Int)).take i).length) c_u) (((u.take i ++ List.replicate (u.length - i) (0 : Int)).take i).length) 3 1 ((l_u.take i ++ List.replicate (u.length - i) (Value.int .i64 0)).take (i * 1))], rfl, .refl _, hw, A_u, c_u, ((l_u.take i ++ List.replicate (u.length - i) (Value.int .i64 0)).take (i * 1)), (congrArg (fun (z0_ : List (Int)) => (.slice A_u z0_.length c_u : Value)) e45), (congrArg (fun (z0_ : List (Int)) => ([.vec (.slice A_u z0_.length c_u) z0_.length 3 1 ((l_u.take i ++ List.replicate (u.length - i) (Value.int .i64 0)).take (i * 1))] : List Res)) e45), (Eq.mp (congrArg (fun z => (kInt).reps R z ((l_u.take i ++ List.replicate (u.length - i) (Value.int .i64 0)).take (i * 1))) e45) hv42)⟩

end Go.Proofs.YtcbcdlajnmkioaaGreatDoor
