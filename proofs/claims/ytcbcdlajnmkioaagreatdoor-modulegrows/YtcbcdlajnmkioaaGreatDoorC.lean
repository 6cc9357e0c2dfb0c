/- A part of the proof of the statement ModuleGrows of isagogelaw19: functions walked, and plain laws on what they answer. -/
import Derived.Test.YtcbcdlajnmkioaaGreatDoorB
namespace Go.Proofs.YtcbcdlajnmkioaaGreatDoor
open Go Go.Proofs
set_option linter.unusedSimpArgs false
set_option linter.unusedVariables false
theorem ap115 : apInfo Tryz.prog 115 = some (22, 1, 24, [.slice none 0 0]) := by kernel_rfl
theorem ap22 : apInfo Tryz.prog 22 = some (9, 1, 16, [.string (⟨#[]⟩)]) := by kernel_rfl
theorem ca57 : Callable Tryz.prog 57 := ⟨by kernel_rfl⟩
theorem ca58 : Callable Tryz.prog 58 := ⟨by kernel_rfl⟩
theorem fo24_0 : fieldOff Tryz.prog 24 0 = some 0 := by kernel_rfl
theorem fo24_1 : fieldOff Tryz.prog 24 1 = some 1 := by kernel_rfl
theorem fo24_2 : fieldOff Tryz.prog 24 2 = some 2 := by kernel_rfl
theorem ld22 : ldInfo Tryz.prog 22 = some (false, 1) := by kernel_rfl
theorem ld9 : ldInfo Tryz.prog 9 = some (false, 1) := by kernel_rfl
theorem sl115 : slElem Tryz.prog 115 = some (22, 1) := by kernel_rfl
theorem sl22 : slElem Tryz.prog 22 = some (9, 1) := by kernel_rfl

theorem findI_at {l : List ByteArray} {s : ByteArray} : ∀ {i : Nat}, l[i]? = some s → (∀ (j : Nat) (x : ByteArray), j < i → l[j]? = some x → ¬ x = s) → findI l s = i := by
  intro i h hp
  have : l.findIdx? (fun x => decide (s = x)) = some i := by
    rw [List.findIdx?_eq_some_iff_getElem]
    obtain ⟨hl, hx⟩ := List.getElem?_eq_some_iff.1 h
    refine ⟨hl, by simp [hx], fun j hj => ?_⟩
    have := hp j _ hj (List.getElem?_eq_getElem (by omega))
    simp; exact fun e => this e.symm
  simp [findI, this]
theorem findI_none {l : List ByteArray} {s : ByteArray} (hp : ∀ (j : Nat) (x : ByteArray), l[j]? = some x → ¬ x = s) : findI l s = -1 := by
  have : l.findIdx? (fun x => decide (s = x)) = none := by
    rw [List.findIdx?_eq_none_iff]
    intro x hx
    obtain ⟨j, hj⟩ := List.mem_iff_getElem?.1 hx
    have := hp j x hj
    simp; exact fun e => this e.symm
  simp [findI, this]
theorem findI_mem (l : List ByteArray) (s : ByteArray) : 0 ≤ findI l s ↔ s ∈ l := by
  unfold findI
  cases h : l.findIdx? (fun x => decide (s = x)) with
  | none =>
    rw [List.findIdx?_eq_none_iff] at h
    simp only [show ¬ (0 : Int) ≤ -1 by omega, false_iff]
    intro hm
    have := h s hm
    simp at this
  | some i =>
    rw [List.findIdx?_eq_some_iff_getElem] at h
    obtain ⟨hl, hx, -⟩ := h
    have e : s = l[i] := by simpa using hx
    simp only [Int.natCast_nonneg, true_iff]
    rw [e]; exact List.getElem_mem hl
theorem findI_lo (l : List ByteArray) (s : ByteArray) : -1 ≤ findI l s := by unfold findI; split <;> omega

set_option maxRecDepth 20000 in
set_option maxHeartbeats 8000000 in
theorem isagogeref01_Find_ok {R : RO} {G : List Res} {w : World} {A_l : Option Addr} {d_l : Nat} (l : List (ByteArray)) (s : ByteArray) (hs_l : SlAt kStr R A_l l) (hz_s : s.size ≤ big) (hw : Own w R (G)) :
    Calls Tryz.prog 58 [.slice A_l l.length d_l, .string s].toArray w (Gives R G (.int .i64 (findI l s))) := by
  have hz_l := hs_l.size
  unfold big at hz_l
  unfold big at hz_s
  refine fn_enter (vs := [.slice A_l l.length d_l, .string s]) Tryz.func58 rfl rfl rfl ?_ hw
  refine tc_seq <| tc_region ?_
  refine tl (v_assign rfl) ?_
  refine tl_nil <| tx_then <| tc_seq <| tc_seq <| tc_region ?_
  refine tl (v_move rfl) ?_
  refine tl (v_len rfl sl22) ?_
  refine tl (v_move rfl) ?_
  refine tl_nil <| tx_then <| tc_block ?_
  refine tc_loop ?_
  refine th_loopS (fun i : Nat => l.length - i) (fun i : Nat => [(1, .string s), (7, .slice A_l l.length d_l), (8, .int .i64 (l.length : Int)), (9, .int .i64 (i : Int))]) (fun i : Nat => (G)) (fun (i : Nat) => i ≤ l.length ∧ ∀ (j : Nat) (x : ByteArray), j < i → l[j]? = some x → ¬ x = s) (0) ⟨rfl, rfl, rfl, rfl, trivial⟩ (by exact ⟨by omega, fun j x h => by omega⟩) (fun w hw => hw) ?_
  rintro i hI1 ih2
  show TC Tryz.prog _ _ _ [] [(1, .string s), (7, .slice A_l l.length d_l), (8, .int .i64 (l.length : Int)), (9, .int .i64 (i : Int))] R (G)
  obtain ⟨hi1, hi2⟩ := hI1
  refine tc_seq <| tc_region ?_
  refine tl (v_ib rfl rfl rfl) ?_
  refine tl_nil <| tx_then <| tc_seq ?_
  refine tc_split 10 rfl (fun h5 => ?_) (fun h5 => ?_)
  ·
   refine tc_yes rfl ?_
   refine tc_skip <| tx_then <| tc_seq <| tc_block <| tc_seq <| tc_region ?_
   refine tl (v_move rfl) ?_
   have hb11 : i < l.length := by omega
   obtain ⟨x6, hx7⟩ : ∃ x, l[i]? = some x := ⟨_, List.getElem?_eq_getElem hb11⟩
   obtain ⟨c8, hr9, ha10⟩ := hs_l.get _ x6 hx7
   obtain ⟨rfl, z12⟩ := hr9
   unfold big at z12
   refine tl (v_idxS (i := i) hs_l rfl rfl rfl sl22 hb11) ?_
   refine tl (v_ldA 0 ha10 rfl ld9 rfl rfl) ?_
   refine tl (v_assign rfl) ?_
   refine tl (v_assign rfl) ?_
   refine tl_nil <| tx_then <| tc_seq <| tc_region ?_
   refine tl (v_move rfl) ?_
   refine tl (v_move rfl) ?_
   refine tl (v_seq rfl rfl) ?_
   refine tl_nil <| tx_then ?_
   refine tc_split 16 rfl (fun h13 => ?_) (fun h13 => ?_)
   ·
    refine tc_yes rfl ?_
    refine tc_seq <| tc_region ?_
    refine tl (v_move rfl) ?_
    refine tl (v_assign rfl) ?_
    refine tl_nil <| tx_then <| tc_ret <| tx_blk_ret <| tx_then_ret <| tx_then_ret <| tx_blk_ret <| tx_then_ret ?_
    refine tx_ret1 (.inl rfl) rfl rfl ?_
    have e14 : ((i : Int) : Int) = findI l s := by exact (findI_at (by rw [hx7, ← h13]) hi2).symm
    exact fun w hw => ⟨congrArg Ending.returned (congrArg (fun x0 => Value.int .i64 x0) e14), hw⟩
   ·
    refine tc_no rfl ?_
    refine tc_skip <| tx_blk <| tx_then <| tc_region ?_
    refine tl (v_add rfl rfl (by omega) (by omega)) ?_
    refine tl (v_move rfl) ?_
    refine tl_nil ?_
    refine tx_round ?_
    exact fun a w ha hw => ih2.out (i + 1) (by refine ⟨by omega, fun j x h hx => ?_⟩; by_cases e : j = i; (subst e; grind); exact hi2 j x (by omega) hx) (by (try dsimp only); omega) a w (ha.sub (lkAll_lk ⟨rfl, rfl, rfl, rfl, trivial⟩)) (hw)
  ·
   refine tc_no rfl ?_
   refine tc_exit <| tx_then_exit <| tx_then_exit <| tx_blk_exit <| tx_then <| tc_seq <| tc_region ?_
   refine tl (v_assign rfl) ?_
   refine tl_nil <| tx_then <| tc_ret ?_
   refine tx_ret1 (.inl rfl) rfl rfl ?_
   have e15 : ((-1) : Int) = findI l s := by (symm; apply findI_none; intro j x hx; exact hi2 j x (by have := (List.getElem?_eq_some_iff.1 hx).1; omega) hx)
   exact fun w hw => ⟨congrArg Ending.returned (congrArg (fun x0 => Value.int .i64 x0) e15), hw⟩

def namesL (n : Names) : List ByteArray := n.concepts ++ n.roles ++ n.inds
def namesB (n : Names) : Bool := decide (n.concepts.length ≤ 16 ∧ n.roles.length ≤ 6 ∧ n.inds.length ≤ 10 ∧ (∀ s ∈ namesL n, nameB s = true) ∧ (namesL n).Nodup)
theorem nodup_snoc {l : List ByteArray} {x : ByteArray} (h : l.Nodup) (hx : ¬ x ∈ l) : (l ++ [x]).Nodup := by
  rw [List.nodup_append]; refine ⟨h, by simp, fun a ha b hb => ?_⟩
  simp at hb; subst hb; exact fun e => hx (e ▸ ha)

theorem flat_pos {α : Type} {L : List (List α)} {i j : Nat} {x : List α} {e : α} (hx : L[i]? = some x) (he : x[j]? = some e) : ∃ rest, L.flatten = (L.take i).flatten ++ x.take j ++ e :: rest := by
  obtain ⟨hi, rfl⟩ := List.getElem?_eq_some_iff.1 hx
  obtain ⟨hj, rfl⟩ := List.getElem?_eq_some_iff.1 he
  refine ⟨(L[i]).drop (j + 1) ++ (L.drop (i + 1)).flatten, ?_⟩
  have h1 : L.flatten = (L.take i).flatten ++ (L.drop i).flatten := by rw [← List.flatten_append, List.take_append_drop]
  rw [h1, List.drop_eq_getElem_cons hi, List.flatten_cons]
  have h2 : L[i].take j ++ L[i][j] :: L[i].drop (j + 1) = L[i] := by rw [← List.drop_eq_getElem_cons hj, List.take_append_drop]
  have h3 : L[i] ++ (L.drop (i + 1)).flatten = L[i].take j ++ (L[i][j] :: (L[i].drop (j + 1) ++ (L.drop (i + 1)).flatten)) := by
    rw [← List.cons_append, ← List.append_assoc, h2]
  rw [h3]; simp
theorem flat_take {α : Type} {L : List (List α)} {i : Nat} {x : List α} (hx : L[i]? = some x) : (L.take (i + 1)).flatten = (L.take i).flatten ++ x := by
  rw [List.take_add_one, hx]; simp
theorem namesB_false {n : Names} {seen rest : List ByteArray} {e : ByteArray} (h : namesL n = seen ++ e :: rest) (hc : ¬ nameB e = true ∨ e ∈ seen) : namesB n = false := by
  unfold namesB
  rw [decide_eq_false_iff_not]
  rintro ⟨-, -, -, h1, h2⟩
  rcases hc with hc | hc
  · exact hc (h1 e (by rw [h]; simp))
  · rw [h, List.nodup_append] at h2
    exact h2.2.2 e hc e (by simp) rfl
def threeL (n : Names) : List (List ByteArray) := [n.concepts, n.roles, n.inds]
theorem three_flat (n : Names) : (threeL n).flatten = namesL n := by simp [threeL, namesL]

set_option maxRecDepth 20000 in
set_option maxHeartbeats 8000000 in
theorem isagogeref01_Names_ok {R : RO} {G : List Res} {w : World} {c_n : List Value} (n : Names) (hr_n : kNames.rep R n c_n) (hw : Own w R (G)) :
    Calls Tryz.prog 28 [.agg c_n.toArray].toArray w (Gives R G (.bool (namesB n))) := by
  obtain ⟨A1, d2, A5, d6, A9, d10, rfl, hs3, hs7, hs11⟩ := id hr_n
  have z4 := hs3.size
  unfold big at z4
  have z8 := hs7.size
  unfold big at z8
  have z12 := hs11.size
  unfold big at z12
  refine fn_enter (vs := [.agg #[.slice A1 n.concepts.length d2, .slice A5 n.roles.length d6, .slice A9 n.inds.length d10]]) Tryz.func28 rfl rfl rfl ?_ hw
  refine tc_seq <| tc_region ?_
  refine tl_box_agg (l := [.slice A1 n.concepts.length d2, .slice A5 n.roles.length d6, .slice A9 n.inds.length d10]) rfl rfl fun b13 => ?_
  refine tl (v_assign rfl) ?_
  refine tl_nil <| tx_then <| tc_seq ?_
  refine tc_cut [(0, .agg #[.slice A1 n.concepts.length d2, .slice A5 n.roles.length d6, .slice A9 n.inds.length d10]), (1, .pointer (some ⟨b13, 0, none⟩)), (2, .bool false), (23, .bool (decide (((16 < (n.concepts.length : Int)) ∨ (6 < (n.roles.length : Int))) ∨ (10 < (n.inds.length : Int)))))] (.blk b13 [.slice A1 n.concepts.length d2, .slice A5 n.roles.length d6, .slice A9 n.inds.length d10] 24 :: G) (fun _ => True) (fun K hK14 hE15 => ?_) ?_
  ·
   refine tc_region ?_
   refine tl (v_fieldAddr 0 rfl fo24_0 rfl) ?_
   refine tl (v_ld 0 rfl ld22 rfl rfl) ?_
   refine tl (v_len rfl sl22) ?_
   refine tl (v_ib rfl rfl rfl) ?_
   refine tl (v_move rfl) ?_
   refine tl_split 12 rfl (fun h16 => ?_) (fun h16 => ?_)
   ·
    refine tl_gskip 12 rfl rfl rfl ?_
    refine tl_gskip 12 rfl rfl rfl ?_
    refine tl_gskip 12 rfl rfl rfl ?_
    refine tl_gskip 12 rfl rfl rfl ?_
    refine tl (v_pick_t rfl rfl) ?_
    refine tl (v_move rfl) ?_
    refine tl_gskip 18 rfl rfl rfl ?_
    refine tl_gskip 18 rfl rfl rfl ?_
    refine tl_gskip 18 rfl rfl rfl ?_
    refine tl_gskip 18 rfl rfl rfl ?_
    refine tl (v_pick_t rfl rfl) ?_
    refine tl_nil ?_
    exact tx_cut hK14 (.refl _) (trivial) ⟨rfl, rfl, rfl, show some (Value.bool true) = some (Value.bool (decide (((16 < (n.concepts.length : Int)) ∨ (6 < (n.roles.length : Int))) ∨ (10 < (n.inds.length : Int))))) by first | (simp [h16]; done) | grind | (simp [h16] <;> omega), trivial⟩ (fun w hw => hw)
   ·
    refine tl_grun 12 rfl rfl ?_
    refine tl (v_fieldAddr 1 rfl fo24_1 rfl) ?_
    refine tl_grun 12 rfl rfl ?_
    refine tl (v_ld 0 rfl ld22 rfl rfl) ?_
    refine tl_grun 12 rfl rfl ?_
    refine tl (v_len rfl sl22) ?_
    refine tl_grun 12 rfl rfl ?_
    refine tl (v_ib rfl rfl rfl) ?_
    refine tl (v_pick_f rfl rfl) ?_
    refine tl (v_move rfl) ?_
    refine tl_split 18 rfl (fun h17 => ?_) (fun h17 => ?_)
    ·
     refine tl_gskip 18 rfl rfl rfl ?_
     refine tl_gskip 18 rfl rfl rfl ?_
     refine tl_gskip 18 rfl rfl rfl ?_
     refine tl_gskip 18 rfl rfl rfl ?_
     refine tl (v_pick_t rfl rfl) ?_
     refine tl_nil ?_
     exact tx_cut hK14 (.refl _) (trivial) ⟨rfl, rfl, rfl, show some (Value.bool true) = some (Value.bool (decide (((16 < (n.concepts.length : Int)) ∨ (6 < (n.roles.length : Int))) ∨ (10 < (n.inds.length : Int))))) by first | (simp [h16, h17]; done) | grind | (simp [h16, h17] <;> omega), trivial⟩ (fun w hw => hw)
    ·
     refine tl_grun 18 rfl rfl ?_
     refine tl (v_fieldAddr 2 rfl fo24_2 rfl) ?_
     refine tl_grun 18 rfl rfl ?_
     refine tl (v_ld 0 rfl ld22 rfl rfl) ?_
     refine tl_grun 18 rfl rfl ?_
     refine tl (v_len rfl sl22) ?_
     refine tl_grun 18 rfl rfl ?_
     refine tl (v_ib rfl rfl rfl) ?_
     refine tl (v_pick_f rfl rfl) ?_
     refine tl_nil ?_
     exact tx_cut hK14 (.refl _) (trivial) ⟨rfl, rfl, rfl, show some (Value.bool (decide (10 < (n.inds.length : Int)))) = some (Value.bool (decide (((16 < (n.concepts.length : Int)) ∨ (6 < (n.roles.length : Int))) ∨ (10 < (n.inds.length : Int))))) by first | (simp [h16, h17]; done) | grind | (simp [h16, h17] <;> omega), trivial⟩ (fun w hw => hw)
  ·
   refine fun R19 hle20 hj18 => tc_weaken hle20 ?_
   refine tc_split 23 rfl (fun h21 => ?_) (fun h21 => ?_)
   ·
    refine tc_yes rfl ?_
    refine tc_seq <| tc_region ?_
    refine tl (v_assign rfl) ?_
    refine tl_nil <| tx_then <| tc_ret <| tx_then_ret ?_
    refine tx_ret1 (.inl rfl) rfl rfl ?_
    have e22 : (false : Bool) = namesB n := by (unfold namesB; rw [eq_comm, decide_eq_false_iff_not]; rintro ⟨h_, h2_, h3_, -⟩; omega)
    exact fun w hw => ⟨congrArg Ending.returned (congrArg (fun x0 => Value.bool x0) e22), hw.drop 1⟩
   ·
    refine tc_no rfl ?_
    refine tc_skip <| tx_then <| tc_seq <| tc_region ?_
    refine tl_vecnil 9 1 ?_
    have hv23 : (kStr).reps R [] [] := rfl
    refine tl (v_assign rfl) ?_
    refine tl_nil <| tx_then <| tc_seq <| tc_seq <| tc_region ?_
    refine tl (v_fieldAddr 0 rfl fo24_0 rfl) ?_
    refine tl (v_ld 1 rfl ld22 rfl rfl) ?_
    refine tl (v_fieldAddr 1 rfl fo24_1 rfl) ?_
    refine tl (v_ld 1 rfl ld22 rfl rfl) ?_
    refine tl (v_fieldAddr 2 rfl fo24_2 rfl) ?_
    refine tl (v_ld 1 rfl ld22 rfl rfl) ?_
    refine tl_bslice [.slice A1 n.concepts.length d2, .slice A5 n.roles.length d6, .slice A9 n.inds.length d10] ap115 rfl rfl rfl rfl rfl rfl rfl fun b25 => ?_
    refine tl_retire (k := kStr.sl) (l := threeL n) 0 rfl (⟨_, _, rfl, ⟨_, _, rfl, hs3⟩, _, _, rfl, ⟨_, _, rfl, hs7⟩, _, _, rfl, ⟨_, _, rfl, hs11⟩, rfl⟩) (by show 3 ≤ big; unfold big; omega) fun R26 hle27 hs28 => ?_
    try replace hv23 := Kd.reps_mono hle27 hv23
    have z29 := hs28.size
    unfold big at z29
    refine tl (v_len rfl sl115) ?_
    refine tl (v_move rfl) ?_
    refine tl_nil <| tx_then <| tc_block ?_
    refine tc_loop ?_
    refine th_loopS (fun b_ : Nat × List (ByteArray) × Option Addr × Nat × List Value => match b_ with | (i, seen, A_seen, c_seen, l_seen) => 3 - i) (fun b_ : Nat × List (ByteArray) × Option Addr × Nat × List Value => match b_ with | (i, seen, A_seen, c_seen, l_seen) => [(30, .slice (some ⟨b25, 0, none⟩) 3 3), (31, .int .i64 3), (32, .int .i64 (i : Int)), (3, .slice A_seen seen.length c_seen)]) (fun b_ : Nat × List (ByteArray) × Option Addr × Nat × List Value => match b_ with | (i, seen, A_seen, c_seen, l_seen) => (.vec (.slice A_seen seen.length c_seen) seen.length 9 1 l_seen :: .blk b13 [.slice A1 n.concepts.length d2, .slice A5 n.roles.length d6, .slice A9 n.inds.length d10] 24 :: G)) (fun (b_ : Nat × List (ByteArray) × Option Addr × Nat × List Value) => match b_ with | (i, seen, A_seen, c_seen, l_seen) => (kStr).reps R26 seen l_seen ∧ (i ≤ 3 ∧ seen = ((threeL n).take i).flatten ∧ (∀ s ∈ seen, nameB s = true) ∧ seen.Nodup ∧ seen.length ≤ i * 16)) (0, ([] : List (ByteArray)), none, 0, []) ⟨rfl, rfl, rfl, rfl, trivial⟩ (by refine ⟨hv23, ?_⟩; exact ⟨by omega, rfl, by simp, by simp, by simp⟩) (fun w hw => hw) ?_
    rintro ⟨i, seen, A_seen, c_seen, l_seen⟩ hI32 ih33
    show TC Tryz.prog _ _ _ [] [(30, .slice (some ⟨b25, 0, none⟩) 3 3), (31, .int .i64 3), (32, .int .i64 (i : Int)), (3, .slice A_seen seen.length c_seen)] R26 (.vec (.slice A_seen seen.length c_seen) seen.length 9 1 l_seen :: .blk b13 [.slice A1 n.concepts.length d2, .slice A5 n.roles.length d6, .slice A9 n.inds.length d10] 24 :: G)
    obtain ⟨hv31, hI36⟩ := hI32
    obtain ⟨hi1, hi2, hi3, hi4, hi5⟩ := hI36
    have hl3 : (threeL n).length = 3 := rfl
    refine tc_seq <| tc_region ?_
    refine tl (v_ib rfl rfl rfl) ?_
    refine tl_nil <| tx_then <| tc_seq ?_
    refine tc_split 33 rfl (fun h37 => ?_) (fun h37 => ?_)
    ·
     refine tc_yes rfl ?_
     refine tc_skip <| tx_then <| tc_seq <| tc_block <| tc_seq <| tc_region ?_
     have hb43 : i < (threeL n).length := by omega
     obtain ⟨x38, hx39⟩ : ∃ x, (threeL n)[i]? = some x := ⟨_, List.getElem?_eq_getElem hb43⟩
     obtain ⟨c40, hr41, ha42⟩ := hs28.get _ x38 hx39
     obtain ⟨A44, d45, rfl, hs46⟩ := hr41
     have z47 := hs46.size
     unfold big at z47
     refine tl (v_idxS (i := i) hs28 rfl rfl rfl sl115 hb43) ?_
     refine tl (v_ldA 0 ha42 rfl ld22 rfl rfl) ?_
     refine tl (v_assign rfl) ?_
     refine tl_nil <| tx_then <| tc_seq <| tc_region ?_
     refine tl (v_move rfl) ?_
     refine tl (v_len rfl sl22) ?_
     refine tl (v_move rfl) ?_
     refine tl_nil <| tx_then <| tc_block ?_
     refine tc_loop ?_
     refine th_loopS (fun b_ : Nat × List (ByteArray) × Option Addr × Nat × List Value => match b_ with | (j, seen2, A_seen2, c_seen2, l_seen2) => x38.length - j) (fun b_ : Nat × List (ByteArray) × Option Addr × Nat × List Value => match b_ with | (j, seen2, A_seen2, c_seen2, l_seen2) => [(30, .slice (some ⟨b25, 0, none⟩) 3 3), (31, .int .i64 3), (32, .int .i64 (i : Int)), (36, .slice A44 x38.length d45), (37, .int .i64 (x38.length : Int)), (38, .int .i64 (j : Int)), (3, .slice A_seen2 seen2.length c_seen2)]) (fun b_ : Nat × List (ByteArray) × Option Addr × Nat × List Value => match b_ with | (j, seen2, A_seen2, c_seen2, l_seen2) => (.vec (.slice A_seen2 seen2.length c_seen2) seen2.length 9 1 l_seen2 :: .blk b13 [.slice A1 n.concepts.length d2, .slice A5 n.roles.length d6, .slice A9 n.inds.length d10] 24 :: G)) (fun (b_ : Nat × List (ByteArray) × Option Addr × Nat × List Value) => match b_ with | (j, seen2, A_seen2, c_seen2, l_seen2) => (kStr).reps R26 seen2 l_seen2 ∧ (j ≤ x38.length ∧ seen2 = seen ++ x38.take j ∧ (∀ s ∈ seen2, nameB s = true) ∧ seen2.Nodup ∧ seen2.length ≤ i * 16 + j)) (0, seen, A_seen, c_seen, l_seen) ⟨rfl, rfl, rfl, rfl, rfl, rfl, rfl, trivial⟩ (by refine ⟨hv31, ?_⟩; exact ⟨by omega, by simp, hi3, hi4, by omega⟩) (fun w hw => hw) ?_
     rintro ⟨j, seen2, A_seen2, c_seen2, l_seen2⟩ hI50 ih51
     show TC Tryz.prog _ _ _ [] [(30, .slice (some ⟨b25, 0, none⟩) 3 3), (31, .int .i64 3), (32, .int .i64 (i : Int)), (36, .slice A44 x38.length d45), (37, .int .i64 (x38.length : Int)), (38, .int .i64 (j : Int)), (3, .slice A_seen2 seen2.length c_seen2)] R26 (.vec (.slice A_seen2 seen2.length c_seen2) seen2.length 9 1 l_seen2 :: .blk b13 [.slice A1 n.concepts.length d2, .slice A5 n.roles.length d6, .slice A9 n.inds.length d10] 24 :: G)
     obtain ⟨hv49, hI54⟩ := hI50
     obtain ⟨hj1, hj2, hj3, hj4, hj5⟩ := hI54
     have hx16 : x38.length ≤ 16 := by (have hm := List.mem_of_getElem? hx39); simp only [threeL, List.mem_cons, List.not_mem_nil, or_false] at hm; rcases hm with rfl | rfl | rfl <;> grind
     refine tc_seq <| tc_region ?_
     refine tl (v_ib rfl rfl rfl) ?_
     refine tl_nil <| tx_then <| tc_seq ?_
     refine tc_split 39 rfl (fun h55 => ?_) (fun h55 => ?_)
     ·
      refine tc_yes rfl ?_
      refine tc_skip <| tx_then <| tc_seq <| tc_block <| tc_seq <| tc_region ?_
      have hb61 : j < x38.length := by omega
      obtain ⟨x56, hx57⟩ : ∃ x, x38[j]? = some x := ⟨_, List.getElem?_eq_getElem hb61⟩
      obtain ⟨c58, hr59, ha60⟩ := hs46.get _ x56 hx57
      obtain ⟨rfl, z62⟩ := hr59
      unfold big at z62
      refine tl (v_idxS (i := j) hs46 rfl rfl rfl sl22 hb61) ?_
      refine tl (v_ldA 0 ha60 rfl ld9 rfl rfl) ?_
      refine tl (v_assign rfl) ?_
      refine tl_nil <| tx_then <| tc_seq ?_
      refine tc_cut [(30, .slice (some ⟨b25, 0, none⟩) 3 3), (31, .int .i64 3), (32, .int .i64 (i : Int)), (36, .slice A44 x38.length d45), (37, .int .i64 (x38.length : Int)), (38, .int .i64 (j : Int)), (3, .slice A_seen2 seen2.length c_seen2), (39, .bool true), (7, .string x56), (50, .bool (decide (((!(nameB x56)) = true) ∨ (0 ≤ (findI seen2 x56)))))] (.vec (.slice A_seen2 seen2.length c_seen2) seen2.length 9 1 l_seen2 :: .blk b13 [.slice A1 n.concepts.length d2, .slice A5 n.roles.length d6, .slice A9 n.inds.length d10] 24 :: G) (fun _ => True) (fun K hK63 hE64 => ?_) ?_
      ·
       refine tc_region ?_
       refine tl (v_move rfl) ?_
       refine tl_callv ca57 rfl (fun w hw => isagogeref01_Name_ok x56 (by first | assumption | (unfold big; omega)) hw) rfl ?_
       refine tl (v_neg rfl) ?_
       refine tl (v_move rfl) ?_
       refine tl_splitb 45 rfl (fun h65 => ?_) (fun h65 => ?_)
       ·
        refine tl_gskip 45 rfl rfl rfl ?_
        refine tl_gskip 45 rfl rfl rfl ?_
        refine tl_gskip 45 rfl rfl rfl ?_
        refine tl_gskip 45 rfl rfl rfl ?_
        refine tl (v_pick_t rfl rfl) ?_
        refine tl_nil ?_
        exact tx_cut hK63 (.refl _) (trivial) ⟨rfl, rfl, rfl, rfl, rfl, rfl, rfl, rfl, rfl, show some (Value.bool true) = some (Value.bool (decide (((!(nameB x56)) = true) ∨ (0 ≤ (findI seen2 x56))))) by first | (simp [h65]; done) | grind | (simp [h65] <;> omega), trivial⟩ (fun w hw => hw)
       ·
        refine tl_grun 45 rfl rfl ?_
        refine tl (v_move rfl) ?_
        refine tl_grun 45 rfl rfl ?_
        refine tl (v_move rfl) ?_
        refine tl_grun 45 rfl rfl ?_
        refine tl_callv_lend (k := kStr) (l := seen2) 0 rfl hv49 rfl (by omega) ca58 rfl (fun R_ w hle_ hlent hw => by exact isagogeref01_Find_ok seen2 x56 hlent (by first | assumption | (unfold big; omega)) hw) rfl ?_
        have hf66 := findI_mem seen2 x56
        refine tl_grun 45 rfl rfl ?_
        refine tl (v_ib rfl rfl rfl) ?_
        refine tl (v_pick_f rfl rfl) ?_
        refine tl_nil ?_
        exact tx_cut hK63 (.refl _) (trivial) ⟨rfl, rfl, rfl, rfl, rfl, rfl, rfl, rfl, rfl, show some (Value.bool (decide (0 ≤ (findI seen2 x56)))) = some (Value.bool (decide (((!(nameB x56)) = true) ∨ (0 ≤ (findI seen2 x56))))) by first | (simp [h65]; done) | grind | (simp [h65] <;> omega), trivial⟩ (fun w hw => hw)
      ·
       refine fun R68 hle69 hj67 => tc_weaken hle69 ?_
       refine tc_split 50 rfl (fun h70 => ?_) (fun h70 => ?_)
       ·
        refine tc_yes rfl ?_
        refine tc_seq <| tc_region ?_
        refine tl (v_assign rfl) ?_
        refine tl_nil <| tx_then <| tc_ret <| tx_then_ret <| tx_blk_ret <| tx_then_ret <| tx_then_ret <| tx_blk_ret <| tx_blk_ret <| tx_then_ret <| tx_then_ret <| tx_blk_ret <| tx_then_ret ?_
        refine tx_ret1 (.inl rfl) rfl rfl ?_
        have e71 : (false : Bool) = namesB n := by (obtain ⟨rest_, hr_⟩ := flat_pos hx39 hx57; rw [three_flat, ← hi2, ← hj2] at hr_; symm; refine namesB_false hr_ ?_; have := findI_mem seen2 x56; grind)
        exact fun w hw => ⟨congrArg Ending.returned (congrArg (fun x0 => Value.bool x0) e71), (hw.drop 2).weaken hle27⟩
       ·
        refine tc_no rfl ?_
        refine tc_skip <| tx_then <| tc_region ?_
        refine tl (v_move rfl) ?_
        refine tl (v_move rfl) ?_
        refine tl_bslice [.string x56] ap22 rfl rfl rfl rfl rfl rfl rfl fun b72 => ?_
        refine tl_app (k := kStr) (e := x56) 1 0 hv49 (⟨rfl, by unfold big; omega⟩) ap22 rfl rfl rfl rfl rfl (by omega) rfl rfl fun A73 c74 l75 hv76 => ?_
        refine tl (v_assign rfl) ?_
        refine tl_nil <| tx_blk <| tx_then <| tc_region ?_
        refine tl (v_add rfl rfl (by omega) (by omega)) ?_
        refine tl (v_move rfl) ?_
        refine tl_nil ?_
        refine tx_round ?_
        exact fun a w ha hw => ih51.out (j + 1, (seen2 ++ [x56]), A73, c74, l75) (by refine ⟨hv76, ?_⟩; refine ⟨by omega, by rw [hj2, List.take_add_one, hx57]; simp, fun s_ hs_ => ?_, nodup_snoc hj4 ?_, by simp; omega⟩; (rw [List.mem_append] at hs_; rcases hs_ with hs_ | hs_; exact hj3 s_ hs_; simp at hs_; subst hs_; grind); (have := findI_mem seen2 x56; grind)) (by (try dsimp only); omega) a w (ha.sub (lkAll_lk ⟨rfl, rfl, rfl, rfl, rfl, congrArg (fun z => some (Value.int .i64 z)) (show ((j : Int) + 1 : Int) = ((j + 1) : Int) by first | rfl | omega), rfl, trivial⟩)) (hw.drop 1)
     ·
      refine tc_no rfl ?_
      refine tc_exit <| tx_then_exit <| tx_then_exit <| tx_blk_exit <| tx_blk <| tx_then <| tc_region ?_
      refine tl (v_add rfl rfl (by omega) (by omega)) ?_
      refine tl (v_move rfl) ?_
      refine tl_nil ?_
      refine tx_round ?_
      exact fun a w ha hw => ih33.out (i + 1, seen2, A_seen2, c_seen2, l_seen2) (by refine ⟨hv49, ?_⟩; (have e_ : j = x38.length := by omega); subst e_; rw [List.take_length] at hj2; exact ⟨by omega, by rw [hj2, hi2, flat_take hx39], hj3, hj4, by omega⟩) (by (try dsimp only); omega) a w (ha.sub (lkAll_lk ⟨rfl, rfl, rfl, rfl, trivial⟩)) (hw)
    ·
     refine tc_no rfl ?_
     refine tc_exit <| tx_then_exit <| tx_then_exit <| tx_blk_exit <| tx_then <| tc_seq <| tc_region ?_
     refine tl (v_assign rfl) ?_
     refine tl_nil <| tx_then <| tc_ret ?_
     refine tx_ret1 (.inl rfl) rfl rfl ?_
     have e78 : (true : Bool) = namesB n := by (have e_ : i = 3 := by omega); subst e_; (have e2_ : seen = namesL n := by rw [hi2, ← three_flat]; rfl); subst e2_; symm; unfold namesB; rw [decide_eq_true_eq]; exact ⟨by omega, by omega, by omega, hi3, hi4⟩
     exact fun w hw => ⟨congrArg Ending.returned (congrArg (fun x0 => Value.bool x0) e78), (hw.drop 2).weaken hle27⟩

end Go.Proofs.YtcbcdlajnmkioaaGreatDoor
