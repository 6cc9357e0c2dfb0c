/- A part of the proof of the statement ModuleGrows of isagogelaw19: functions walked, and plain laws on what they answer. -/
import Derived.Test.YtcbcdlajnmkioaaGreatDoorP
import Derived.Test.YtcbcdlajnmkioaaGreatDoorSh
namespace Go.Proofs.YtcbcdlajnmkioaaGreatDoor
open Go Go.Proofs
set_option linter.unusedSimpArgs false
set_option linter.unusedVariables false
theorem ca108 : Callable Tryz.prog 108 := ⟨by kernel_rfl⟩
theorem ca109 : Callable Tryz.prog 109 := ⟨by kernel_rfl⟩

theorem contains_cons (b : UInt8) (l sub : List UInt8) : Lib.contains (b :: l) sub = (sub.isPrefixOf (b :: l) || Lib.contains l sub) := by
  unfold Lib.contains
  have h := Lib.index_ge l sub
  rw [Lib.index]
  cases hp : sub.isPrefixOf (b :: l)
  · simp only [Bool.false_eq_true, if_false, Bool.false_or, decide_eq_decide, beq_iff_eq]
    split <;> omega
  · simp
theorem contains_skip {sub : List UInt8} : ∀ (t r : List UInt8), ¬ (32 : UInt8) ∈ t → Lib.contains (t ++ r) (32 :: sub) = Lib.contains r (32 :: sub)
  | [], r, _ => rfl
  | x :: t, r, h => by
    have hx : ¬ 32 = x := fun e => h (by simp [e])
    rw [List.cons_append, contains_cons, contains_skip t r fun k => h (by simp [k])]
    simp [List.isPrefixOf, hx]
theorem pre_word : ∀ (u t r : List UInt8), ¬ (32 : UInt8) ∈ u → ¬ (32 : UInt8) ∈ t → (u ++ [32]).isPrefixOf (t ++ 32 :: r) = decide (u = t)
  | [], [], r, _, _ => by simp
  | [], y :: t, r, _, h => by
    have hy : ¬ 32 = y := fun e => h (by simp [e])
    simp [List.isPrefixOf, hy]
  | x :: u, [], r, h, _ => by
    have hx : ¬ x = 32 := fun e => h (by simp [e])
    simp [List.isPrefixOf, hx]
  | x :: u, y :: t, r, h, k => by
    have ih := pre_word u t r (fun e => h (by simp [e])) (fun e => k (by simp [e]))
    simp only [List.cons_append, List.isPrefixOf, ih]
    rw [Bool.eq_iff_iff]; simp
theorem contains_words {u : List UInt8} (hu : ¬ (32 : UInt8) ∈ u) : ∀ ts : List (List UInt8), (∀ t ∈ ts, ¬ (32 : UInt8) ∈ t) → Lib.contains (32 :: ts.flatMap (· ++ [32])) (32 :: (u ++ [32])) = ts.any fun t => decide (u = t)
  | [], _ => by
    have : Lib.contains [] (32 :: (u ++ [32])) = false := by simp [Lib.contains, Lib.index]
    rw [List.flatMap_nil, contains_cons, this]
    cases u <;> simp [List.isPrefixOf]
  | t :: ts, h => by
    have e : (32 : UInt8) :: (t :: ts).flatMap (· ++ [32]) = 32 :: (t ++ (32 :: ts.flatMap (· ++ [32]))) := by simp
    have hp : (32 :: (u ++ [32])).isPrefixOf (32 :: (t ++ (32 :: ts.flatMap (· ++ [32])))) = decide (u = t) := by
      rw [← pre_word u t (ts.flatMap (· ++ [32])) hu (h t (by simp))]; simp [List.isPrefixOf]
    rw [e, contains_cons, hp, contains_skip t _ (h t (by simp)), contains_words hu ts fun t ht => h t (by simp [ht])]; simp
def resvA : ByteArray := ⟨#[32, 116, 111, 112, 32, 98, 111, 116, 32, 110, 111, 116, 32, 97, 110, 100, 32, 111, 114, 32, 115, 111, 109, 101, 32, 97, 108, 108, 32, 99, 111, 110, 99, 101, 112, 116, 32, 114, 111, 108, 101, 32, 105, 110, 100, 32]⟩
theorem resv_words : resvA.data.toList = 32 :: (reserved.map (·.data.toList)).flatMap (· ++ [32]) := by decide
theorem bt_mem {s : ByteArray} {x : UInt8} (h : x ∈ s.data.toList) : ∃ i, i < s.size ∧ bt s i = x.toNat := by
  obtain ⟨i, hi, rfl⟩ := List.getElem_of_mem h
  have hl : i < s.size := by simpa using hi
  refine ⟨i, hl, ?_⟩
  unfold bt; rw [dif_pos hl]; rfl
theorem contains_res {s : ByteArray} (h : ¬ (32 : UInt8) ∈ s.data.toList) : Lib.contains resvA.data.toList (32 :: (s.data.toList ++ [32])) = resB s := by
  rw [resv_words, contains_words h _ (by decide)]
  unfold resB
  rw [List.any_map]
  congr 1
  funext t
  simp only [Function.comp, decide_eq_decide]
  exact ⟨fun e => data_inj (by simpa using congrArg List.toArray e), fun e => by rw [e]⟩
theorem okB_within {i : Nat} {c : Int} (h : okB i c = true) : withinB c = true := by unfold okB at h; unfold withinB; grind
theorem no_space {s : ByteArray} (h : ∀ i, i < s.size → withinB (bt s i) = true) : ¬ (32 : UInt8) ∈ s.data.toList := fun k => by
  obtain ⟨i, hi, e⟩ := bt_mem k
  have := h i hi
  rw [e] at this
  revert this; decide
theorem sz32 : (⟨#[32]⟩ : ByteArray).size = 1 := rfl
def spc (s : ByteArray) : ByteArray := (⟨#[32]⟩ ++ s) ++ ⟨#[32]⟩
theorem spc_list (s : ByteArray) : (spc s).data.toList = 32 :: (s.data.toList ++ [32]) := by simp [spc]
theorem name_yes {s : ByteArray} (h1 : ¬ s = ⟨#[]⟩) (h2 : s.size ≤ 12) (h3 : letterB (bt s 0) = true) (h4 : ¬ Lib.contains resvA.data.toList (spc s).data.toList = true) (h5 : ∀ i, i < s.size → withinB (bt s i) = true) : nameB s = true := by
  rw [spc_list, contains_res (no_space h5)] at h4
  unfold nameB wordB
  simp only [Bool.and_eq_true, decide_eq_true_eq, Bool.not_eq_true']
  refine ⟨⟨h2, h1, fun i hi => ?_⟩, by simpa using h4⟩
  have := h5 i hi
  rcases Nat.eq_zero_or_pos i with e | e
  · subst e; unfold okB; simp [h3]
  · unfold okB; unfold withinB at this; grind
theorem name_no {s : ByteArray} (h : nameB s = true) : ¬ s = ⟨#[]⟩ ∧ s.size ≤ 12 ∧ letterB (bt s 0) = true ∧ ¬ Lib.contains resvA.data.toList (spc s).data.toList = true ∧ ∀ i, i < s.size → withinB (bt s i) = true := by
  unfold nameB wordB at h
  simp only [Bool.and_eq_true, decide_eq_true_eq, Bool.not_eq_true'] at h
  obtain ⟨⟨h2, h1, h3⟩, h4⟩ := h
  have h5 : ∀ i, i < s.size → withinB (bt s i) = true := fun i hi => okB_within (h3 i hi)
  have h0 : 0 < s.size := by
    rcases Nat.eq_zero_or_pos s.size with e | e
    · exact absurd (data_inj (Array.eq_empty_of_size_eq_zero e)) h1
    · exact e
  refine ⟨h1, h2, ?_, ?_, h5⟩
  · have := h3 0 h0; unfold okB at this; simpa using this
  · rw [spc_list, contains_res (no_space h5)]; simpa using h4
theorem size_pos {s : ByteArray} (h : ¬ s = ⟨#[]⟩) : 0 < s.size := by
  rcases Nat.eq_zero_or_pos s.size with e | e
  · exact absurd (data_inj (Array.eq_empty_of_size_eq_zero e)) h
  · exact e
structure Glob (R : RO) : Prop where
  args : R.at 0 0 [.int .i64 0, .int .i64 0, .int .i64 0, .int .i64 1, .int .i64 2, .int .i64 2, .int .i64 1, .int .i64 1]
  maxLen : ∃ m, R.at 1 0 [.int .i64 m]
theorem Glob.mono {R R' : RO} (h : Glob R) (k : R.le R') : Glob R' := ⟨h.args.mono k, let ⟨m, hm⟩ := h.maxLen; ⟨m, hm.mono k⟩⟩
theorem contains_ok {R : RO} {G : List Res} {w : World} (s sub : ByteArray) (hs : s.size < 4294967281) (hG : Glob R) (hw : Own w R G) : Calls Tryz.prog 108 [.string s, .string sub].toArray w (Gives R G (.bool (Lib.contains s.data.toList sub.data.toList))) := by
  obtain ⟨m, hm⟩ := hG.maxLen
  exact (Tryz.strings_Contains s sub m w hs (hm.cell (j := 0) hw rfl)).mono fun e w' ⟨he, hw'⟩ => ⟨he, hw' ▸ hw⟩

set_option maxRecDepth 20000 in
set_option maxHeartbeats 8000000 in
theorem concept_Name_ok {R : RO} {G : List Res} {w : World} (s : ByteArray) (hz_s : s.size ≤ big) (hG : Glob R) (hw : Own w R (G)) :
    Calls Tryz.prog 101 [.string s].toArray w (Gives R G (.bool (nameB s))) := by
  unfold big at hz_s
  refine fn_enter (vs := [.string s]) Tryz.func101 rfl rfl rfl ?_ hw
  refine tc_seq <| tc_region ?_
  refine tl (v_assign rfl) ?_
  refine tl_nil <| tx_then <| tc_seq ?_
  refine tc_cut [(0, .string s), (2, .bool false), (22, .bool (decide ((((s = (⟨#[]⟩)) ∨ (12 < (s.size : Int))) ∨ ((!(letterB (bt s 0))) = true)) ∨ ((Lib.contains resvA.data.toList (spc s).data.toList) = true))))] (G) (fun _ => True) (fun K hK1 hE2 => ?_) ?_
  ·
   refine tc_region ?_
   refine tl (v_move rfl) ?_
   refine tl (v_seq rfl rfl) ?_
   refine tl (v_move rfl) ?_
   refine tl_split 6 rfl (fun h3 => ?_) (fun h3 => ?_)
   ·
    refine tl_gskip 6 rfl rfl rfl ?_
    refine tl_gskip 6 rfl rfl rfl ?_
    refine tl_gskip 6 rfl rfl rfl ?_
    refine tl (v_pick_t rfl rfl) ?_
    refine tl (v_move rfl) ?_
    refine tl_gskip 11 rfl rfl rfl ?_
    refine tl_gskip 11 rfl rfl rfl ?_
    refine tl_gskip 11 rfl rfl rfl ?_
    refine tl_gskip 11 rfl rfl rfl ?_
    refine tl (v_pick_t rfl rfl) ?_
    refine tl (v_move rfl) ?_
    refine tl_gskip 17 rfl rfl rfl ?_
    refine tl_gskip 17 rfl rfl rfl ?_
    refine tl_gskip 17 rfl rfl rfl ?_
    refine tl_gskip 17 rfl rfl rfl ?_
    refine tl (v_pick_t rfl rfl) ?_
    refine tl_nil ?_
    exact tx_cut hK1 (.refl _) (trivial) ⟨rfl, rfl, show some (Value.bool true) = some (Value.bool (decide ((((s = (⟨#[]⟩)) ∨ (12 < (s.size : Int))) ∨ ((!(letterB (bt s 0))) = true)) ∨ ((Lib.contains resvA.data.toList (spc s).data.toList) = true)))) by first | (simp [h3]; done) | grind | (simp [h3] <;> omega), trivial⟩ (fun w hw => hw)
   ·
    refine tl_grun 6 rfl rfl ?_
    refine tl (v_move rfl) ?_
    refine tl_grun 6 rfl rfl ?_
    refine tl (v_len_str rfl st9) ?_
    refine tl_grun 6 rfl rfl ?_
    refine tl (v_ib rfl rfl rfl) ?_
    refine tl (v_pick_f rfl rfl) ?_
    refine tl (v_move rfl) ?_
    refine tl_split 11 rfl (fun h4 => ?_) (fun h4 => ?_)
    ·
     refine tl_gskip 11 rfl rfl rfl ?_
     refine tl_gskip 11 rfl rfl rfl ?_
     refine tl_gskip 11 rfl rfl rfl ?_
     refine tl_gskip 11 rfl rfl rfl ?_
     refine tl (v_pick_t rfl rfl) ?_
     refine tl (v_move rfl) ?_
     refine tl_gskip 17 rfl rfl rfl ?_
     refine tl_gskip 17 rfl rfl rfl ?_
     refine tl_gskip 17 rfl rfl rfl ?_
     refine tl_gskip 17 rfl rfl rfl ?_
     refine tl (v_pick_t rfl rfl) ?_
     refine tl_nil ?_
     exact tx_cut hK1 (.refl _) (trivial) ⟨rfl, rfl, show some (Value.bool true) = some (Value.bool (decide ((((s = (⟨#[]⟩)) ∨ (12 < (s.size : Int))) ∨ ((!(letterB (bt s 0))) = true)) ∨ ((Lib.contains resvA.data.toList (spc s).data.toList) = true)))) by first | (simp [h3, h4]; done) | grind | (simp [h3, h4] <;> omega), trivial⟩ (fun w hw => hw)
    ·
     refine tl_grun 11 rfl rfl ?_
     refine tl (v_move rfl) ?_
     refine tl_grun 11 rfl rfl ?_
     have hb5 : 0 < s.size := by first | omega | exact size_pos (by first | assumption | grind)
     have hr6 := bt_range s 0
     refine tl (v_sidx (i := 0) rfl rfl st9 hb5) ?_
     refine tl_grun 11 rfl rfl ?_
     refine tl_callv ca107 rfl (fun w hw => concept_letter_ok (bt s 0) (by omega) hw) rfl ?_
     refine tl_grun 11 rfl rfl ?_
     refine tl (v_neg rfl) ?_
     refine tl (v_pick_f rfl rfl) ?_
     refine tl (v_move rfl) ?_
     refine tl_splitb 17 rfl (fun h7 => ?_) (fun h7 => ?_)
     ·
      refine tl_gskip 17 rfl rfl rfl ?_
      refine tl_gskip 17 rfl rfl rfl ?_
      refine tl_gskip 17 rfl rfl rfl ?_
      refine tl_gskip 17 rfl rfl rfl ?_
      refine tl (v_pick_t rfl rfl) ?_
      refine tl_nil ?_
      exact tx_cut hK1 (.refl _) (trivial) ⟨rfl, rfl, show some (Value.bool true) = some (Value.bool (decide ((((s = (⟨#[]⟩)) ∨ (12 < (s.size : Int))) ∨ ((!(letterB (bt s 0))) = true)) ∨ ((Lib.contains resvA.data.toList (spc s).data.toList) = true)))) by first | (simp [h3, h4, h7]; done) | grind | (simp [h3, h4, h7] <;> omega), trivial⟩ (fun w hw => hw)
     ·
      refine tl_grun 17 rfl rfl ?_
      refine tl (v_move rfl) ?_
      refine tl_grun 17 rfl rfl ?_
      refine tl (v_sadd rfl rfl (by first | (rw [sz32]; omega) | (rw [ByteArray.size_append, sz32]; omega))) ?_
      refine tl_grun 17 rfl rfl ?_
      refine tl (v_sadd rfl rfl (by first | (rw [sz32]; omega) | (rw [ByteArray.size_append, sz32]; omega))) ?_
      refine tl_grun 17 rfl rfl ?_
      refine tl_callv ca108 rfl (fun w hw => contains_ok resvA (spc s) (by decide) hG hw) rfl ?_
      refine tl (v_pick_f rfl rfl) ?_
      refine tl_nil ?_
      exact tx_cut hK1 (.refl _) (trivial) ⟨rfl, rfl, show some (Value.bool (Lib.contains resvA.data.toList (spc s).data.toList)) = some (Value.bool (decide ((((s = (⟨#[]⟩)) ∨ (12 < (s.size : Int))) ∨ ((!(letterB (bt s 0))) = true)) ∨ ((Lib.contains resvA.data.toList (spc s).data.toList) = true)))) by first | (simp [h3, h4, h7]; done) | grind | (simp [h3, h4, h7] <;> omega), trivial⟩ (fun w hw => hw)
  ·
   refine fun R9 hle10 hj8 => tc_weaken hle10 ?_
   refine tc_split 22 rfl (fun h11 => ?_) (fun h11 => ?_)
   ·
    refine tc_yes rfl ?_
    refine tc_seq <| tc_region ?_
    refine tl (v_assign rfl) ?_
    refine tl_nil <| tx_then <| tc_ret <| tx_then_ret ?_
    refine tx_ret1 (.inl rfl) rfl rfl ?_
    have e12 : (false : Bool) = nameB s := by (rw [eq_comm, ← Bool.not_eq_true]; intro h_; have n_ := name_no h_; grind)
    exact fun w hw => ⟨congrArg Ending.returned (congrArg (fun x0 => Value.bool x0) e12), hw⟩
   ·
    refine tc_no rfl ?_
    refine tc_skip <| tx_then <| tc_seq <| tc_seq <| tc_region ?_
    refine tl (v_assign rfl) ?_
    refine tl_nil <| tx_then <| tc_block ?_
    refine tc_loop ?_
    refine th_loopS (fun i : Nat => s.size - i) (fun i : Nat => [(0, .string s), (3, .int .i64 (i : Int))]) (fun i : Nat => (G)) (fun (i : Nat) => i ≤ s.size ∧ ∀ j : Nat, j < i → withinB (bt s j) = true) (0) ⟨rfl, rfl, trivial⟩ (by exact ⟨by omega, fun j h => by omega⟩) (fun w hw => hw) ?_
    rintro i hI13 ih14
    show TC Tryz.prog _ _ _ [] [(0, .string s), (3, .int .i64 (i : Int))] R (G)
    obtain ⟨hi1, hi2⟩ := hI13
    refine tc_seq <| tc_seq <| tc_region ?_
    refine tl (v_move rfl) ?_
    refine tl (v_move rfl) ?_
    refine tl (v_len_str rfl st9) ?_
    refine tl (v_ib rfl rfl rfl) ?_
    refine tl_nil <| tx_then ?_
    refine tc_split 26 rfl (fun h17 => ?_) (fun h17 => ?_)
    ·
     refine tc_yes rfl ?_
     refine tc_skip <| tx_then <| tc_seq <| tc_block <| tc_seq <| tc_region ?_
     refine tl (v_move rfl) ?_
     refine tl (v_move rfl) ?_
     have hb18 : i < s.size := by first | omega | exact size_pos (by first | assumption | grind)
     have hr19 := bt_range s i
     refine tl (v_sidx (i := i) rfl rfl st9 hb18) ?_
     refine tl_callv ca109 rfl (fun w hw => concept_within_ok (bt s i) (by omega) hw) rfl ?_
     refine tl (v_neg rfl) ?_
     refine tl_nil <| tx_then ?_
     refine tc_splitb 33 rfl (fun h20 => ?_) (fun h20 => ?_)
     ·
      refine tc_yes rfl ?_
      refine tc_seq <| tc_region ?_
      refine tl (v_assign rfl) ?_
      refine tl_nil <| tx_then <| tc_ret <| tx_blk_ret <| tx_then_ret <| tx_then_ret <| tx_blk_ret <| tx_then_ret ?_
      refine tx_ret1 (.inl rfl) rfl rfl ?_
      have e21 : (false : Bool) = nameB s := by (rw [eq_comm, ← Bool.not_eq_true]; intro h_; have n_ := (name_no h_).2.2.2.2 i (by omega); grind)
      exact fun w hw => ⟨congrArg Ending.returned (congrArg (fun x0 => Value.bool x0) e21), hw⟩
     ·
      refine tc_no rfl ?_
      refine tc_skip <| tx_blk <| tx_then <| tc_region ?_
      refine tl (v_move rfl) ?_
      refine tl (v_add rfl rfl (by omega) (by omega)) ?_
      refine tl (v_assign rfl) ?_
      refine tl_nil ?_
      refine tx_round ?_
      exact fun a w ha hw => ih14.out (i + 1) (by refine ⟨by omega, fun j h => ?_⟩; by_cases e : j = i; (subst e; grind); exact hi2 j (by omega)) (by (try dsimp only); omega) a w (ha.sub (lkAll_lk ⟨rfl, rfl, trivial⟩)) (hw)
    ·
     refine tc_no rfl ?_
     refine tc_exit <| tx_then_exit <| tx_then_exit <| tx_blk_exit <| tx_then <| tc_seq <| tc_region ?_
     refine tl (v_assign rfl) ?_
     refine tl_nil <| tx_then <| tc_ret ?_
     refine tx_ret1 (.inl rfl) rfl rfl ?_
     have e22 : (true : Bool) = nameB s := by (symm; have q_ : s.size = i := (by omega); rw [← q_] at hi2; exact name_yes (by grind) (by grind) (by grind) (by grind) hi2)
     exact fun w hw => ⟨congrArg Ending.returned (congrArg (fun x0 => Value.bool x0) e22), hw⟩

end Go.Proofs.YtcbcdlajnmkioaaGreatDoor
