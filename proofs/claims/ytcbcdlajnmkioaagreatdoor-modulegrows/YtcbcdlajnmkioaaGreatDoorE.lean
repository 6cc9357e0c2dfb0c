/- A part of the proof of the statement ModuleGrows of isagogelaw19: rules by which code is walked. -/
import Derived.Test.YtcbcdlajnmkioaaGreatDoorD
namespace Go.Proofs.YtcbcdlajnmkioaaGreatDoor
open Go Go.Proofs
set_option linter.unusedSimpArgs false
set_option linter.unusedVariables false
theorem ap31 : apInfo Tryz.prog 31 = some (3, 1, 8, [.int .i64 0]) := by kernel_rfl

def insI : List Int → Int → List Int
  | [], n => [n]
  | x :: xs, n => if x = n then x :: xs else if n < x then n :: x :: xs else x :: insI xs n
theorem insI_split {n : Int} : ∀ (i : Nat) (l : List Int), (∀ y ∈ l.take i, y < n) → insI l n = l.take i ++ insI (l.drop i) n
  | 0, l, _ => by simp
  | i + 1, [], _ => by simp [insI]
  | i + 1, x :: xs, h => by
    have hx : x < n := h x (by simp)
    have := insI_split i xs fun y hy => h y (by simp [hy])
    simp only [List.take_succ_cons, List.drop_succ_cons, List.cons_append, insI]
    rw [if_neg (by omega), if_neg (by omega), this]
theorem insI_mem {n y : Int} : ∀ {l : List Int}, y ∈ insI l n ↔ y ∈ l ∨ y = n
  | [] => by simp [insI]
  | x :: xs => by
    unfold insI
    split
    · rename_i h; subst h; simp; exact fun h => .inl h
    · split
      · simp; grind
      · simp [insI_mem (l := xs)]; grind
theorem insI_length {n : Int} : ∀ {l : List Int}, (insI l n).length ≤ l.length + 1
  | [] => by simp [insI]
  | x :: xs => by
    unfold insI
    split
    · simp
    · split
      · simp
      · have := insI_length (n := n) (l := xs); simp; omega
def Up (l : List Int) : Prop := l.Pairwise (· < ·)
instance (l : List Int) : Decidable (Up l) := inferInstanceAs (Decidable (l.Pairwise (· < ·)))
theorem insI_up {n : Int} : ∀ {l : List Int}, Up l → Up (insI l n)
  | [], _ => by simp [insI, Up]
  | x :: xs, h => by
    have h' := List.pairwise_cons.1 h
    unfold insI
    split
    · exact h
    · split
      · rename_i hx; exact List.pairwise_cons.2 ⟨fun y hy => by rcases List.mem_cons.1 hy with rfl | hy; exact hx; have := h'.1 y hy; omega, h⟩
      · rename_i h1 h2
        exact List.pairwise_cons.2 ⟨fun y hy => by rcases insI_mem.1 hy with hy | rfl; exact h'.1 y hy; omega, insI_up h'.2⟩
theorem up_ext : ∀ {l m : List Int}, Up l → Up m → (∀ x, x ∈ l ↔ x ∈ m) → l = m
  | [], [], _, _, _ => rfl
  | [], y :: ys, _, _, h => by have := (h y).2 (by simp); simp at this
  | x :: xs, [], _, _, h => by have := (h x).1 (by simp); simp at this
  | x :: xs, y :: ys, hl, hm, h => by
    have hl' := List.pairwise_cons.1 hl
    have hm' := List.pairwise_cons.1 hm
    have hxy : x = y := by
      have h1 := (h x).1 (by simp)
      have h2 := (h y).2 (by simp)
      rcases List.mem_cons.1 h1 with e | h1
      · exact e
      · rcases List.mem_cons.1 h2 with e | h2
        · exact e.symm
        · have := hm'.1 x h1; have := hl'.1 y h2; omega
    subst hxy
    congr 1
    refine up_ext hl'.2 hm'.2 fun z => ⟨fun hz => ?_, fun hz => ?_⟩
    · have := (h z).1 (by simp [hz])
      rcases List.mem_cons.1 this with e | h3
      · have := hl'.1 z hz; omega
      · exact h3
    · have := (h z).2 (by simp [hz])
      rcases List.mem_cons.1 this with e | h3
      · have := hm'.1 z hz; omega
      · exact h3

set_option maxRecDepth 20000 in
set_option maxHeartbeats 8000000 in
theorem isagogeref01_Insert_ok {R : RO} {G : List Res} {w : World} (l : List (Int)) {A_l : Option Addr} {c_l : Nat} {l_l : List Value} (n : Int) (hv_l : (kInt).reps R l l_l) (hi_n : i64 n) (hb : l.length ≤ 1000000) (hw : Own w R (.vec (.slice A_l l.length c_l) l.length 3 1 l_l :: G)) :
    Calls Tryz.prog 16 [.slice A_l l.length c_l, .int .i64 n].toArray w (RetO R G (fun v_ R' L_ => ∃ (A_0 : Option Addr) (c_0 : Nat) (l_0 : List Value), v_ = (.slice A_0 ((insI l n).length) c_0 : Value) ∧ L_ = ([.vec (.slice A_0 ((insI l n).length) c_0) ((insI l n).length) 3 1 l_0] : List Res) ∧ (kInt).reps R' (insI l n) l_0)) := by
  unfold i64 at hi_n
  refine fn_enter (vs := [.slice A_l l.length c_l, .int .i64 n]) Tryz.func16 rfl rfl rfl ?_ hw
  refine tc_seq <| tc_region ?_
  refine tl (v_assign rfl) ?_
  refine tl_nil <| tx_then <| tc_seq <| tc_seq <| tc_region ?_
  refine tl (v_move rfl) ?_
  refine tl (v_len rfl sl31) ?_
  refine tl (v_move rfl) ?_
  refine tl_nil <| tx_then <| tc_block ?_
  refine tc_loop ?_
  refine th_loopS (fun i : Nat => l.length - i) (fun i : Nat => [(0, .slice A_l l.length c_l), (1, .int .i64 n), (7, .slice A_l l.length c_l), (8, .int .i64 (l.length : Int)), (9, .int .i64 (i : Int))]) (fun i : Nat => (.vec (.slice A_l l.length c_l) l.length 3 1 l_l :: G)) (fun (i : Nat) => i ≤ l.length ∧ ∀ y ∈ l.take i, y < n) (0) ⟨rfl, rfl, rfl, rfl, rfl, trivial⟩ (by exact ⟨by omega, by simp⟩) (fun w hw => hw) ?_
  rintro i hI3 ih4
  show TC Tryz.prog _ _ _ [] [(0, .slice A_l l.length c_l), (1, .int .i64 n), (7, .slice A_l l.length c_l), (8, .int .i64 (l.length : Int)), (9, .int .i64 (i : Int))] R (.vec (.slice A_l l.length c_l) l.length 3 1 l_l :: G)
  obtain ⟨hi1, hi2⟩ := hI3
  refine tc_seq <| tc_region ?_
  refine tl (v_ib rfl rfl rfl) ?_
  refine tl_nil <| tx_then <| tc_seq ?_
  refine tc_split 10 rfl (fun h7 => ?_) (fun h7 => ?_)
  ·
   refine tc_yes rfl ?_
   refine tc_skip <| tx_then <| tc_seq <| tc_block <| tc_seq <| tc_region ?_
   refine tl (v_move rfl) ?_
   have hb10 : i < l.length := by omega
   obtain ⟨x8, hx9⟩ : ∃ x, l[i]? = some x := ⟨_, List.getElem?_eq_getElem hb10⟩
   obtain ⟨c11, hr12, hc13⟩ := Kd.reps_get1 rfl hv_l hx9
   obtain ⟨hz14_, hz14⟩ := id hr12
   cases hz14_
   unfold i64 at hz14
   refine tl (v_idxV1 (i := i) 0 rfl rfl rfl sl31 hb10) ?_
   refine tl (v_ldV 0 rfl rfl ld3 hc13) ?_
   refine tl (v_assign rfl) ?_
   refine tl (v_assign rfl) ?_
   refine tl_nil <| tx_then <| tc_seq <| tc_seq <| tc_region ?_
   refine tl (v_move rfl) ?_
   refine tl (v_move rfl) ?_
   refine tl (v_ib rfl rfl rfl) ?_
   refine tl_nil <| tx_then ?_
   refine tc_split 16 rfl (fun h15 => ?_) (fun h15 => ?_)
   ·
    refine tc_yes rfl ?_
    refine tc_seq <| tc_region ?_
    refine tl (v_move rfl) ?_
    refine tl (v_assign rfl) ?_
    refine tl_nil <| tx_then <| tc_ret <| tx_then_ret <| tx_blk_ret <| tx_then_ret <| tx_then_ret <| tx_blk_ret <| tx_then_ret ?_
    refine tx_ret1 (.inl rfl) rfl rfl ?_
    have e16 : (l : List (Int)) = insI l n := by (have hd_ := insI_split i l hi2; rw [hd_, List.drop_eq_getElem_cons (by omega)]; have hg_ := List.getElem?_eq_some_iff.1 hx9; obtain ⟨q1_, q2_⟩ := hg_; simp only [insI]; rw [if_pos (by omega), ← List.drop_eq_getElem_cons, List.take_append_drop])
    intro w hw
    exact ⟨_, _, [.vec (.slice A_l l.length c_l) l.length 3 1 l_l], rfl, .refl _, hw, A_l, c_l, l_l, (congrArg (fun (z0_ : List (Int)) => (.slice A_l z0_.length c_l : Value)) e16), (congrArg (fun (z0_ : List (Int)) => ([.vec (.slice A_l z0_.length c_l) z0_.length 3 1 l_l] : List Res)) e16), (Eq.mp (congrArg (fun z => (kInt).reps R z l_l) e16) hv_l)⟩
   ·
    refine tc_no rfl ?_
    refine tc_skip <| tx_then <| tc_seq <| tc_region ?_
    refine tl (v_move rfl) ?_
    refine tl (v_move rfl) ?_
    refine tl (v_ib rfl rfl rfl) ?_
    refine tl_nil <| tx_then ?_
    refine tc_split 20 rfl (fun h17 => ?_) (fun h17 => ?_)
    ·
     refine tc_yes rfl ?_
     refine tc_cutX (X := Option Addr × Nat × Nat × Option Addr × Nat × Option Addr × Nat × List Value) (fun (z_ : Option Addr × Nat × Nat × Option Addr × Nat × Option Addr × Nat × List Value) => match z_ with | (A30, c31, b35, A36, c37, A41, c42, l43) => [(0, .slice A_l l.length c_l), (1, .int .i64 n), (7, .slice A_l l.length c_l), (8, .int .i64 (l.length : Int)), (9, .int .i64 (i : Int)), (10, .bool true), (11, .int .i64 (i : Int)), (12, .pointer (some ⟨ablk A_l, i, none⟩)), (13, .int .i64 x8), (5, .int .i64 (i : Int)), (6, .int .i64 x8), (14, .int .i64 x8), (15, .int .i64 n), (16, .bool false), (18, .int .i64 x8), (19, .int .i64 n), (20, .bool true), (21, .slice A_l l.length c_l), (22, .int .i64 (i : Int)), (23, .slice (cutA A_l c_l 0 1) (i - 0) (c_l - 0)), (25, .int .i64 n), (28, .slice A_l l.length c_l), (29, .int .i64 (i : Int)), (30, .slice (cutA A_l c_l i 1) (l.length - i) (c_l - i)), (24, .slice A30 ((([] : List (Int)) ++ ((l.drop 0).take (i - 0))).length) c31), (26, .slice (some ⟨b35, 0, none⟩) 1 1), (27, .slice A36 (((([] : List (Int)) ++ ((l.drop 0).take (i - 0))) ++ [n]).length) c37), (31, .slice A41 ((((([] : List (Int)) ++ ((l.drop 0).take (i - 0))) ++ [n]) ++ ((l.drop i).take (l.length - i))).length) c42), (4, .slice A41 ((((([] : List (Int)) ++ ((l.drop 0).take (i - 0))) ++ [n]) ++ ((l.drop i).take (l.length - i))).length) c42)]) (fun (z_ : Option Addr × Nat × Nat × Option Addr × Nat × Option Addr × Nat × List Value) => match z_ with | (A30, c31, b35, A36, c37, A41, c42, l43) => (.vec (.slice A41 ((((([] : List (Int)) ++ ((l.drop 0).take (i - 0))) ++ [n]) ++ ((l.drop i).take (l.length - i))).length) c42) ((((([] : List (Int)) ++ ((l.drop 0).take (i - 0))) ++ [n]) ++ ((l.drop i).take (l.length - i))).length) 3 1 l43 :: .vec (.slice A_l l.length c_l) l.length 3 1 l_l :: G)) (fun (z_ : Option Addr × Nat × Nat × Option Addr × Nat × Option Addr × Nat × List Value) (R_ : RO) => match z_ with | (A30, c31, b35, A36, c37, A41, c42, l43) => (kInt).reps R_ (((([] : List (Int)) ++ ((l.drop 0).take (i - 0))) ++ [n]) ++ ((l.drop i).take (l.length - i))) l43) (fun K hK46 hE47 => ?_) ?_
     ·
      refine tc_draw R (.vec (.slice A_l l.length c_l) l.length 3 1 l_l :: G) 12 mixed ?_
      refine td 0 rfl (by kernel_rfl) (v_move rfl) (fun w hw => hw) ?_
      refine td 1 rfl (by kernel_rfl) (v_move rfl) (fun w hw => hw) ?_
      have hlo48 : 0 ≤ i := by omega
      have hhi49 : i ≤ l.length := by omega
      have hv51 := Kd.reps_take (i - 0) (Kd.reps_drop 0 hv_l)
      have hl52 : i - 0 = ((l.drop 0).take (i - 0)).length := by simp only [List.length_take, List.length_drop]; omega
      refine td 2 rfl (by kernel_rfl) (v_sliceV 0 i 0 rfl rfl sl31 rfl rfl hlo48 hhi49) (fun w hw => hw) ?_
      refine td 4 rfl (by kernel_rfl) (v_move rfl) (fun w hw => hw) ?_
      refine td 7 rfl (by kernel_rfl) (v_move rfl) (fun w hw => hw) ?_
      refine td 8 rfl (by kernel_rfl) (v_move rfl) (fun w hw => hw) ?_
      have hlo53 : i ≤ l.length := by omega
      have hhi54 : l.length ≤ l.length := by omega
      have hv56 := Kd.reps_take (l.length - i) (Kd.reps_drop i hv_l)
      have hl57 : l.length - i = ((l.drop i).take (l.length - i)).length := by simp only [List.length_take, List.length_drop]; omega
      refine td 9 rfl (by kernel_rfl) (v_sliceV i l.length 0 rfl rfl sl31 rfl rfl hlo53 hhi54) (fun w hw => hw) ?_
      refine td_all [3, 5] (by kernel_rfl) rfl ?_
      refine tds rfl ?_ ?_
      ·
       refine tl_G _ (fun w hw => hw.vecnil 3 1) ?_
       have hv58 : (kInt).reps R [] [] := rfl
       refine tl_appS' (k := kInt) (m := ((l.drop 0).take (i - 0))) 0 hv58 (hv51) ap31 rfl rfl rfl (hl52) (src_sub (ones_reps ones_int hv_l) (i := 1) rfl hlo48 hhi49 (Kd.reps_length hv_l)) (by first | omega | (simp; omega)) rfl rfl fun A60 c61 l62 hv63 => ?_
       refine tl_nil ?_
       refine tx_td (fun w hw => hw.drop 1) ?_
       refine td1 5 (by kernel_rfl) rfl ?_
       refine tl_bslice [.int .i64 n] ap31 rfl rfl rfl rfl rfl rfl rfl fun b65 => ?_
       refine tl_nil ?_
       refine tx_td (fun w hw => hw.drop 2) ?_
       refine td1 6 (by kernel_rfl) rfl ?_
       refine tl_app (k := kInt) (e := n) 1 0 hv63 (⟨rfl, by unfold i64; omega⟩) ap31 rfl rfl rfl rfl rfl (by first | omega | (simp; omega)) rfl rfl fun A66 c67 l68 hv69 => ?_
       refine tl_nil ?_
       refine tx_td (fun w hw => hw.drop 2) ?_
       refine td1 10 (by kernel_rfl) rfl ?_
       refine tl_appS' (k := kInt) (m := ((l.drop i).take (l.length - i))) 1 hv69 (hv56) ap31 rfl rfl rfl (hl57) (src_sub (ones_reps ones_int hv_l) (i := 2) rfl hlo53 hhi54 (Kd.reps_length hv_l)) (by first | omega | (simp; omega)) rfl rfl fun A71 c72 l73 hv74 => ?_
       refine tl_nil ?_
       refine tx_td (fun w hw => hw.drop 2) ?_
       refine td 11 rfl (by kernel_rfl) (v_assign rfl) (fun w hw => hw.drop 2) ?_
       refine td_done (by kernel_rfl) ?_
       exact tx_cutX hK46 (A60, c61, b65, A66, c67, A71, c72, l73) (.refl _) (hv74) ⟨rfl, rfl, rfl, rfl, rfl, rfl, rfl, rfl, rfl, rfl, rfl, rfl, rfl, rfl, rfl, rfl, rfl, rfl, rfl, rfl, rfl, rfl, rfl, rfl, rfl, rfl, rfl, rfl, rfl, trivial⟩ (fun w hw => hw.drop 1)
      refine tds rfl ?_ ?_
      ·
       refine tl_bslice [.int .i64 n] ap31 rfl rfl rfl rfl rfl rfl rfl fun b76 => ?_
       refine tl_nil ?_
       refine tx_td (fun w hw => hw.drop 1) ?_
       refine td1 3 (by kernel_rfl) rfl ?_
       refine tl_G _ (fun w hw => hw.vecnil 3 1) ?_
       have hv77 : (kInt).reps R [] [] := rfl
       refine tl_appS' (k := kInt) (m := ((l.drop 0).take (i - 0))) 0 hv77 (hv51) ap31 rfl rfl rfl (hl52) (src_sub (ones_reps ones_int hv_l) (i := 2) rfl hlo48 hhi49 (Kd.reps_length hv_l)) (by first | omega | (simp; omega)) rfl rfl fun A79 c80 l81 hv82 => ?_
       refine tl_nil ?_
       refine tx_td (fun w hw => hw.drop 2) ?_
       refine td1 6 (by kernel_rfl) rfl ?_
       refine tl_app (k := kInt) (e := n) 0 1 hv82 (⟨rfl, by unfold i64; omega⟩) ap31 rfl rfl rfl rfl rfl (by first | omega | (simp; omega)) rfl rfl fun A84 c85 l86 hv87 => ?_
       refine tl_nil ?_
       refine tx_td (fun w hw => hw.drop 2) ?_
       refine td1 10 (by kernel_rfl) rfl ?_
       refine tl_appS' (k := kInt) (m := ((l.drop i).take (l.length - i))) 0 hv87 (hv56) ap31 rfl rfl rfl (hl57) (src_sub (ones_reps ones_int hv_l) (i := 2) rfl hlo53 hhi54 (Kd.reps_length hv_l)) (by first | omega | (simp; omega)) rfl rfl fun A89 c90 l91 hv92 => ?_
       refine tl_nil ?_
       refine tx_td (fun w hw => hw.drop 2) ?_
       refine td 11 rfl (by kernel_rfl) (v_assign rfl) (fun w hw => hw.drop 2) ?_
       refine td_done (by kernel_rfl) ?_
       exact tx_cutX hK46 (A79, c80, b76, A84, c85, A89, c90, l91) (.refl _) (hv92) ⟨rfl, rfl, rfl, rfl, rfl, rfl, rfl, rfl, rfl, rfl, rfl, rfl, rfl, rfl, rfl, rfl, rfl, rfl, rfl, rfl, rfl, rfl, rfl, rfl, rfl, rfl, rfl, rfl, rfl, trivial⟩ (fun w hw => (((hw.pick 1).tail.pick 1).pick 1))
      exact tds_nil
     ·
      rintro ⟨A30, c31, b35, A36, c37, A41, c42, l43⟩ R95 hle96 hj94
      have hv97 := hj94
      try replace hv_l := Kd.reps_mono hle96 hv_l
      show TC Tryz.prog _ _ _ [] [(0, .slice A_l l.length c_l), (1, .int .i64 n), (7, .slice A_l l.length c_l), (8, .int .i64 (l.length : Int)), (9, .int .i64 (i : Int)), (10, .bool true), (11, .int .i64 (i : Int)), (12, .pointer (some ⟨ablk A_l, i, none⟩)), (13, .int .i64 x8), (5, .int .i64 (i : Int)), (6, .int .i64 x8), (14, .int .i64 x8), (15, .int .i64 n), (16, .bool false), (18, .int .i64 x8), (19, .int .i64 n), (20, .bool true), (21, .slice A_l l.length c_l), (22, .int .i64 (i : Int)), (23, .slice (cutA A_l c_l 0 1) (i - 0) (c_l - 0)), (25, .int .i64 n), (28, .slice A_l l.length c_l), (29, .int .i64 (i : Int)), (30, .slice (cutA A_l c_l i 1) (l.length - i) (c_l - i)), (24, .slice A30 ((([] : List (Int)) ++ ((l.drop 0).take (i - 0))).length) c31), (26, .slice (some ⟨b35, 0, none⟩) 1 1), (27, .slice A36 (((([] : List (Int)) ++ ((l.drop 0).take (i - 0))) ++ [n]).length) c37), (31, .slice A41 ((((([] : List (Int)) ++ ((l.drop 0).take (i - 0))) ++ [n]) ++ ((l.drop i).take (l.length - i))).length) c42), (4, .slice A41 ((((([] : List (Int)) ++ ((l.drop 0).take (i - 0))) ++ [n]) ++ ((l.drop i).take (l.length - i))).length) c42)] R95 (.vec (.slice A41 ((((([] : List (Int)) ++ ((l.drop 0).take (i - 0))) ++ [n]) ++ ((l.drop i).take (l.length - i))).length) c42) ((((([] : List (Int)) ++ ((l.drop 0).take (i - 0))) ++ [n]) ++ ((l.drop i).take (l.length - i))).length) 3 1 l43 :: .vec (.slice A_l l.length c_l) l.length 3 1 l_l :: G)
      refine tc_ret <| tx_blk_ret <| tx_then_ret <| tx_then_ret <| tx_blk_ret <| tx_then_ret ?_
      refine tx_ret1 (.inl rfl) rfl rfl ?_
      have e98 : ((((([] : List (Int)) ++ ((l.drop 0).take (i - 0))) ++ [n]) ++ ((l.drop i).take (l.length - i))) : List (Int)) = insI l n := by (have hd_ := insI_split i l hi2; rw [hd_]; have hg_ := List.getElem?_eq_some_iff.1 hx9; obtain ⟨q1_, q2_⟩ := hg_; (have hc_ := List.drop_eq_getElem_cons (l := l) (i := i) (by omega)); rw [hc_]; simp only [insI]; rw [if_neg (by omega), if_pos (by omega), ← hc_]; simp; exact List.take_of_length_le (by simp))
      intro w hw
      exact ⟨_, _, [.vec (.slice A41 ((((([] : List (Int)) ++ ((l.drop 0).take (i - 0))) ++ [n]) ++ ((l.drop i).take (l.length - i))).length) c42) ((((([] : List (Int)) ++ ((l.drop 0).take (i - 0))) ++ [n]) ++ ((l.drop i).take (l.length - i))).length) 3 1 l43], rfl, hle96, (hw.pick 1).tail, A41, c42, l43, (congrArg (fun (z0_ : List (Int)) => (.slice A41 z0_.length c42 : Value)) e98), (congrArg (fun (z0_ : List (Int)) => ([.vec (.slice A41 z0_.length c42) z0_.length 3 1 l43] : List Res)) e98), (Eq.mp (congrArg (fun z => (kInt).reps R95 z l43) e98) hv97)⟩
    ·
     refine tc_no rfl ?_
     refine tc_skip <| tx_blk <| tx_then <| tc_region ?_
     refine tl (v_add rfl rfl (by omega) (by omega)) ?_
     refine tl (v_move rfl) ?_
     refine tl_nil ?_
     refine tx_round ?_
     exact fun a w ha hw => ih4.out (i + 1) (by exact ⟨by omega, all_take hi2 hx9 (by omega)⟩) (by (try dsimp only); omega) a w (ha.sub (lkAll_lk ⟨rfl, rfl, rfl, rfl, rfl, trivial⟩)) (hw)
  ·
   refine tc_no rfl ?_
   refine tc_exit <| tx_then_exit <| tx_then_exit <| tx_blk_exit <| tx_then <| tc_seq <| tc_region ?_
   refine tl (v_move rfl) ?_
   refine tl (v_move rfl) ?_
   refine tl_bslice [.int .i64 n] ap31 rfl rfl rfl rfl rfl rfl rfl fun b99 => ?_
   refine tl_app (k := kInt) (e := n) 1 0 hv_l (⟨rfl, by unfold i64; omega⟩) ap31 rfl rfl rfl rfl rfl (by first | omega | (simp; omega)) rfl rfl fun A100 c101 l102 hv103 => ?_
   refine tl (v_assign rfl) ?_
   refine tl_nil <| tx_then <| tc_ret ?_
   refine tx_ret1 (.inl rfl) rfl rfl ?_
   have e105 : ((l ++ [n]) : List (Int)) = insI l n := by (have hd_ := insI_split i l hi2; rw [hd_, take_all (by assumption) (by assumption), List.drop_of_length_le (by omega)]; rfl)
   intro w hw
   exact ⟨_, _, [.vec (.slice A100 ((l ++ [n]).length) c101) ((l ++ [n]).length) 3 1 l102], rfl, .refl _, hw.drop 1, A100, c101, l102, (congrArg (fun (z0_ : List (Int)) => (.slice A100 z0_.length c101 : Value)) e105), (congrArg (fun (z0_ : List (Int)) => ([.vec (.slice A100 z0_.length c101) z0_.length 3 1 l102] : List Res)) e105), (Eq.mp (congrArg (fun z => (kInt).reps R z l102) e105) hv103)⟩

end Go.Proofs.YtcbcdlajnmkioaaGreatDoor
