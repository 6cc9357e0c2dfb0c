/- A part of the proof of the statement ModuleGrows of isagogelaw19: functions walked, and plain laws on what they answer. -/
import Derived.Test.YtcbcdlajnmkioaaGreatDoorV
import Derived.Test.YtcbcdlajnmkioaaGreatDoorSh
namespace Go.Proofs.YtcbcdlajnmkioaaGreatDoor
open Go Go.Proofs
set_option linter.unusedSimpArgs false
set_option linter.unusedVariables false
theorem ca104 : Callable Tryz.prog 104 := ⟨by kernel_rfl⟩
theorem mi98 : mapInfo keyI Tryz.prog 98 = true := by kernel_rfl

def sortI (l : List Int) : List Int := l.mergeSort fun x y => decide (x ≤ y)
theorem sortI_len (l : List Int) : (sortI l).length = l.length := List.length_mergeSort l
theorem reps_int {R : RO} : ∀ {l : List Int} {cs : List Value}, kInt.reps R l cs → cs = l.map (Value.int .i64) ∧ ∀ x ∈ l, i64 x
  | [], cs, h => ⟨h, fun _ h => by cases h⟩
  | x :: xs, cs, ⟨c1, c2, e, h1, h2⟩ => by
    have ⟨a, b⟩ := reps_int h2
    refine ⟨by rw [e, h1.1, a]; rfl, fun y hy => ?_⟩
    rcases List.mem_cons.1 hy with rfl | hy
    · exact h1.2
    · exact b y hy
theorem reps_of_int {R : RO} : ∀ {l : List Int}, (∀ x ∈ l, i64 x) → kInt.reps R l (l.map (Value.int .i64))
  | [], _ => rfl
  | x :: xs, h => ⟨[_], _, rfl, ⟨rfl, h x (by simp)⟩, reps_of_int fun y hy => h y (by simp [hy])⟩
theorem sort_ok {R : RO} {G : List Res} {w : World} (l : List Int) {A_l : Option Addr} {c_l : Nat} {l_l : List Value} (hv_l : kInt.reps R l l_l) (hb : l.length ≤ 1000000) (hw : Own w R (.vec (.slice A_l l.length c_l) l.length 3 1 l_l :: G)) :
    Calls Tryz.prog 104 [.slice A_l l.length c_l].toArray w (RetO R G (fun v_ R' L_ => ∃ (l_m_l : List Value), v_ = (.tuple #[] : Value) ∧ L_ = ([.vec (.slice A_l (sortI l).length c_l) (sortI l).length 3 1 l_m_l] : List Res) ∧ kInt.reps R' (sortI l) l_m_l)) := by
  obtain ⟨hcs, hin⟩ := reps_int hv_l
  have hown : w.ownsRow 0 3 1 (.slice A_l l.length c_l) l.length l_l := hw.holds _ (.head _)
  have hsin : ∀ x ∈ sortI l, i64 x := fun x hx => hin x ((List.mergeSort_perm l _).mem_iff.1 hx)
  rcases hown.2 with ⟨h2, h3⟩ | ⟨g, cap', cur, hv', q1, q2, q3, q4, q5, q6⟩
  · have hl : l = [] := List.eq_nil_of_length_eq_zero h3
    subst hl
    have := Tryz.slices_Sort_int_none A_l c_l w
    refine this.mono ?_
    rintro e w' ⟨rfl, rfl⟩
    have hs : sortI [] = [] := by simp [sortI]
    rw [hs]
    exact ⟨_, R, _, rfl, .refl R, hw, l_l, rfl, rfl, hv_l⟩
  · obtain ⟨rfl, -, rfl⟩ : A_l = some ⟨g, 0, none⟩ ∧ l.length = l.length ∧ c_l = cap' := by simpa using hv'
    rw [Nat.mul_one] at q5 q6
    have hcell : ∀ j, j < l.length → cur[j]? = some (.int .i64 (l.toArray[j]!)) := fun j hj => by
      have h1 : (cur.toList.take l.length)[j]? = some (.int .i64 l[j]) := by rw [q6, hcs]; simp [hj]
      rw [List.getElem?_take, if_pos hj] at h1
      simpa [hj] using h1
    have := Tryz.slices_Sort_int g 0 c_l l w (fun j hj => by
      have hj : j < l.length := by simpa using hj
      refine ⟨?_, by simp [World.frozen?, q2]⟩
      rw [cell_at q2, Nat.zero_add]; exact hcell j hj) (lt_of_some q2) (by omega)
    refine this.mono ?_
    rintro e w' ⟨rfl, n, os, rfl⟩
    have hlen := sortI_len l
    have hs : (l.mergeSort fun x y => decide (x ≤ y)) = sortI l := rfl
    rw [hs]
    have hother : ∀ b, b < w.heap.size → b ≠ g → (Sort.grow (Sort.putRow (Value.int .i64) (Sort.ahead w n) g 0 (sortI l).toArray) os).heap[b]? = w.heap[b]? := fun b hb hne => by
      show ((w.heap.modify g _) ++ os)[b]? = _
      rw [Array.getElem?_append_left (by simpa using hb), Array.getElem?_modify, if_neg (fun e => hne e.symm)]
    have hg : (Sort.grow (Sort.putRow (Value.int .i64) (Sort.ahead w n) g 0 (sortI l).toArray) os).heap[g]? = some (.cells (Sort.putCells (Value.int .i64) 0 (sortI l).toArray cur) 3 (0, 0)) := by
      show ((w.heap.modify g _) ++ os)[g]? = _
      rw [Array.getElem?_append_left (by simpa using lt_of_some q2), Array.getElem?_modify, if_pos rfl, q2]; rfl
    refine ⟨_, R, [_], rfl, .refl R, Own.step hw rfl rfl rfl (fun b hb hf => hother b hb fun e => hf (by rw [e]; rfl)) (r' := .vec (.slice (some ⟨g, 0, none⟩) (sortI l).length c_l) (sortI l).length 3 1 ((sortI l).map (Value.int .i64))) ⟨by simp, .inr ⟨g, c_l, _, rfl, q1, hg, by omega, q4, by simp [Sort.putCells, q5], ?_⟩⟩ (fun b hb => .inl hb), _, rfl, rfl, reps_of_int hsin⟩
    rw [Nat.mul_one]
    apply List.ext_getElem?
    intro j
    by_cases hj : j < (sortI l).length
    · rw [List.getElem?_take, if_pos hj]
      have hjc : j < cur.size := by omega
      simp [Sort.putCells, hj, hjc]
    · rw [List.getElem?_eq_none (by rw [List.length_take]; omega), List.getElem?_eq_none (by simp; omega)]

theorem sorted_eq {l m : List Int} (h : ∀ x, x ∈ l ↔ x ∈ m) (h1 : l.Nodup) (h2 : m.Nodup) : sortI l = sortI m := by
  have up : ∀ k : List Int, k.Nodup → Up (sortI k) := fun k hk => by
    have hs : (sortI k).Pairwise fun x y => decide (x ≤ y) = true := List.pairwise_mergeSort (fun a b c h1 h2 => by simp at *; omega) (fun a b => by simp; omega) k
    have hn : (sortI k).Nodup := (List.mergeSort_perm k _).nodup_iff.2 hk
    exact List.Pairwise.imp₂ (fun a b h1 h2 => by simp at h1; omega) hs hn
  exact up_ext (up l h1) (up m h2) fun x => by
    rw [show x ∈ sortI l ↔ x ∈ l from (List.mergeSort_perm l _).mem_iff, show x ∈ sortI m ↔ x ∈ m from (List.mergeSort_perm m _).mem_iff, h]
def pickQ (s : List Int) (seen : List Nat) : List Int := seen.filterMap fun q => s[q]?
theorem pickQ_snoc {s : List Int} {seen : List Nat} {q : Nat} {k : Int} (h : s[q]? = some k) : pickQ s (seen ++ [q]) = pickQ s seen ++ [k] := by simp [pickQ, h]
theorem pickQ_mem {s : List Int} {seen : List Nat} (h : ∀ q, q < s.length → q ∈ seen) (x : Int) : x ∈ pickQ s seen ↔ x ∈ s := by
  simp only [pickQ, List.mem_filterMap]
  constructor
  · rintro ⟨q, -, hq⟩; exact List.mem_of_getElem? hq
  · intro hx
    obtain ⟨q, hq⟩ := List.mem_iff_getElem?.1 hx
    exact ⟨q, h q (List.getElem?_eq_some_iff.1 hq).1, hq⟩
theorem pickQ_nodup {s : List Int} (hs : s.Nodup) : ∀ {seen : List Nat}, seen.Nodup → (pickQ s seen).Nodup
  | [], _ => List.nodup_nil
  | q :: r, h => by
    have h' := List.nodup_cons.1 h
    have ih := pickQ_nodup hs (seen := r) h'.2
    cases hq : s[q]? with
    | none => simpa [pickQ, hq] using ih
    | some k =>
      have e : pickQ s (q :: r) = k :: pickQ s r := by simp [pickQ, hq]
      rw [e]
      refine List.nodup_cons.2 ⟨fun hk => ?_, ih⟩
      simp only [pickQ, List.mem_filterMap] at hk
      obtain ⟨q', hq', hk'⟩ := hk
      obtain ⟨l1, e1⟩ := List.getElem?_eq_some_iff.1 hq
      obtain ⟨l2, e2⟩ := List.getElem?_eq_some_iff.1 hk'
      have hp := List.pairwise_iff_getElem.1 hs
      have : q = q' := by
        rcases Nat.lt_trichotomy q q' with h3 | h3 | h3
        · exact absurd (e1.trans e2.symm) (hp q q' l1 l2 h3)
        · exact h3
        · exact absurd (e2.trans e1.symm) (hp q' q l2 l1 h3)
      exact h'.1 (this ▸ hq')
theorem nodup_sub_len' {α : Type} [DecidableEq α] : ∀ {o l : List α}, o.Nodup → (∀ x ∈ o, x ∈ l) → o.length ≤ l.length
  | [], _, _, _ => by simp
  | x :: xs, l, h, k => by
    have h' := List.nodup_cons.1 h
    have hx : x ∈ l := k x (by simp)
    have := nodup_sub_len' (o := xs) (l := l.erase x) h'.2 fun y hy => (List.mem_erase_of_ne (fun e : y = x => h'.1 (e ▸ hy))).2 (k y (by simp [hy]))
    rw [List.length_erase_of_mem hx] at this
    have : 0 < l.length := List.length_pos_of_mem hx
    simp only [List.length_cons]; omega
theorem seen_len {s : List Int} {seen : List Nat} (h : seen.Nodup) (h2 : ∀ q ∈ seen, q < s.length) : seen.length ≤ s.length := by
  have := nodup_sub_len' h (l := List.range s.length) fun q hq => List.mem_range.2 (h2 q hq)
  simpa using this
theorem nodup_snoc' {α : Type} {l : List α} {x : α} (h : l.Nodup) (hx : ¬ x ∈ l) : (l ++ [x]).Nodup := by
  rw [List.nodup_append]; refine ⟨h, by simp, fun a ha b hb => ?_⟩
  simp at hb; subst hb; exact fun e => hx (e ▸ ha)

set_option maxRecDepth 20000 in
set_option maxHeartbeats 8000000 in
theorem concept_Sorted_ok {R : RO} {G : List Res} {w : World} (s : List Int) {b_s : Nat} (hs : s.Nodup ∧ s.length ≤ 1000 ∧ ∀ x ∈ s, i64 x) (hw : Own w R (.set keyI b_s s :: G)) :
    Calls Tryz.prog 94 [.map (some b_s)].toArray w (RetO R G (fun v_ R' L_ => ∃ (A_0 : Option Addr) (c_0 : Nat) (l_0 : List Value), v_ = (.slice A_0 ((sortI s).length) c_0 : Value) ∧ L_ = ([.vec (.slice A_0 ((sortI s).length) c_0) ((sortI s).length) 3 1 l_0, .set keyI b_s s] : List Res) ∧ (kInt).reps R' (sortI s) l_0)) := by
  refine fn_enter (vs := [.map (some b_s)]) Tryz.func94 rfl rfl rfl ?_ hw
  refine tc_seq <| tc_region ?_
  refine tl (v_assign rfl) ?_
  refine tl_nil <| tx_then <| tc_seq <| tc_region ?_
  refine tl (v_assign rfl) ?_
  refine tl_nil <| tx_then <| tc_seq <| tc_seq <| tc_region ?_
  refine tl (v_move rfl) ?_
  refine tl_range (K := keyI) (ks := s) 0 mi98 rfl rfl rfl fun r2 => ?_
  refine tl_nil <| tx_then <| tc_block ?_
  refine tc_G _ (fun w hw => hw.vecnil 3 1) ?_
  have hv3 : (kInt).reps R [] [] := rfl
  refine tc_loop ?_
  refine th_loopS (fun b_ : List (Int) × Option Addr × Nat × List Value × List Nat => match b_ with | (acc, A_acc, c_acc, l_acc, seen) => s.length - seen.length) (fun b_ : List (Int) × Option Addr × Nat × List Value × List Nat => match b_ with | (acc, A_acc, c_acc, l_acc, seen) => [(2, .slice none 0 0), (6, .pointer (some ⟨r2, 0, none⟩)), (3, .slice A_acc acc.length c_acc)]) (fun b_ : List (Int) × Option Addr × Nat × List Value × List Nat => match b_ with | (acc, A_acc, c_acc, l_acc, seen) => (.vec (.slice A_acc acc.length c_acc) acc.length 3 1 l_acc :: .raw r2 (.mapIter (some b_s) s.length seen.toArray s.length) :: .set keyI b_s s :: G)) (fun (b_ : List (Int) × Option Addr × Nat × List Value × List Nat) => match b_ with | (acc, A_acc, c_acc, l_acc, seen) => (kInt).reps R acc l_acc ∧ (acc = pickQ s seen ∧ seen.Nodup ∧ (∀ q ∈ seen, q < s.length) ∧ acc.length = seen.length ∧ seen.length ≤ s.length)) (([] : List (Int)), none, 0, [], []) ⟨rfl, rfl, rfl, trivial⟩ (by refine ⟨hv3, ?_⟩; exact ⟨rfl, by simp, by simp, rfl, by simp⟩) (fun w hw => hw) ?_
  rintro ⟨acc, A_acc, c_acc, l_acc, seen⟩ hI7 ih8
  show TC Tryz.prog _ _ _ [] [(2, .slice none 0 0), (6, .pointer (some ⟨r2, 0, none⟩)), (3, .slice A_acc acc.length c_acc)] R (.vec (.slice A_acc acc.length c_acc) acc.length 3 1 l_acc :: .raw r2 (.mapIter (some b_s) s.length seen.toArray s.length) :: .set keyI b_s s :: G)
  obtain ⟨hv6, hI11⟩ := hI7
  obtain ⟨hi1, hi2, hi3, hi4, hi5⟩ := hI11
  refine tc_seq <| tc_region ?_
  refine tl_next (K := keyI) (ks := s) (seen := seen) 2 1 rfl rfl rfl rfl (fun hov12 => ?_) (fun q13 k14 hq15 hnq16 => ?_)
  ·
   refine tl (v_extract rfl rfl) ?_
   refine tl_nil <| tx_then <| tc_seq ?_
   refine tc_no rfl ?_
   refine tc_exit <| tx_then_exit <| tx_then_exit <| tx_blk_exit <| tx_then <| tc_seq <| tc_region ?_
   refine tl (v_move rfl) ?_
   refine tl_callo ca104 rfl (fun w hw => sort_ok acc hv6 (by omega) hw) rfl ?_
   rintro _ R18 _ hle19 ⟨l_z17_m_l, rfl, rfl, hv_z17_m_l⟩
   try replace hv6 := Kd.reps_mono hle19 hv6
   refine tl_env [(2, .slice none 0 0), (6, .pointer (some ⟨r2, 0, none⟩)), (3, .slice A_acc ((sortI acc).length) c_acc), (7, .tuple #[.bool false]), (8, .bool false), (15, .slice A_acc ((sortI acc).length) c_acc)] (by rw [sortI_len]; exact ⟨rfl, rfl, rfl, rfl, rfl, rfl, trivial⟩) ?_
   refine tl_nil <| tx_then <| tc_seq <| tc_region ?_
   refine tl (v_move rfl) ?_
   refine tl (v_assign rfl) ?_
   refine tl_nil <| tx_then <| tc_ret ?_
   refine tx_ret1 (.inl rfl) rfl rfl ?_
   have e20 : ((sortI acc) : List (Int)) = sortI s := by (rw [hi1]; exact sorted_eq (pickQ_mem (by assumption)) (pickQ_nodup hs.1 hi2) hs.1)
   have e21 : (s : List Int) = s := by rfl
   intro w hw
   exact ⟨_, _, [.vec (.slice A_acc ((sortI acc).length) c_acc) ((sortI acc).length) 3 1 l_z17_m_l, .set keyI b_s s], rfl, hle19, (((hw.pick 1).tail.pick 1).pick 1), A_acc, c_acc, l_z17_m_l, (congrArg (fun (z0_ : List (Int)) => (.slice A_acc z0_.length c_acc : Value)) e20), (Eq.trans (congrArg (fun (z0_ : List (Int)) => ([.vec (.slice A_acc z0_.length c_acc) z0_.length 3 1 l_z17_m_l, .set keyI b_s s] : List Res)) e20) (congrArg (fun (z1_ : List Int) => ([.vec (.slice A_acc (sortI s).length c_acc) (sortI s).length 3 1 l_z17_m_l, .set keyI b_s z1_] : List Res)) e21)), (Eq.mp (congrArg (fun z => (kInt).reps R18 z l_z17_m_l) e20) hv_z17_m_l)⟩
  ·
   have hf22 := (show -9223372036854775808 ≤ k14 ∧ k14 ≤ 9223372036854775807 from hs.2.2 _ (List.mem_of_getElem? hq15))
   refine tl (v_extract rfl rfl) ?_
   refine tl_nil <| tx_then <| tc_seq ?_
   refine tc_yes rfl ?_
   refine tc_skip <| tx_then <| tc_block <| tc_seq <| tc_region ?_
   refine tl (v_entry (K := keyI) (ks := s) 2 1 rfl rfl rfl hq15) ?_
   refine tl (v_extract rfl rfl) ?_
   refine tl (v_assign rfl) ?_
   refine tl_nil <| tx_then <| tc_region ?_
   refine tl (v_move rfl) ?_
   refine tl (v_move rfl) ?_
   refine tl_bslice [.int .i64 k14] ap31 rfl rfl rfl rfl rfl rfl rfl fun b23 => ?_
   refine tl_app (k := kInt) (e := k14) 1 0 hv6 (⟨rfl, by unfold i64; omega⟩) ap31 rfl rfl rfl rfl rfl (by omega) rfl rfl fun A24 c25 l26 hv27 => ?_
   refine tl (v_assign rfl) ?_
   refine tl_nil <| tx_blk ?_
   refine tx_round ?_
   exact fun a w ha hw => ih8.out ((acc ++ [k14]), A24, c25, l26, (seen ++ [q13])) (by refine ⟨hv27, ?_⟩; (have n_ := nodup_snoc' hi2 hnq16; have m_ : ∀ q ∈ seen ++ [q13], q < s.length := (fun q hq => by (rw [List.mem_append] at hq; rcases hq with hq | hq; exact hi3 q hq; simp at hq; subst hq; exact (List.getElem?_eq_some_iff.1 hq15).1)); exact ⟨by rw [hi1, pickQ_snoc hq15], n_, m_, by simp; omega, seen_len n_ m_⟩)) (by (have n_ := nodup_snoc' hi2 (by assumption); (try dsimp only); simp only [List.length_append, List.length_cons, List.length_nil]; have hlt_ := seen_len (s := s) (nodup_snoc' hi2 (by assumption)) (fun q hq => by (rw [List.mem_append] at hq; rcases hq with hq | hq; exact hi3 q hq; simp at hq; subst hq; exact (List.getElem?_eq_some_iff.1 (by assumption)).1)); simp only [List.length_append, List.length_cons, List.length_nil] at hlt_; omega)) a w (ha.sub (lkAll_lk ⟨rfl, rfl, rfl, trivial⟩)) (hw.drop 1)

end Go.Proofs.YtcbcdlajnmkioaaGreatDoor
