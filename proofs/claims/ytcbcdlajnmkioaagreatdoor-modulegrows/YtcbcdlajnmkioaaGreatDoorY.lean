/- A part of the proof of the statement ModuleGrows of isagogelaw19: functions walked, and plain laws on what they answer. -/
import Derived.Test.YtcbcdlajnmkioaaGreatDoorX
namespace Go.Proofs.YtcbcdlajnmkioaaGreatDoor
open Go Go.Proofs
set_option linter.unusedSimpArgs false
set_option linter.unusedVariables false
theorem ca93 : Callable Tryz.prog 93 := ⟨by kernel_rfl⟩
theorem ca94 : Callable Tryz.prog 94 := ⟨by kernel_rfl⟩

structure GoodS (n : Names) (s : List Int × List Int) : Prop where
  nd1 : s.1.Nodup
  nd2 : s.2.Nodup
  in1 : ∀ x ∈ s.1, 0 ≤ x ∧ x < n.concepts.length
  in2 : ∀ x ∈ s.2, 0 ≤ x ∧ x < n.roles.length
theorem insK_nd {ks : List Int} {k : Int} (h : ks.Nodup) : (insK ks k).Nodup := by
  unfold insK; split
  · exact h
  · exact nodup_snoc' h (by assumption)
theorem insK_mm {ks : List Int} {k x : Int} : x ∈ insK ks k ↔ x ∈ ks ∨ x = k := by
  unfold insK; split
  · rename_i h; exact ⟨.inl, fun h' => h'.elim id fun e => e ▸ h⟩
  · simp
theorem visitM_good {n : Names} {c : Concept} {s : List Int × List Int} (hc : shapedB n c = true) (h : GoodS n s) : GoodS n (visitM c s) := by
  have hs := ((shapedB_iff n c).1 hc).1
  unfold visitM
  split
  · rename_i h0
    rw [if_pos h0] at hs
    exact ⟨insK_nd h.nd1, h.nd2, fun x hx => by rcases insK_mm.1 hx with hx | rfl; exact h.in1 x hx; exact ⟨hs.2.1, hs.2.2⟩, h.in2⟩
  · rename_i h0
    split
    · rename_i h1
      rw [if_neg h0, if_pos h1] at hs
      refine ⟨h.nd1, insK_nd h.nd2, h.in1, fun x hx => ?_⟩
      rcases insK_mm.1 hx with hx | rfl
      · exact h.in2 x hx
      · rw [Int.tdiv_eq_ediv_of_nonneg hs.2.1]; omega
    · exact h
mutual
theorem walk_good {n : Names} : ∀ (c : Concept) (s : List Int × List Int), shapedB n c = true → GoodS n s → GoodS n (walkC visitM c s)
  | .mk op a args, s, hc, h => by
    rw [walkC]
    have h2 := ((shapedB_iff n (.mk op a args)).1 hc).2
    exact walkL_good args _ h2 (visitM_good hc h)
theorem walkL_good {n : Names} : ∀ (l : List Concept) (s : List Int × List Int), (∀ x ∈ l, shapedB n x = true) → GoodS n s → GoodS n (walkL visitM l s)
  | [], s, _, h => by rw [walkL]; exact h
  | x :: xs, s, hl, h => by
    rw [walkL]
    exact walkL_good xs _ (fun y hy => hl y (by simp [hy])) (walk_good x s (hl x (by simp)) h)
end
theorem in_range_len {l : List Int} {m : Nat} (h : l.Nodup) (hi : ∀ x ∈ l, 0 ≤ x ∧ x < m) : l.length ≤ m := by
  have := nodup_sub_len' h (l := upTo m) fun x hx => by
    simp only [upTo, List.mem_map, List.mem_range]
    exact ⟨x.toNat, by have := hi x hx; omega, by have := hi x hx; omega⟩
  rwa [upTo_len] at this
def useI (l : List Incl) (s : List Int × List Int) : List Int × List Int := l.foldl (fun s x => walkC visitM x.sup (walkC visitM x.sub s)) s
def useR (l : List RoleIncl) (r : List Int) : List Int := l.foldl (fun r x => insK (insK r (x.sub / 2)) (x.sup / 2)) r
def useF (l : List Fact) (s : List Int × List Int) : List Int × List Int := l.foldl (fun s x => walkC visitM x.con s) s
def useFi (l : List Fact) (s : List Int) : List Int := l.foldl (fun s x => insK s x.ind) s
def useL (l : List Link) (r : List Int) : List Int := l.foldl (fun r x => insK r x.role) r
def useLi (l : List Link) (s : List Int) : List Int := l.foldl (fun s x => insK (insK s x.frm) x.to) s
theorem fold_take {α β : Type} (f : β → α → β) {l : List α} {i : Nat} {x : α} (h : l[i]? = some x) (s : β) : (l.take (i + 1)).foldl f s = f ((l.take i).foldl f s) x := by rw [take_succ_at h, List.foldl_append]; rfl
def usesRaw (b : Base) : (List Int × List Int) × List Int :=
  let s1 := useI b.incls ([], [])
  let s2 := useF b.facts (s1.1, useR b.roles s1.2)
  ((s2.1, useL b.links s2.2), useLi b.links (useFi b.facts []))
def kuses (b : Base) : List Int × List Int × List Int := if baseB b = true then (sortI (usesRaw b).1.1, sortI (usesRaw b).1.2, sortI (usesRaw b).2) else ([], [], [])
theorem BaseOk.sh_incl {b : Base} (h : BaseOk b) {i : Nat} {x : Incl} (hx : b.incls[i]? = some x) : shapedB b.names x.sub = true ∧ shapedB b.names x.sup = true := ⟨(h.concepts _ (mem_concepts_incl hx).1).2.2, (h.concepts _ (mem_concepts_incl hx).2).2.2⟩
theorem BaseOk.sh_fact {b : Base} (h : BaseOk b) {i : Nat} {x : Fact} (hx : b.facts[i]? = some x) : shapedB b.names x.con = true := (h.concepts _ (mem_concepts_fact hx)).2.2
structure GoodI (m : Nat) (l : List Int) : Prop where
  nd : l.Nodup
  inr : ∀ x ∈ l, 0 ≤ x ∧ x < m
theorem GoodI.ins {m : Nat} {l : List Int} {k : Int} (h : GoodI m l) (hk : 0 ≤ k ∧ k < m) : GoodI m (insK l k) :=
  ⟨insK_nd h.nd, fun x hx => by rcases insK_mm.1 hx with hx | rfl; exact h.inr x hx; exact hk⟩
theorem GoodS.r {n : Names} {s : List Int × List Int} (h : GoodS n s) : GoodI n.roles.length s.2 := ⟨h.nd2, h.in2⟩
theorem GoodS.c {n : Names} {s : List Int × List Int} (h : GoodS n s) : GoodI n.concepts.length s.1 := ⟨h.nd1, h.in1⟩
theorem GoodS.set2 {n : Names} {s : List Int × List Int} {r : List Int} (h : GoodS n s) (k : GoodI n.roles.length r) : GoodS n (s.1, r) := ⟨h.nd1, k.nd, h.in1, k.inr⟩
theorem GoodI.sortable {m : Nat} {l : List Int} (h : GoodI m l) (hm : m ≤ 1000) : l.Nodup ∧ l.length ≤ 1000 ∧ ∀ x ∈ l, i64 x :=
  ⟨h.nd, by have := in_range_len h.nd h.inr; omega, fun x hx => by have := h.inr x hx; unfold i64; omega⟩

theorem baseOk_of {b : Base} (h : (!baseB b) = false) : BaseOk b := by unfold baseB at h; simpa using h

set_option maxRecDepth 20000 in
set_option maxHeartbeats 8000000 in
theorem kb_Uses_ok {R : RO} {G : List Res} {w : World} {c_b : List Value} (b : Base) (hr_b : kBase.rep R b c_b) (hG : Glob R) (hw : Own w R (G)) :
    Calls Tryz.prog 73 [.agg c_b.toArray].toArray w (RetO R G (fun v_ R' L_ => ∃ (A_0 : Option Addr) (c_0 : Nat) (l_0 : List Value) (A_1 : Option Addr) (c_1 : Nat) (l_1 : List Value) (A_2 : Option Addr) (c_2 : Nat) (l_2 : List Value), v_ = (.tuple #[.slice A_0 (((kuses b).1).length) c_0, .slice A_1 (((kuses b).2.1).length) c_1, .slice A_2 (((kuses b).2.2).length) c_2, .int .i64 (if baseB b = true then 0 else 20 : Int)] : Value) ∧ L_ = ([.vec (.slice A_0 (((kuses b).1).length) c_0) (((kuses b).1).length) 3 1 l_0, .vec (.slice A_1 (((kuses b).2.1).length) c_1) (((kuses b).2.1).length) 3 1 l_1, .vec (.slice A_2 (((kuses b).2.2).length) c_2) (((kuses b).2.2).length) 3 1 l_2] : List Res) ∧ (kInt).reps R' ((kuses b).1) l_0 ∧ (kInt).reps R' ((kuses b).2.1) l_1 ∧ (kInt).reps R' ((kuses b).2.2) l_2)) := by
  obtain ⟨c1, A3, d4, A6, d7, A9, d10, A12, d13, rfl, hr2, hs5, hs8, hs11, hs14⟩ := id hr_b
  have z27 := hs5.size
  unfold big at z27
  have z28 := hs8.size
  unfold big at z28
  have z29 := hs11.size
  unfold big at z29
  have z30 := hs14.size
  unfold big at z30
  obtain ⟨A15, d16, A19, d20, A23, d24, rfl, hs17, hs21, hs25⟩ := id hr2
  have z18 := hs17.size
  unfold big at z18
  have z22 := hs21.size
  unfold big at z22
  have z26 := hs25.size
  unfold big at z26
  refine fn_enter (vs := [.agg #[.slice A15 b.names.concepts.length d16, .slice A19 b.names.roles.length d20, .slice A23 b.names.inds.length d24, .slice A3 b.incls.length d4, .slice A6 b.roles.length d7, .slice A9 b.facts.length d10, .slice A12 b.links.length d13]]) Tryz.func73 rfl rfl rfl ?_ hw
  refine tc_seq <| tc_region ?_
  refine tl_box_agg (l := [.slice A15 b.names.concepts.length d16, .slice A19 b.names.roles.length d20, .slice A23 b.names.inds.length d24, .slice A3 b.incls.length d4, .slice A6 b.roles.length d7, .slice A9 b.facts.length d10, .slice A12 b.links.length d13]) rfl rfl fun b34 => ?_
  refine tl (v_assign rfl) ?_
  refine tl (v_assign rfl) ?_
  refine tl (v_assign rfl) ?_
  refine tl (v_assign rfl) ?_
  refine tl_nil <| tx_then <| tc_seq <| tc_seq <| tc_region ?_
  refine tl (v_ld_agg 0 [.slice A15 b.names.concepts.length d16, .slice A19 b.names.roles.length d20, .slice A23 b.names.inds.length d24, .slice A3 b.incls.length d4, .slice A6 b.roles.length d7, .slice A9 b.facts.length d10, .slice A12 b.links.length d13] rfl ld30 rfl rfl) ?_
  refine tl_callv ca66 rfl (fun w hw => kb_Valid_ok b hr_b (by first | assumption | omega) hw) rfl ?_
  refine tl (v_neg rfl) ?_
  refine tl_nil <| tx_then ?_
  refine tc_splitb 19 rfl (fun h35 => ?_) (fun h35 => ?_)
  ·
   refine tc_yes rfl ?_
   refine tc_seq <| tc_region ?_
   refine tl (v_assign rfl) ?_
   refine tl (v_assign rfl) ?_
   refine tl (v_assign rfl) ?_
   refine tl (v_assign rfl) ?_
   refine tl_nil <| tx_then <| tc_ret <| tx_then_ret ?_
   refine tx_G _ (fun w hw => hw.vecnil 3 1) ?_
   have hv36 : (kInt).reps R [] [] := rfl
   refine tx_G _ (fun w hw => hw.vecnil 3 1) ?_
   have hv38 : (kInt).reps R [] [] := rfl
   refine tx_G _ (fun w hw => hw.vecnil 3 1) ?_
   have hv40 : (kInt).reps R [] [] := rfl
   refine tx_ret4 (.inl rfl) rfl rfl rfl rfl rfl ?_
   have e42 : (([] : List (Int)) : List (Int)) = (kuses b).1 := by (unfold kuses; rw [if_neg (by grind)])
   have e43 : (([] : List (Int)) : List (Int)) = (kuses b).2.1 := by (unfold kuses; rw [if_neg (by grind)])
   have e44 : (([] : List (Int)) : List (Int)) = (kuses b).2.2 := by (unfold kuses; rw [if_neg (by grind)])
   have e45 : (20 : Int) = (if baseB b = true then 0 else 20 : Int) := by (rw [if_neg (by grind)])
   intro w hw
   exact ⟨_, _, [.vec (.slice none 0 0) 0 3 1 [], .vec (.slice none 0 0) 0 3 1 [], .vec (.slice none 0 0) 0 3 1 []], rfl, .refl _, (((hw.pick 3).tail.pick 1).pick 2), none, 0, [], none, 0, [], none, 0, [], (Eq.trans (Eq.trans (Eq.trans (congrArg (fun (z0_ : List (Int)) => (.tuple #[.slice none z0_.length 0, .slice none ([] : List (Int)).length 0, .slice none ([] : List (Int)).length 0, .int .i64 20] : Value)) e42) (congrArg (fun (z1_ : List (Int)) => (.tuple #[.slice none ((kuses b).1).length 0, .slice none z1_.length 0, .slice none ([] : List (Int)).length 0, .int .i64 20] : Value)) e43)) (congrArg (fun (z2_ : List (Int)) => (.tuple #[.slice none ((kuses b).1).length 0, .slice none ((kuses b).2.1).length 0, .slice none z2_.length 0, .int .i64 20] : Value)) e44)) (congrArg (fun (z3_ : Int) => (.tuple #[.slice none ((kuses b).1).length 0, .slice none ((kuses b).2.1).length 0, .slice none ((kuses b).2.2).length 0, .int .i64 z3_] : Value)) e45)), (Eq.trans (Eq.trans (congrArg (fun (z0_ : List (Int)) => ([.vec (.slice none z0_.length 0) z0_.length 3 1 [], .vec (.slice none ([] : List (Int)).length 0) ([] : List (Int)).length 3 1 [], .vec (.slice none ([] : List (Int)).length 0) ([] : List (Int)).length 3 1 []] : List Res)) e42) (congrArg (fun (z1_ : List (Int)) => ([.vec (.slice none ((kuses b).1).length 0) ((kuses b).1).length 3 1 [], .vec (.slice none z1_.length 0) z1_.length 3 1 [], .vec (.slice none ([] : List (Int)).length 0) ([] : List (Int)).length 3 1 []] : List Res)) e43)) (congrArg (fun (z2_ : List (Int)) => ([.vec (.slice none ((kuses b).1).length 0) ((kuses b).1).length 3 1 [], .vec (.slice none ((kuses b).2.1).length 0) ((kuses b).2.1).length 3 1 [], .vec (.slice none z2_.length 0) z2_.length 3 1 []] : List Res)) e44)), (Eq.mp (congrArg (fun z => (kInt).reps R z []) e42) hv36), (Eq.mp (congrArg (fun z => (kInt).reps R z []) e43) hv38), (Eq.mp (congrArg (fun z => (kInt).reps R z []) e44) hv40)⟩
  ·
   refine tc_no rfl ?_
   refine tc_skip <| tx_then <| tc_seq <| tc_region ?_
   refine tl_makeMap keyI rfl fun b46 => ?_
   refine tl_makeMap keyI rfl fun b47 => ?_
   refine tl_makeMap keyI rfl fun b48 => ?_
   refine tl (v_assign rfl) ?_
   refine tl (v_assign rfl) ?_
   refine tl (v_assign rfl) ?_
   refine tl_nil <| tx_then <| tc_seq <| tc_seq <| tc_region ?_
   refine tl (v_fieldAddr 3 rfl fo30_1 rfl) ?_
   refine tl (v_ld 3 rfl ld25 rfl rfl) ?_
   refine tl (v_len rfl sl25) ?_
   refine tl (v_move rfl) ?_
   refine tl_nil <| tx_then <| tc_block ?_
   refine tc_loop ?_
   refine th_loop (fun b_ : Nat × List Int × List Int => match b_ with | (i, sa, sr) => b.incls.length - i) (fun b_ : Nat × List Int × List Int => match b_ with | (i, sa, sr) => [(1, .pointer (some ⟨b34, 0, none⟩)), (2, .slice none 0 0), (3, .slice none 0 0), (4, .slice none 0 0), (5, .int .i64 0), (6, .map (some b46)), (7, .map (some b47)), (8, .map (some b48)), (24, .slice A3 b.incls.length d4), (25, .int .i64 (b.incls.length : Int)), (26, .int .i64 (i : Int))]) (fun b_ : Nat × List Int × List Int => match b_ with | (i, sa, sr) => (.set keyI b48 ([] : List Int) :: .set keyI b47 sr :: .set keyI b46 sa :: .blk b34 [.slice A15 b.names.concepts.length d16, .slice A19 b.names.roles.length d20, .slice A23 b.names.inds.length d24, .slice A3 b.incls.length d4, .slice A6 b.roles.length d7, .slice A9 b.facts.length d10, .slice A12 b.links.length d13] 30 :: G)) (fun (b_ : Nat × List Int × List Int) (R_ : RO) => match b_ with | (i, sa, sr) => i ≤ b.incls.length ∧ (sa, sr) = useI (b.incls.take i) ([], []) ∧ GoodS b.names (sa, sr)) (0, ([] : List Int), ([] : List Int)) ⟨rfl, rfl, rfl, rfl, rfl, rfl, rfl, rfl, rfl, rfl, rfl, trivial⟩ (by exact ⟨by omega, rfl, ⟨List.nodup_nil, List.nodup_nil, by simp, by simp⟩⟩) (fun w hw => hw) ?_
   rintro ⟨i, sa, sr⟩ R51 hle52 hI49 ih50
   try replace hs5 := hs5.mono hle52
   try replace hs8 := hs8.mono hle52
   try replace hs11 := hs11.mono hle52
   try replace hs14 := hs14.mono hle52
   try replace hG := hG.mono hle52
   show TC Tryz.prog _ _ _ [] [(1, .pointer (some ⟨b34, 0, none⟩)), (2, .slice none 0 0), (3, .slice none 0 0), (4, .slice none 0 0), (5, .int .i64 0), (6, .map (some b46)), (7, .map (some b47)), (8, .map (some b48)), (24, .slice A3 b.incls.length d4), (25, .int .i64 (b.incls.length : Int)), (26, .int .i64 (i : Int))] R51 (.set keyI b48 ([] : List Int) :: .set keyI b47 sr :: .set keyI b46 sa :: .blk b34 [.slice A15 b.names.concepts.length d16, .slice A19 b.names.roles.length d20, .slice A23 b.names.inds.length d24, .slice A3 b.incls.length d4, .slice A6 b.roles.length d7, .slice A9 b.facts.length d10, .slice A12 b.links.length d13] 30 :: G)
   obtain ⟨hi1, hi2, hi3⟩ := hI49
   refine tc_seq <| tc_region ?_
   refine tl (v_ib rfl rfl rfl) ?_
   refine tl_nil <| tx_then <| tc_seq ?_
   refine tc_split 27 rfl (fun h53 => ?_) (fun h53 => ?_)
   ·
    refine tc_yes rfl ?_
    refine tc_skip <| tx_then <| tc_seq <| tc_block <| tc_seq <| tc_region ?_
    have hb59 : i < b.incls.length := by omega
    obtain ⟨x54, hx55⟩ : ∃ x, b.incls[i]? = some x := ⟨_, List.getElem?_eq_getElem hb59⟩
    obtain ⟨c56, hr57, ha58⟩ := hs5.get _ x54 hx55
    obtain ⟨c60, c61, rfl, hr62, hr63⟩ := id hr57
    obtain ⟨A64, d65, rfl, i66, i67, hs68⟩ := kConcept_open hr62
    unfold i64 at i66 i67
    have z69 := hs68.size
    unfold big at z69
    obtain ⟨A70, d71, rfl, i72, i73, hs74⟩ := kConcept_open hr63
    unfold i64 at i72 i73
    have z75 := hs74.size
    unfold big at z75
    refine tl (v_idxS (i := i) hs5 rfl rfl rfl sl25 hb59) ?_
    refine tl (v_ldA_agg 0 [.int .i64 x54.sub.op, .int .i64 x54.sub.n, .slice A64 x54.sub.args.length d65, .int .i64 x54.sup.op, .int .i64 x54.sup.n, .slice A70 x54.sup.args.length d71] ha58 rfl ld92 rfl rfl) ?_
    refine tl_alloc zc92 rfl fun b76 => ?_
    refine tl_st 0 [.int .i64 x54.sub.op, .int .i64 x54.sub.n, .slice A64 x54.sub.args.length d65, .int .i64 x54.sup.op, .int .i64 x54.sup.n, .slice A70 x54.sup.args.length d71] rfl rfl ld92 rfl rfl rfl rfl rfl rfl ?_
    refine tl_nil <| tx_then <| tc_seq <| tc_region ?_
    refine tl (v_fieldAddr 0 rfl fo92_0 rfl) ?_
    refine tl (v_ld_agg 0 [.int .i64 x54.sub.op, .int .i64 x54.sub.n, .slice A64 x54.sub.args.length d65] rfl ld37 rfl rfl) ?_
    refine tl (v_move rfl) ?_
    refine tl (v_move rfl) ?_
    refine tl_G (.set keyI b46 sa :: .set keyI b47 sr :: .blk b76 [.int .i64 x54.sub.op, .int .i64 x54.sub.n, .slice A64 x54.sub.args.length d65, .int .i64 x54.sup.op, .int .i64 x54.sup.n, .slice A70 x54.sup.args.length d71] 92 :: .set keyI b48 ([] : List Int) :: .blk b34 [.slice A15 b.names.concepts.length d16, .slice A19 b.names.roles.length d20, .slice A23 b.names.inds.length d24, .slice A3 b.incls.length d4, .slice A6 b.roles.length d7, .slice A9 b.facts.length d10, .slice A12 b.links.length d13] 30 :: G) (fun w hw => ((hw.pick 2).pick 3)) ?_
    refine tl_callo ca93 rfl (fun w hw => concept_Mark_ok x54.sub sa sr hr62 hw) rfl ?_
    rintro _ R78 _ hle79 ⟨rfl, rfl⟩
    try replace hs8 := hs8.mono hle79
    try replace hs11 := hs11.mono hle79
    try replace hs14 := hs14.mono hle79
    try replace hG := hG.mono hle79
    try replace hr63 := kConcept.mono _ _ _ _ hle79 hr63
    have hle80 := hle52.trans hle79
    refine tl_nil <| tx_then <| tc_region ?_
    refine tl (v_fieldAddr 3 rfl fo92_1 rfl) ?_
    refine tl (v_ld_agg 2 [.int .i64 x54.sup.op, .int .i64 x54.sup.n, .slice A70 x54.sup.args.length d71] rfl ld37 rfl rfl) ?_
    refine tl (v_move rfl) ?_
    refine tl (v_move rfl) ?_
    refine tl_callo ca93 rfl (fun w hw => concept_Mark_ok x54.sup ((walkC visitM x54.sub (sa, sr)).1) ((walkC visitM x54.sub (sa, sr)).2) hr63 hw) rfl ?_
    rintro _ R82 _ hle83 ⟨rfl, rfl⟩
    try replace hs8 := hs8.mono hle83
    try replace hs11 := hs11.mono hle83
    try replace hs14 := hs14.mono hle83
    try replace hG := hG.mono hle83
    have hle84 := hle80.trans hle83
    have hle85 := hle79.trans hle83
    refine tl_nil <| tx_blk <| tx_then <| tc_region ?_
    refine tl (v_add rfl rfl (by omega) (by omega)) ?_
    refine tl (v_move rfl) ?_
    refine tl_nil ?_
    refine tx_round ?_
    exact fun a w ha hw => ih50.out (i + 1, ((walkC visitM x54.sup (((walkC visitM x54.sub (sa, sr)).1), ((walkC visitM x54.sub (sa, sr)).2))).1), ((walkC visitM x54.sup (((walkC visitM x54.sub (sa, sr)).1), ((walkC visitM x54.sub (sa, sr)).2))).2)) _ (hle85) (by (have q_ := (baseOk_of (b := b) (by assumption)).sh_incl hx55; exact ⟨by omega, by (rw [show useI (b.incls.take (i + 1)) ([], []) = _ from fold_take _ hx55 _]; rw [show (b.incls.take i).foldl _ ([], []) = (sa, sr) from hi2.symm]), walk_good _ _ q_.2 (walk_good _ _ q_.1 hi3)⟩)) (by (try dsimp only); omega) a w (ha.sub (lkAll_lk ⟨rfl, rfl, rfl, rfl, rfl, rfl, rfl, rfl, rfl, rfl, rfl, trivial⟩)) ((((((hw.pick 2).tail.pick 3).pick 1).pick 2).pick 3))
   ·
    refine tc_no rfl ?_
    refine tc_exit <| tx_then_exit <| tx_then_exit <| tx_blk_exit <| tx_then <| tc_seq <| tc_seq <| tc_region ?_
    refine tl (v_fieldAddr 4 rfl fo30_2 rfl) ?_
    refine tl (v_ld 3 rfl ld26 rfl rfl) ?_
    refine tl (v_len rfl sl26) ?_
    refine tl (v_move rfl) ?_
    refine tl_nil <| tx_then <| tc_block ?_
    refine tc_loop ?_
    refine th_loop (fun b_ : Nat × List Int => match b_ with | (j, sr2) => b.roles.length - j) (fun b_ : Nat × List Int => match b_ with | (j, sr2) => [(1, .pointer (some ⟨b34, 0, none⟩)), (2, .slice none 0 0), (3, .slice none 0 0), (4, .slice none 0 0), (5, .int .i64 0), (6, .map (some b46)), (7, .map (some b47)), (8, .map (some b48)), (42, .slice A6 b.roles.length d7), (43, .int .i64 (b.roles.length : Int)), (44, .int .i64 (j : Int))]) (fun b_ : Nat × List Int => match b_ with | (j, sr2) => (.set keyI b48 ([] : List Int) :: .set keyI b47 sr2 :: .set keyI b46 sa :: .blk b34 [.slice A15 b.names.concepts.length d16, .slice A19 b.names.roles.length d20, .slice A23 b.names.inds.length d24, .slice A3 b.incls.length d4, .slice A6 b.roles.length d7, .slice A9 b.facts.length d10, .slice A12 b.links.length d13] 30 :: G)) (fun (b_ : Nat × List Int) (R_ : RO) => match b_ with | (j, sr2) => j ≤ b.roles.length ∧ sr2 = useR (b.roles.take j) sr ∧ GoodI b.names.roles.length sr2) (0, sr) ⟨rfl, rfl, rfl, rfl, rfl, rfl, rfl, rfl, rfl, rfl, rfl, trivial⟩ (by exact ⟨by omega, rfl, hi3.r⟩) (fun w hw => hw) ?_
    rintro ⟨j, sr2⟩ R88 hle89 hI86 ih87
    try replace hs8 := hs8.mono hle89
    try replace hs11 := hs11.mono hle89
    try replace hs14 := hs14.mono hle89
    try replace hG := hG.mono hle89
    have hle90 := hle52.trans hle89
    show TC Tryz.prog _ _ _ [] [(1, .pointer (some ⟨b34, 0, none⟩)), (2, .slice none 0 0), (3, .slice none 0 0), (4, .slice none 0 0), (5, .int .i64 0), (6, .map (some b46)), (7, .map (some b47)), (8, .map (some b48)), (42, .slice A6 b.roles.length d7), (43, .int .i64 (b.roles.length : Int)), (44, .int .i64 (j : Int))] R88 (.set keyI b48 ([] : List Int) :: .set keyI b47 sr2 :: .set keyI b46 sa :: .blk b34 [.slice A15 b.names.concepts.length d16, .slice A19 b.names.roles.length d20, .slice A23 b.names.inds.length d24, .slice A3 b.incls.length d4, .slice A6 b.roles.length d7, .slice A9 b.facts.length d10, .slice A12 b.links.length d13] 30 :: G)
    obtain ⟨hj1, hj2, hj3⟩ := hI86
    refine tc_seq <| tc_region ?_
    refine tl (v_ib rfl rfl rfl) ?_
    refine tl_nil <| tx_then <| tc_seq ?_
    refine tc_split 45 rfl (fun h91 => ?_) (fun h91 => ?_)
    ·
     refine tc_yes rfl ?_
     refine tc_skip <| tx_then <| tc_seq <| tc_block <| tc_seq <| tc_region ?_
     have hb97 : j < b.roles.length := by omega
     obtain ⟨x92, hx93⟩ : ∃ x, b.roles[j]? = some x := ⟨_, List.getElem?_eq_getElem hb97⟩
     obtain ⟨c94, hr95, ha96⟩ := hs8.get _ x92 hx93
     obtain ⟨rfl, i98, i99⟩ := id hr95
     unfold i64 at i98
     unfold i64 at i99
     have hf100 := (baseOk_of (b := b) (by assumption)).role hx93
     refine tl (v_idxS (i := j) hs8 rfl rfl rfl sl26 hb97) ?_
     refine tl (v_ldA_agg 0 [.int .i64 x92.sub, .int .i64 x92.sup] ha96 rfl ld84 rfl rfl) ?_
     refine tl_alloc zc84 rfl fun b101 => ?_
     refine tl_st 0 [.int .i64 x92.sub, .int .i64 x92.sup] rfl rfl ld84 rfl rfl rfl rfl rfl rfl ?_
     refine tl_nil <| tx_then ?_
     refine tc_draw R88 (.blk b101 [.int .i64 x92.sub, .int .i64 x92.sup] 84 :: .blk b34 [.slice A15 b.names.concepts.length d16, .slice A19 b.names.roles.length d20, .slice A23 b.names.inds.length d24, .slice A3 b.incls.length d4, .slice A6 b.roles.length d7, .slice A9 b.facts.length d10, .slice A12 b.links.length d13] 30 :: G) 10 mixed ?_
     refine td 0 rfl (by kernel_rfl) (v_move rfl) (fun w hw => (((((hw.pick 1).tail.pick 1).tail.pick 1).tail.pick 1).pick 1)) ?_
     refine td 1 rfl (by kernel_rfl) (v_fieldAddr 0 rfl fo84_0 rfl) (fun w hw => (((((hw.pick 1).tail.pick 1).tail.pick 1).tail.pick 1).pick 1)) ?_
     refine td 2 rfl (by kernel_rfl) (v_ld 0 rfl ld3 rfl rfl) (fun w hw => (((((hw.pick 1).tail.pick 1).tail.pick 1).tail.pick 1).pick 1)) ?_
     refine td 3 rfl (by kernel_rfl) (v_quo rfl rfl (by omega) (by omega)) (fun w hw => (((((hw.pick 1).tail.pick 1).tail.pick 1).tail.pick 1).pick 1)) ?_
     refine td 4 rfl (by kernel_rfl) (v_move rfl) (fun w hw => (((((hw.pick 1).tail.pick 1).tail.pick 1).tail.pick 1).pick 1)) ?_
     refine td 5 rfl (by kernel_rfl) (v_fieldAddr 1 rfl fo84_1 rfl) (fun w hw => (((((hw.pick 1).tail.pick 1).tail.pick 1).tail.pick 1).pick 1)) ?_
     refine td 6 rfl (by kernel_rfl) (v_ld 0 rfl ld3 rfl rfl) (fun w hw => (((((hw.pick 1).tail.pick 1).tail.pick 1).tail.pick 1).pick 1)) ?_
     refine td 7 rfl (by kernel_rfl) (v_quo rfl rfl (by omega) (by omega)) (fun w hw => (((((hw.pick 1).tail.pick 1).tail.pick 1).tail.pick 1).pick 1)) ?_
     refine td1 8 (by kernel_rfl) rfl ?_
     refine tl_mapset (K := keyI) (ks := sr2) (k := (x92.sub / 2)) 2 mi98 rfl rfl rfl ?_
     refine tl_nil ?_
     refine tx_td (fun w hw => (((((hw.pick 1).tail.pick 1).tail.pick 1).tail.pick 1).pick 1)) ?_
     refine td1 9 (by kernel_rfl) rfl ?_
     refine tl_mapset (K := keyI) (ks := (insK sr2 (x92.sub / 2))) (k := (x92.sup / 2)) 2 mi98 rfl rfl rfl ?_
     refine tl_nil ?_
     refine tx_td (fun w hw => (((((hw.pick 1).tail.pick 1).tail.pick 1).tail.pick 1).pick 1)) ?_
     refine td_done (by kernel_rfl) ?_
     refine tx_blk <| tx_then <| tc_region ?_
     refine tl (v_add rfl rfl (by omega) (by omega)) ?_
     refine tl (v_move rfl) ?_
     refine tl_nil ?_
     refine tx_round ?_
     exact fun a w ha hw => ih87.out (j + 1, (insK (insK sr2 (x92.sub / 2)) (x92.sup / 2))) _ (.refl _) (by (have q_ := (baseOk_of (b := b) (by assumption)).roles _ (List.mem_of_getElem? hx93); unfold okR at q_; exact ⟨by omega, by (rw [show useR (b.roles.take (j + 1)) sr = _ from fold_take _ hx93 _]; rw [show (b.roles.take j).foldl _ sr = sr2 from hj2.symm]), (hj3.ins (by omega)).ins (by omega)⟩)) (by (try dsimp only); omega) a w (ha.sub (lkAll_lk ⟨rfl, rfl, rfl, rfl, rfl, rfl, rfl, rfl, rfl, rfl, congrArg (fun z => some (Value.int .i64 z)) (show ((j : Int) + 1 : Int) = ((j + 1) : Int) by first | rfl | omega), trivial⟩)) (hw.drop 1)
    ·
     refine tc_no rfl ?_
     refine tc_exit <| tx_then_exit <| tx_then_exit <| tx_blk_exit <| tx_then <| tc_seq <| tc_seq <| tc_region ?_
     refine tl (v_fieldAddr 5 rfl fo30_3 rfl) ?_
     refine tl (v_ld 3 rfl ld27 rfl rfl) ?_
     refine tl (v_len rfl sl27) ?_
     refine tl (v_move rfl) ?_
     refine tl_nil <| tx_then <| tc_block ?_
     refine tc_loop ?_
     refine th_loop (fun b_ : Nat × List Int × List Int × List Int => match b_ with | (k, sa3, sr3, si3) => b.facts.length - k) (fun b_ : Nat × List Int × List Int × List Int => match b_ with | (k, sa3, sr3, si3) => [(1, .pointer (some ⟨b34, 0, none⟩)), (2, .slice none 0 0), (3, .slice none 0 0), (4, .slice none 0 0), (5, .int .i64 0), (6, .map (some b46)), (7, .map (some b47)), (8, .map (some b48)), (58, .slice A9 b.facts.length d10), (59, .int .i64 (b.facts.length : Int)), (60, .int .i64 (k : Int))]) (fun b_ : Nat × List Int × List Int × List Int => match b_ with | (k, sa3, sr3, si3) => (.set keyI b48 si3 :: .set keyI b47 sr3 :: .set keyI b46 sa3 :: .blk b34 [.slice A15 b.names.concepts.length d16, .slice A19 b.names.roles.length d20, .slice A23 b.names.inds.length d24, .slice A3 b.incls.length d4, .slice A6 b.roles.length d7, .slice A9 b.facts.length d10, .slice A12 b.links.length d13] 30 :: G)) (fun (b_ : Nat × List Int × List Int × List Int) (R_ : RO) => match b_ with | (k, sa3, sr3, si3) => k ≤ b.facts.length ∧ (sa3, sr3) = useF (b.facts.take k) (sa, sr2) ∧ GoodS b.names (sa3, sr3) ∧ si3 = useFi (b.facts.take k) [] ∧ GoodI b.names.inds.length si3) (0, sa, sr2, ([] : List Int)) ⟨rfl, rfl, rfl, rfl, rfl, rfl, rfl, rfl, rfl, rfl, rfl, trivial⟩ (by exact ⟨by omega, rfl, hi3.set2 hj3, rfl, ⟨List.nodup_nil, by simp⟩⟩) (fun w hw => hw) ?_
     rintro ⟨k, sa3, sr3, si3⟩ R104 hle105 hI102 ih103
     try replace hs11 := hs11.mono hle105
     try replace hs14 := hs14.mono hle105
     try replace hG := hG.mono hle105
     have hle106 := hle90.trans hle105
     have hle107 := hle89.trans hle105
     show TC Tryz.prog _ _ _ [] [(1, .pointer (some ⟨b34, 0, none⟩)), (2, .slice none 0 0), (3, .slice none 0 0), (4, .slice none 0 0), (5, .int .i64 0), (6, .map (some b46)), (7, .map (some b47)), (8, .map (some b48)), (58, .slice A9 b.facts.length d10), (59, .int .i64 (b.facts.length : Int)), (60, .int .i64 (k : Int))] R104 (.set keyI b48 si3 :: .set keyI b47 sr3 :: .set keyI b46 sa3 :: .blk b34 [.slice A15 b.names.concepts.length d16, .slice A19 b.names.roles.length d20, .slice A23 b.names.inds.length d24, .slice A3 b.incls.length d4, .slice A6 b.roles.length d7, .slice A9 b.facts.length d10, .slice A12 b.links.length d13] 30 :: G)
     obtain ⟨hk1, hk2, hk3, hk4, hk5⟩ := hI102
     refine tc_seq <| tc_region ?_
     refine tl (v_ib rfl rfl rfl) ?_
     refine tl_nil <| tx_then <| tc_seq ?_
     refine tc_split 61 rfl (fun h108 => ?_) (fun h108 => ?_)
     ·
      refine tc_yes rfl ?_
      refine tc_skip <| tx_then <| tc_seq <| tc_block <| tc_seq <| tc_region ?_
      have hb114 : k < b.facts.length := by omega
      obtain ⟨x109, hx110⟩ : ∃ x, b.facts[k]? = some x := ⟨_, List.getElem?_eq_getElem hb114⟩
      obtain ⟨c111, hr112, ha113⟩ := hs11.get _ x109 hx110
      obtain ⟨c115, rfl, i116, hr117⟩ := id hr112
      unfold i64 at i116
      obtain ⟨A118, d119, rfl, i120, i121, hs122⟩ := kConcept_open hr117
      unfold i64 at i120 i121
      have z123 := hs122.size
      unfold big at z123
      refine tl (v_idxS (i := k) hs11 rfl rfl rfl sl27 hb114) ?_
      refine tl (v_ldA_agg 0 [.int .i64 x109.ind, .int .i64 x109.con.op, .int .i64 x109.con.n, .slice A118 x109.con.args.length d119] ha113 rfl ld87 rfl rfl) ?_
      refine tl_alloc zc87 rfl fun b124 => ?_
      refine tl_st 0 [.int .i64 x109.ind, .int .i64 x109.con.op, .int .i64 x109.con.n, .slice A118 x109.con.args.length d119] rfl rfl ld87 rfl rfl rfl rfl rfl rfl ?_
      refine tl_nil <| tx_then <| tc_seq <| tc_region ?_
      refine tl (v_fieldAddr 1 rfl fo87_1 rfl) ?_
      refine tl (v_ld_agg 0 [.int .i64 x109.con.op, .int .i64 x109.con.n, .slice A118 x109.con.args.length d119] rfl ld37 rfl rfl) ?_
      refine tl (v_move rfl) ?_
      refine tl (v_move rfl) ?_
      refine tl_G (.set keyI b46 sa3 :: .set keyI b47 sr3 :: .blk b124 [.int .i64 x109.ind, .int .i64 x109.con.op, .int .i64 x109.con.n, .slice A118 x109.con.args.length d119] 87 :: .set keyI b48 si3 :: .blk b34 [.slice A15 b.names.concepts.length d16, .slice A19 b.names.roles.length d20, .slice A23 b.names.inds.length d24, .slice A3 b.incls.length d4, .slice A6 b.roles.length d7, .slice A9 b.facts.length d10, .slice A12 b.links.length d13] 30 :: G) (fun w hw => ((hw.pick 2).pick 3)) ?_
      refine tl_callo ca93 rfl (fun w hw => concept_Mark_ok x109.con sa3 sr3 hr117 hw) rfl ?_
      rintro _ R126 _ hle127 ⟨rfl, rfl⟩
      try replace hs14 := hs14.mono hle127
      try replace hG := hG.mono hle127
      have hle128 := hle106.trans hle127
      have hle129 := hle107.trans hle127
      have hle130 := hle105.trans hle127
      refine tl_nil <| tx_then <| tc_region ?_
      refine tl (v_move rfl) ?_
      refine tl (v_fieldAddr 0 rfl fo87_0 rfl) ?_
      refine tl (v_ld 2 rfl ld3 rfl rfl) ?_
      refine tl_mapset (K := keyI) (ks := si3) (k := x109.ind) 3 mi98 rfl rfl rfl ?_
      refine tl_nil <| tx_blk <| tx_then <| tc_region ?_
      refine tl (v_add rfl rfl (by omega) (by omega)) ?_
      refine tl (v_move rfl) ?_
      refine tl_nil ?_
      refine tx_round ?_
      exact fun a w ha hw => ih103.out (k + 1, ((walkC visitM x109.con (sa3, sr3)).1), ((walkC visitM x109.con (sa3, sr3)).2), (insK si3 x109.ind)) _ (hle127) (by (have q_ := (baseOk_of (b := b) (by assumption)).sh_fact hx110; have q2_ := (baseOk_of (b := b) (by assumption)).facts _ (List.mem_of_getElem? hx110); exact ⟨by omega, by (rw [show useF (b.facts.take (k + 1)) (sa, sr2) = _ from fold_take _ hx110 _]; rw [show (b.facts.take k).foldl _ (sa, sr2) = (sa3, sr3) from hk2.symm]), walk_good _ _ q_ hk3, by (rw [show useFi (b.facts.take (k + 1)) [] = _ from fold_take _ hx110 _]; rw [show (b.facts.take k).foldl _ [] = si3 from hk4.symm]), hk5.ins q2_⟩)) (by (try dsimp only); omega) a w (ha.sub (lkAll_lk ⟨rfl, rfl, rfl, rfl, rfl, rfl, rfl, rfl, rfl, rfl, congrArg (fun z => some (Value.int .i64 z)) (show ((k : Int) + 1 : Int) = ((k + 1) : Int) by first | rfl | omega), trivial⟩)) ((((((hw.pick 2).tail.pick 3).pick 1).pick 2).pick 3))
     ·
      refine tc_no rfl ?_
      refine tc_exit <| tx_then_exit <| tx_then_exit <| tx_blk_exit <| tx_then <| tc_seq <| tc_seq <| tc_region ?_
      refine tl (v_fieldAddr 6 rfl fo30_4 rfl) ?_
      refine tl (v_ld 3 rfl ld28 rfl rfl) ?_
      refine tl (v_len rfl sl28) ?_
      refine tl (v_move rfl) ?_
      refine tl_nil <| tx_then <| tc_block ?_
      refine tc_loop ?_
      refine th_loop (fun b_ : Nat × List Int × List Int => match b_ with | (q, sr4, si4) => b.links.length - q) (fun b_ : Nat × List Int × List Int => match b_ with | (q, sr4, si4) => [(2, .slice none 0 0), (3, .slice none 0 0), (4, .slice none 0 0), (5, .int .i64 0), (6, .map (some b46)), (7, .map (some b47)), (8, .map (some b48)), (74, .slice A12 b.links.length d13), (75, .int .i64 (b.links.length : Int)), (76, .int .i64 (q : Int))]) (fun b_ : Nat × List Int × List Int => match b_ with | (q, sr4, si4) => (.set keyI b48 si4 :: .set keyI b47 sr4 :: .set keyI b46 sa3 :: .blk b34 [.slice A15 b.names.concepts.length d16, .slice A19 b.names.roles.length d20, .slice A23 b.names.inds.length d24, .slice A3 b.incls.length d4, .slice A6 b.roles.length d7, .slice A9 b.facts.length d10, .slice A12 b.links.length d13] 30 :: G)) (fun (b_ : Nat × List Int × List Int) (R_ : RO) => match b_ with | (q, sr4, si4) => q ≤ b.links.length ∧ sr4 = useL (b.links.take q) sr3 ∧ GoodI b.names.roles.length sr4 ∧ si4 = useLi (b.links.take q) si3 ∧ GoodI b.names.inds.length si4 ∧ GoodI b.names.concepts.length sa3) (0, sr3, si3) ⟨rfl, rfl, rfl, rfl, rfl, rfl, rfl, rfl, rfl, rfl, trivial⟩ (by exact ⟨by omega, rfl, hk3.r, rfl, hk5, hk3.c⟩) (fun w hw => hw) ?_
      rintro ⟨q, sr4, si4⟩ R133 hle134 hI131 ih132
      try replace hs14 := hs14.mono hle134
      try replace hG := hG.mono hle134
      have hle135 := hle106.trans hle134
      have hle136 := hle107.trans hle134
      have hle137 := hle105.trans hle134
      show TC Tryz.prog _ _ _ [] [(2, .slice none 0 0), (3, .slice none 0 0), (4, .slice none 0 0), (5, .int .i64 0), (6, .map (some b46)), (7, .map (some b47)), (8, .map (some b48)), (74, .slice A12 b.links.length d13), (75, .int .i64 (b.links.length : Int)), (76, .int .i64 (q : Int))] R133 (.set keyI b48 si4 :: .set keyI b47 sr4 :: .set keyI b46 sa3 :: .blk b34 [.slice A15 b.names.concepts.length d16, .slice A19 b.names.roles.length d20, .slice A23 b.names.inds.length d24, .slice A3 b.incls.length d4, .slice A6 b.roles.length d7, .slice A9 b.facts.length d10, .slice A12 b.links.length d13] 30 :: G)
      obtain ⟨hq1, hq2, hq3, hq4, hq5, hq6⟩ := hI131
      refine tc_seq <| tc_region ?_
      refine tl (v_ib rfl rfl rfl) ?_
      refine tl_nil <| tx_then <| tc_seq ?_
      refine tc_split 77 rfl (fun h138 => ?_) (fun h138 => ?_)
      ·
       refine tc_yes rfl ?_
       refine tc_skip <| tx_then <| tc_seq <| tc_block <| tc_seq <| tc_region ?_
       have hb144 : q < b.links.length := by omega
       obtain ⟨x139, hx140⟩ : ∃ x, b.links[q]? = some x := ⟨_, List.getElem?_eq_getElem hb144⟩
       obtain ⟨c141, hr142, ha143⟩ := hs14.get _ x139 hx140
       obtain ⟨rfl, i145, i146, i147⟩ := id hr142
       unfold i64 at i145
       unfold i64 at i146
       unfold i64 at i147
       refine tl (v_idxS (i := q) hs14 rfl rfl rfl sl28 hb144) ?_
       refine tl (v_ldA_agg 0 [.int .i64 x139.role, .int .i64 x139.frm, .int .i64 x139.to] ha143 rfl ld89 rfl rfl) ?_
       refine tl_alloc zc89 rfl fun b148 => ?_
       refine tl_st 0 [.int .i64 x139.role, .int .i64 x139.frm, .int .i64 x139.to] rfl rfl ld89 rfl rfl rfl rfl rfl rfl ?_
       refine tl_nil <| tx_then ?_
       refine tc_draw R133 (.blk b148 [.int .i64 x139.role, .int .i64 x139.frm, .int .i64 x139.to] 89 :: .blk b34 [.slice A15 b.names.concepts.length d16, .slice A19 b.names.roles.length d20, .slice A23 b.names.inds.length d24, .slice A3 b.incls.length d4, .slice A6 b.roles.length d7, .slice A9 b.facts.length d10, .slice A12 b.links.length d13] 30 :: G) 12 mixed ?_
       refine td 0 rfl (by kernel_rfl) (v_move rfl) (fun w hw => (((((hw.pick 1).tail.pick 1).tail.pick 1).tail.pick 1).pick 1)) ?_
       refine td 1 rfl (by kernel_rfl) (v_fieldAddr 0 rfl fo89_0 rfl) (fun w hw => (((((hw.pick 1).tail.pick 1).tail.pick 1).tail.pick 1).pick 1)) ?_
       refine td 2 rfl (by kernel_rfl) (v_ld 0 rfl ld3 rfl rfl) (fun w hw => (((((hw.pick 1).tail.pick 1).tail.pick 1).tail.pick 1).pick 1)) ?_
       refine td 3 rfl (by kernel_rfl) (v_move rfl) (fun w hw => (((((hw.pick 1).tail.pick 1).tail.pick 1).tail.pick 1).pick 1)) ?_
       refine td 4 rfl (by kernel_rfl) (v_fieldAddr 1 rfl fo89_1 rfl) (fun w hw => (((((hw.pick 1).tail.pick 1).tail.pick 1).tail.pick 1).pick 1)) ?_
       refine td 5 rfl (by kernel_rfl) (v_ld 0 rfl ld3 rfl rfl) (fun w hw => (((((hw.pick 1).tail.pick 1).tail.pick 1).tail.pick 1).pick 1)) ?_
       refine td 6 rfl (by kernel_rfl) (v_move rfl) (fun w hw => (((((hw.pick 1).tail.pick 1).tail.pick 1).tail.pick 1).pick 1)) ?_
       refine td 7 rfl (by kernel_rfl) (v_fieldAddr 2 rfl fo89_2 rfl) (fun w hw => (((((hw.pick 1).tail.pick 1).tail.pick 1).tail.pick 1).pick 1)) ?_
       refine td 8 rfl (by kernel_rfl) (v_ld 0 rfl ld3 rfl rfl) (fun w hw => (((((hw.pick 1).tail.pick 1).tail.pick 1).tail.pick 1).pick 1)) ?_
       refine td1 9 (by kernel_rfl) rfl ?_
       refine tl_mapset (K := keyI) (ks := sr4) (k := x139.role) 2 mi98 rfl rfl rfl ?_
       refine tl_nil ?_
       refine tx_td (fun w hw => (((((hw.pick 1).tail.pick 1).tail.pick 1).tail.pick 1).pick 1)) ?_
       refine td1 10 (by kernel_rfl) rfl ?_
       refine tl_mapset (K := keyI) (ks := si4) (k := x139.frm) 1 mi98 rfl rfl rfl ?_
       refine tl_nil ?_
       refine tx_td (fun w hw => (((((hw.pick 1).tail.pick 1).tail.pick 1).tail.pick 1).pick 1)) ?_
       refine td1 11 (by kernel_rfl) rfl ?_
       refine tl_mapset (K := keyI) (ks := (insK si4 x139.frm)) (k := x139.to) 1 mi98 rfl rfl rfl ?_
       refine tl_nil ?_
       refine tx_td (fun w hw => (((((hw.pick 1).tail.pick 1).tail.pick 1).tail.pick 1).pick 1)) ?_
       refine td_done (by kernel_rfl) ?_
       refine tx_blk <| tx_then <| tc_region ?_
       refine tl (v_add rfl rfl (by omega) (by omega)) ?_
       refine tl (v_move rfl) ?_
       refine tl_nil ?_
       refine tx_round ?_
       exact fun a w ha hw => ih132.out (q + 1, (insK sr4 x139.role), (insK (insK si4 x139.frm) x139.to)) _ (.refl _) (by (have q_ := (baseOk_of (b := b) (by assumption)).links _ (List.mem_of_getElem? hx140); unfold okL at q_; exact ⟨by omega, by (rw [show useL (b.links.take (q + 1)) sr3 = _ from fold_take _ hx140 _]; rw [show (b.links.take q).foldl _ sr3 = sr4 from hq2.symm]), hq3.ins (by omega), by (rw [show useLi (b.links.take (q + 1)) si3 = _ from fold_take _ hx140 _]; rw [show (b.links.take q).foldl _ si3 = si4 from hq4.symm]), (hq5.ins q_.2.2.1).ins q_.2.2.2, hq6⟩)) (by (try dsimp only); omega) a w (ha.sub (lkAll_lk ⟨rfl, rfl, rfl, rfl, rfl, rfl, rfl, rfl, rfl, congrArg (fun z => some (Value.int .i64 z)) (show ((q : Int) + 1 : Int) = ((q + 1) : Int) by first | rfl | omega), trivial⟩)) (hw.drop 1)
      ·
       refine tc_no rfl ?_
       refine tc_exit <| tx_then_exit <| tx_then_exit <| tx_blk_exit <| tx_then <| tc_seq <| tc_region ?_
       refine tl (v_move rfl) ?_
       refine tl_G (.set keyI b46 sa3 :: .set keyI b48 si4 :: .set keyI b47 sr4 :: .blk b34 [.slice A15 b.names.concepts.length d16, .slice A19 b.names.roles.length d20, .slice A23 b.names.inds.length d24, .slice A3 b.incls.length d4, .slice A6 b.roles.length d7, .slice A9 b.facts.length d10, .slice A12 b.links.length d13] 30 :: G) (fun w hw => (hw.pick 2)) ?_
       refine tl_callo ca94 rfl (fun w hw => concept_Sorted_ok sa3 (by first | exact GoodI.sortable (by assumption) (by (have := BaseOk.namesLen (baseOk_of (b := b) (by assumption)); omega))) hw) rfl ?_
       rintro _ R150 _ hle151 ⟨A_z149_0, c_z149_0, l_z149_0, rfl, rfl, hv_z149_0⟩
       try replace hG := hG.mono hle151
       have hle152 := hle135.trans hle151
       have hle153 := hle136.trans hle151
       have hle154 := hle137.trans hle151
       have hle155 := hle134.trans hle151
       refine tl (v_move rfl) ?_
       refine tl_G (.set keyI b47 sr4 :: .vec (.slice A_z149_0 ((sortI sa3).length) c_z149_0) ((sortI sa3).length) 3 1 l_z149_0 :: .set keyI b46 sa3 :: .set keyI b48 si4 :: .blk b34 [.slice A15 b.names.concepts.length d16, .slice A19 b.names.roles.length d20, .slice A23 b.names.inds.length d24, .slice A3 b.incls.length d4, .slice A6 b.roles.length d7, .slice A9 b.facts.length d10, .slice A12 b.links.length d13] 30 :: G) (fun w hw => (hw.pick 3)) ?_
       refine tl_callo ca94 rfl (fun w hw => concept_Sorted_ok sr4 (by first | exact GoodI.sortable (by assumption) (by (have := BaseOk.namesLen (baseOk_of (b := b) (by assumption)); omega))) hw) rfl ?_
       rintro _ R157 _ hle158 ⟨A_z156_0, c_z156_0, l_z156_0, rfl, rfl, hv_z156_0⟩
       try replace hG := hG.mono hle158
       try replace hv_z149_0 := Kd.reps_mono hle158 hv_z149_0
       have hle159 := hle152.trans hle158
       have hle160 := hle153.trans hle158
       have hle161 := hle154.trans hle158
       have hle162 := hle155.trans hle158
       have hle163 := hle151.trans hle158
       refine tl (v_move rfl) ?_
       refine tl_G (.set keyI b48 si4 :: .vec (.slice A_z156_0 ((sortI sr4).length) c_z156_0) ((sortI sr4).length) 3 1 l_z156_0 :: .set keyI b47 sr4 :: .vec (.slice A_z149_0 ((sortI sa3).length) c_z149_0) ((sortI sa3).length) 3 1 l_z149_0 :: .set keyI b46 sa3 :: .blk b34 [.slice A15 b.names.concepts.length d16, .slice A19 b.names.roles.length d20, .slice A23 b.names.inds.length d24, .slice A3 b.incls.length d4, .slice A6 b.roles.length d7, .slice A9 b.facts.length d10, .slice A12 b.links.length d13] 30 :: G) (fun w hw => (hw.pick 4)) ?_
       refine tl_callo ca94 rfl (fun w hw => concept_Sorted_ok si4 (by first | exact GoodI.sortable (by assumption) (by (have := BaseOk.namesLen (baseOk_of (b := b) (by assumption)); omega))) hw) rfl ?_
       rintro _ R165 _ hle166 ⟨A_z164_0, c_z164_0, l_z164_0, rfl, rfl, hv_z164_0⟩
       try replace hG := hG.mono hle166
       try replace hv_z149_0 := Kd.reps_mono hle166 hv_z149_0
       try replace hv_z156_0 := Kd.reps_mono hle166 hv_z156_0
       have hle167 := hle159.trans hle166
       have hle168 := hle160.trans hle166
       have hle169 := hle161.trans hle166
       have hle170 := hle162.trans hle166
       have hle171 := hle163.trans hle166
       have hle172 := hle158.trans hle166
       refine tl (v_assign rfl) ?_
       refine tl (v_assign rfl) ?_
       refine tl (v_assign rfl) ?_
       refine tl (v_assign rfl) ?_
       refine tl_nil <| tx_then <| tc_ret ?_
       refine tx_ret4 (.inl rfl) rfl rfl rfl rfl rfl ?_
       have e173 : ((sortI sa3) : List (Int)) = (kuses b).1 := by (rw [take_all (l := b.incls) (by assumption) (by assumption)] at hi2; rw [take_all (l := b.roles) (by assumption) (by assumption)] at hj2; rw [take_all (l := b.facts) (by assumption) (by assumption)] at hk2 hk4; rw [take_all (l := b.links) (by assumption) (by assumption)] at hq2 hq4; have e_ : usesRaw b = ((sa3, sr4), si4) := (by unfold usesRaw; simp only []; rw [← hi2]; simp only []; rw [← hj2, ← hk2]; simp only []; rw [← hq2, ← hk4, ← hq4]); unfold kuses; rw [if_pos (by grind)]; rw [e_])
       have e174 : ((sortI sr4) : List (Int)) = (kuses b).2.1 := by (rw [take_all (l := b.incls) (by assumption) (by assumption)] at hi2; rw [take_all (l := b.roles) (by assumption) (by assumption)] at hj2; rw [take_all (l := b.facts) (by assumption) (by assumption)] at hk2 hk4; rw [take_all (l := b.links) (by assumption) (by assumption)] at hq2 hq4; have e_ : usesRaw b = ((sa3, sr4), si4) := (by unfold usesRaw; simp only []; rw [← hi2]; simp only []; rw [← hj2, ← hk2]; simp only []; rw [← hq2, ← hk4, ← hq4]); unfold kuses; rw [if_pos (by grind)]; rw [e_])
       have e175 : ((sortI si4) : List (Int)) = (kuses b).2.2 := by (rw [take_all (l := b.incls) (by assumption) (by assumption)] at hi2; rw [take_all (l := b.roles) (by assumption) (by assumption)] at hj2; rw [take_all (l := b.facts) (by assumption) (by assumption)] at hk2 hk4; rw [take_all (l := b.links) (by assumption) (by assumption)] at hq2 hq4; have e_ : usesRaw b = ((sa3, sr4), si4) := (by unfold usesRaw; simp only []; rw [← hi2]; simp only []; rw [← hj2, ← hk2]; simp only []; rw [← hq2, ← hk4, ← hq4]); unfold kuses; rw [if_pos (by grind)]; rw [e_])
       have e176 : (0 : Int) = (if baseB b = true then 0 else 20 : Int) := by (rw [if_pos (by grind)])
       intro w hw
       exact ⟨_, _, [.vec (.slice A_z149_0 ((sortI sa3).length) c_z149_0) ((sortI sa3).length) 3 1 l_z149_0, .vec (.slice A_z156_0 ((sortI sr4).length) c_z156_0) ((sortI sr4).length) 3 1 l_z156_0, .vec (.slice A_z164_0 ((sortI si4).length) c_z164_0) ((sortI si4).length) 3 1 l_z164_0], rfl, hle167, ((((((hw.pick 1).tail.pick 2).tail.pick 3).tail.pick 3).tail.pick 1).pick 2), A_z149_0, c_z149_0, l_z149_0, A_z156_0, c_z156_0, l_z156_0, A_z164_0, c_z164_0, l_z164_0, (Eq.trans (Eq.trans (Eq.trans (congrArg (fun (z0_ : List (Int)) => (.tuple #[.slice A_z149_0 z0_.length c_z149_0, .slice A_z156_0 (sortI sr4).length c_z156_0, .slice A_z164_0 (sortI si4).length c_z164_0, .int .i64 0] : Value)) e173) (congrArg (fun (z1_ : List (Int)) => (.tuple #[.slice A_z149_0 ((kuses b).1).length c_z149_0, .slice A_z156_0 z1_.length c_z156_0, .slice A_z164_0 (sortI si4).length c_z164_0, .int .i64 0] : Value)) e174)) (congrArg (fun (z2_ : List (Int)) => (.tuple #[.slice A_z149_0 ((kuses b).1).length c_z149_0, .slice A_z156_0 ((kuses b).2.1).length c_z156_0, .slice A_z164_0 z2_.length c_z164_0, .int .i64 0] : Value)) e175)) (congrArg (fun (z3_ : Int) => (.tuple #[.slice A_z149_0 ((kuses b).1).length c_z149_0, .slice A_z156_0 ((kuses b).2.1).length c_z156_0, .slice A_z164_0 ((kuses b).2.2).length c_z164_0, .int .i64 z3_] : Value)) e176)), (Eq.trans (Eq.trans (congrArg (fun (z0_ : List (Int)) => ([.vec (.slice A_z149_0 z0_.length c_z149_0) z0_.length 3 1 l_z149_0, .vec (.slice A_z156_0 (sortI sr4).length c_z156_0) (sortI sr4).length 3 1 l_z156_0, .vec (.slice A_z164_0 (sortI si4).length c_z164_0) (sortI si4).length 3 1 l_z164_0] : List Res)) e173) (congrArg (fun (z1_ : List (Int)) => ([.vec (.slice A_z149_0 ((kuses b).1).length c_z149_0) ((kuses b).1).length 3 1 l_z149_0, .vec (.slice A_z156_0 z1_.length c_z156_0) z1_.length 3 1 l_z156_0, .vec (.slice A_z164_0 (sortI si4).length c_z164_0) (sortI si4).length 3 1 l_z164_0] : List Res)) e174)) (congrArg (fun (z2_ : List (Int)) => ([.vec (.slice A_z149_0 ((kuses b).1).length c_z149_0) ((kuses b).1).length 3 1 l_z149_0, .vec (.slice A_z156_0 ((kuses b).2.1).length c_z156_0) ((kuses b).2.1).length 3 1 l_z156_0, .vec (.slice A_z164_0 z2_.length c_z164_0) z2_.length 3 1 l_z164_0] : List Res)) e175)), (Eq.mp (congrArg (fun z => (kInt).reps R165 z l_z149_0) e173) hv_z149_0), (Eq.mp (congrArg (fun z => (kInt).reps R165 z l_z156_0) e174) hv_z156_0), (Eq.mp (congrArg (fun z => (kInt).reps R165 z l_z164_0) e175) hv_z164_0)⟩

end Go.Proofs.YtcbcdlajnmkioaaGreatDoor
