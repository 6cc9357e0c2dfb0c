/- A part of the proof of the statement ModuleGrows of isagogelaw19: functions walked, and plain laws on what they answer. -/
import Derived.Test.YtcbcdlajnmkioaaGreatDoorU
namespace Go.Proofs.YtcbcdlajnmkioaaGreatDoor
open Go Go.Proofs
set_option linter.unusedSimpArgs false
set_option linter.unusedVariables false
theorem ap146 : apInfo Tryz.prog 146 = some (149, 1, 16, [.nilIface]) := by kernel_rfl
theorem ca105 : Callable Tryz.prog 105 := ⟨by kernel_rfl⟩
theorem ca166 : Callable Tryz.prog 166 := ⟨by kernel_rfl⟩
theorem ca169 : Callable Tryz.prog 169 := ⟨by kernel_rfl⟩
theorem ca171 : Callable Tryz.prog 171 := ⟨by kernel_rfl⟩
theorem ca173 : Callable Tryz.prog 173 := ⟨by kernel_rfl⟩
theorem ca95 : Callable Tryz.prog 95 := ⟨by kernel_rfl⟩
theorem ca96 : Callable Tryz.prog 96 := ⟨by kernel_rfl⟩
theorem ld149 : ldInfo Tryz.prog 149 = some (false, 1) := by kernel_rfl
theorem mr162_166 : mrow Tryz.prog 162 "isagoge/kb.add" = some 166 := by kernel_rfl
theorem mr163_169 : mrow Tryz.prog 163 "isagoge/kb.add" = some 169 := by kernel_rfl
theorem mr164_171 : mrow Tryz.prog 164 "isagoge/kb.add" = some 171 := by kernel_rfl
theorem mr165_173 : mrow Tryz.prog 165 "isagoge/kb.add" = some 173 := by kernel_rfl
theorem ni162 : noIface Tryz.prog 162 = true := by kernel_rfl
theorem ni163 : noIface Tryz.prog 163 = true := by kernel_rfl
theorem ni164 : noIface Tryz.prog 164 = true := by kernel_rfl
theorem ni165 : noIface Tryz.prog 165 = true := by kernel_rfl
theorem sl146 : slElem Tryz.prog 146 = some (149, 1) := by kernel_rfl

def allA (b : Base) : List Ax := b.incls.map .incl ++ b.roles.map .role ++ b.facts.map .fact ++ b.links.map .link
theorem allA_len (b : Base) : (allA b).length = axiomsN b := by simp [allA, axiomsN]; omega
theorem map_take {α β : Type} (f : α → β) {l : List α} {i : Nat} {x : α} (h : l[i]? = some x) : (l.take (i + 1)).map f = (l.take i).map f ++ [f x] := by rw [take_succ_at h]; simp

set_option maxRecDepth 20000 in
set_option maxHeartbeats 8000000 in
theorem kb_All_ok {R : RO} {G : List Res} {w : World} {c_b : List Value} (b : Base) (hr_b : kBase.rep R b c_b) (hb : axiomsN b ≤ 200) (hw : Own w R (G)) :
    Calls Tryz.prog 95 [.agg c_b.toArray].toArray w (RetO R G (fun v_ R' L_ => ∃ (A_0 : Option Addr) (d_0 : Nat), v_ = (.slice A_0 ((allA b).length) d_0 : Value) ∧ L_ = ([] : List Res) ∧ SlAt kAx R' A_0 (allA b))) := by
  obtain ⟨c1, A3, d4, A6, d7, A9, d10, A12, d13, rfl, hr2, hs5, hs8, hs11, hs14⟩ := id hr_b
  have z27 := hs5.size
  unfold big at z27
  have z28 := hs8.size
  unfold big at z28
  have z29 := hs11.size
  unfold big at z29
  have z30 := hs14.size
  unfold big at z30
  obtain ⟨A15, d16, A19, d20, A23, d24, rfl, hs17, hs21, hs25⟩ := id hr2
  have z18 := hs17.size
  unfold big at z18
  have z22 := hs21.size
  unfold big at z22
  have z26 := hs25.size
  unfold big at z26
  have hb_ := hb
  unfold axiomsN at hb_
  refine fn_enter (vs := [.agg #[.slice A15 b.names.concepts.length d16, .slice A19 b.names.roles.length d20, .slice A23 b.names.inds.length d24, .slice A3 b.incls.length d4, .slice A6 b.roles.length d7, .slice A9 b.facts.length d10, .slice A12 b.links.length d13]]) Tryz.func95 rfl rfl rfl ?_ hw
  refine tc_seq <| tc_region ?_
  refine tl_box_agg (l := [.slice A15 b.names.concepts.length d16, .slice A19 b.names.roles.length d20, .slice A23 b.names.inds.length d24, .slice A3 b.incls.length d4, .slice A6 b.roles.length d7, .slice A9 b.facts.length d10, .slice A12 b.links.length d13]) rfl rfl fun b31 => ?_
  refine tl (v_assign rfl) ?_
  refine tl_nil <| tx_then <| tc_seq <| tc_region ?_
  refine tl (v_assign rfl) ?_
  refine tl_nil <| tx_then <| tc_seq <| tc_seq <| tc_region ?_
  refine tl (v_fieldAddr 3 rfl fo30_1 rfl) ?_
  refine tl (v_ld 0 rfl ld25 rfl rfl) ?_
  refine tl (v_len rfl sl25) ?_
  refine tl (v_move rfl) ?_
  refine tl_nil <| tx_then <| tc_block ?_
  refine tc_G _ (fun w hw => hw.vecnil 149 1) ?_
  have hv32 : (kAx).reps R [] [] := rfl
  refine tc_loop ?_
  refine th_loopS (fun b_ : Nat × List (Ax) × Option Addr × Nat × List Value => match b_ with | (i, p, A_p, c_p, l_p) => b.incls.length - i) (fun b_ : Nat × List (Ax) × Option Addr × Nat × List Value => match b_ with | (i, p, A_p, c_p, l_p) => [(1, .pointer (some ⟨b31, 0, none⟩)), (2, .slice none 0 0), (13, .slice A3 b.incls.length d4), (14, .int .i64 (b.incls.length : Int)), (15, .int .i64 (i : Int)), (3, .slice A_p p.length c_p)]) (fun b_ : Nat × List (Ax) × Option Addr × Nat × List Value => match b_ with | (i, p, A_p, c_p, l_p) => (.vec (.slice A_p p.length c_p) p.length 149 1 l_p :: .blk b31 [.slice A15 b.names.concepts.length d16, .slice A19 b.names.roles.length d20, .slice A23 b.names.inds.length d24, .slice A3 b.incls.length d4, .slice A6 b.roles.length d7, .slice A9 b.facts.length d10, .slice A12 b.links.length d13] 30 :: G)) (fun (b_ : Nat × List (Ax) × Option Addr × Nat × List Value) => match b_ with | (i, p, A_p, c_p, l_p) => (kAx).reps R p l_p ∧ (i ≤ b.incls.length ∧ p = (b.incls.take i).map Ax.incl)) (0, ([] : List (Ax)), none, 0, []) ⟨rfl, rfl, rfl, rfl, rfl, rfl, trivial⟩ (by refine ⟨hv32, ?_⟩; exact ⟨by omega, rfl⟩) (fun w hw => hw) ?_
  rintro ⟨i, p, A_p, c_p, l_p⟩ hI36 ih37
  show TC Tryz.prog _ _ _ [] [(1, .pointer (some ⟨b31, 0, none⟩)), (2, .slice none 0 0), (13, .slice A3 b.incls.length d4), (14, .int .i64 (b.incls.length : Int)), (15, .int .i64 (i : Int)), (3, .slice A_p p.length c_p)] R (.vec (.slice A_p p.length c_p) p.length 149 1 l_p :: .blk b31 [.slice A15 b.names.concepts.length d16, .slice A19 b.names.roles.length d20, .slice A23 b.names.inds.length d24, .slice A3 b.incls.length d4, .slice A6 b.roles.length d7, .slice A9 b.facts.length d10, .slice A12 b.links.length d13] 30 :: G)
  obtain ⟨hv35, hI40⟩ := hI36
  obtain ⟨hi1, hi2⟩ := hI40
  have hlei : p.length ≤ 1000 := by rw [hi2]; simp only [List.length_append, List.length_map, List.length_take]; omega
  refine tc_seq <| tc_region ?_
  refine tl (v_ib rfl rfl rfl) ?_
  refine tl_nil <| tx_then <| tc_seq ?_
  refine tc_split 16 rfl (fun h41 => ?_) (fun h41 => ?_)
  ·
   refine tc_yes rfl ?_
   refine tc_skip <| tx_then <| tc_seq <| tc_block <| tc_seq <| tc_region ?_
   have hb47 : i < b.incls.length := by omega
   obtain ⟨x42, hx43⟩ : ∃ x, b.incls[i]? = some x := ⟨_, List.getElem?_eq_getElem hb47⟩
   obtain ⟨c44, hr45, ha46⟩ := hs5.get _ x42 hx43
   obtain ⟨c48, c49, rfl, hr50, hr51⟩ := id hr45
   obtain ⟨A52, d53, rfl, i54, i55, hs56⟩ := kConcept_open hr50
   unfold i64 at i54 i55
   have z57 := hs56.size
   unfold big at z57
   obtain ⟨A58, d59, rfl, i60, i61, hs62⟩ := kConcept_open hr51
   unfold i64 at i60 i61
   have z63 := hs62.size
   unfold big at z63
   refine tl (v_idxS (i := i) hs5 rfl rfl rfl sl25 hb47) ?_
   refine tl (v_ldA_agg 0 [.int .i64 x42.sub.op, .int .i64 x42.sub.n, .slice A52 x42.sub.args.length d53, .int .i64 x42.sup.op, .int .i64 x42.sup.n, .slice A58 x42.sup.args.length d59] ha46 rfl ld92 rfl rfl) ?_
   refine tl_alloc zc92 rfl fun b64 => ?_
   refine tl_st 0 [.int .i64 x42.sub.op, .int .i64 x42.sub.n, .slice A52 x42.sub.args.length d53, .int .i64 x42.sup.op, .int .i64 x42.sup.n, .slice A58 x42.sup.args.length d59] rfl rfl ld92 rfl rfl rfl rfl rfl rfl ?_
   refine tl_nil <| tx_then <| tc_region ?_
   refine tl (v_move rfl) ?_
   refine tl (v_ld_agg 0 [.int .i64 x42.sub.op, .int .i64 x42.sub.n, .slice A52 x42.sub.args.length d53, .int .i64 x42.sup.op, .int .i64 x42.sup.n, .slice A58 x42.sup.args.length d59] rfl ld92 rfl rfl) ?_
   refine tl (v_mkI rfl ni162) ?_
   refine tl_bslice [.iface 162 (.agg #[.int .i64 x42.sub.op, .int .i64 x42.sub.n, .slice A52 x42.sub.args.length d53, .int .i64 x42.sup.op, .int .i64 x42.sup.n, .slice A58 x42.sup.args.length d59])] ap146 rfl rfl rfl rfl rfl rfl rfl fun b65 => ?_
   refine tl_app (k := kAx) (e := (Ax.incl x42)) 2 0 hv35 (⟨_, hr45, rfl⟩) ap146 rfl rfl rfl rfl rfl (by omega) rfl rfl fun A66 c67 l68 hv69 => ?_
   refine tl (v_assign rfl) ?_
   refine tl_nil <| tx_blk <| tx_then <| tc_region ?_
   refine tl (v_add rfl rfl (by omega) (by omega)) ?_
   refine tl (v_move rfl) ?_
   refine tl_nil ?_
   refine tx_round ?_
   exact fun a w ha hw => ih37.out (i + 1, (p ++ [(Ax.incl x42)]), A66, c67, l68) (by refine ⟨hv69, ?_⟩; exact ⟨by omega, by rw [hi2, map_take _ hx43]⟩) (by (try dsimp only); omega) a w (ha.sub (lkAll_lk ⟨rfl, rfl, rfl, rfl, rfl, rfl, trivial⟩)) (hw.drop 2)
  ·
   refine tc_no rfl ?_
   refine tc_exit <| tx_then_exit <| tx_then_exit <| tx_blk_exit <| tx_then <| tc_seq <| tc_seq <| tc_region ?_
   refine tl (v_fieldAddr 4 rfl fo30_2 rfl) ?_
   refine tl (v_ld 1 rfl ld26 rfl rfl) ?_
   refine tl (v_len rfl sl26) ?_
   refine tl (v_move rfl) ?_
   refine tl_nil <| tx_then <| tc_block ?_
   refine tc_loop ?_
   refine th_loopS (fun b_ : Nat × List (Ax) × Option Addr × Nat × List Value => match b_ with | (j, q, A_q, c_q, l_q) => b.roles.length - j) (fun b_ : Nat × List (Ax) × Option Addr × Nat × List Value => match b_ with | (j, q, A_q, c_q, l_q) => [(1, .pointer (some ⟨b31, 0, none⟩)), (2, .slice none 0 0), (26, .slice A6 b.roles.length d7), (27, .int .i64 (b.roles.length : Int)), (28, .int .i64 (j : Int)), (3, .slice A_q q.length c_q)]) (fun b_ : Nat × List (Ax) × Option Addr × Nat × List Value => match b_ with | (j, q, A_q, c_q, l_q) => (.vec (.slice A_q q.length c_q) q.length 149 1 l_q :: .blk b31 [.slice A15 b.names.concepts.length d16, .slice A19 b.names.roles.length d20, .slice A23 b.names.inds.length d24, .slice A3 b.incls.length d4, .slice A6 b.roles.length d7, .slice A9 b.facts.length d10, .slice A12 b.links.length d13] 30 :: G)) (fun (b_ : Nat × List (Ax) × Option Addr × Nat × List Value) => match b_ with | (j, q, A_q, c_q, l_q) => (kAx).reps R q l_q ∧ (j ≤ b.roles.length ∧ q = b.incls.map Ax.incl ++ (b.roles.take j).map Ax.role)) (0, p, A_p, c_p, l_p) ⟨rfl, rfl, rfl, rfl, rfl, rfl, trivial⟩ (by refine ⟨hv35, ?_⟩; (refine ⟨by omega, ?_⟩; rw [hi2, take_all (l := b.incls) (by assumption) (by assumption)]; simp)) (fun w hw => hw) ?_
   rintro ⟨j, q, A_q, c_q, l_q⟩ hI73 ih74
   show TC Tryz.prog _ _ _ [] [(1, .pointer (some ⟨b31, 0, none⟩)), (2, .slice none 0 0), (26, .slice A6 b.roles.length d7), (27, .int .i64 (b.roles.length : Int)), (28, .int .i64 (j : Int)), (3, .slice A_q q.length c_q)] R (.vec (.slice A_q q.length c_q) q.length 149 1 l_q :: .blk b31 [.slice A15 b.names.concepts.length d16, .slice A19 b.names.roles.length d20, .slice A23 b.names.inds.length d24, .slice A3 b.incls.length d4, .slice A6 b.roles.length d7, .slice A9 b.facts.length d10, .slice A12 b.links.length d13] 30 :: G)
   obtain ⟨hv72, hI77⟩ := hI73
   obtain ⟨hj1, hj2⟩ := hI77
   have hlej : q.length ≤ 1000 := by rw [hj2]; simp only [List.length_append, List.length_map, List.length_take]; omega
   refine tc_seq <| tc_region ?_
   refine tl (v_ib rfl rfl rfl) ?_
   refine tl_nil <| tx_then <| tc_seq ?_
   refine tc_split 29 rfl (fun h78 => ?_) (fun h78 => ?_)
   ·
    refine tc_yes rfl ?_
    refine tc_skip <| tx_then <| tc_seq <| tc_block <| tc_seq <| tc_region ?_
    have hb84 : j < b.roles.length := by omega
    obtain ⟨x79, hx80⟩ : ∃ x, b.roles[j]? = some x := ⟨_, List.getElem?_eq_getElem hb84⟩
    obtain ⟨c81, hr82, ha83⟩ := hs8.get _ x79 hx80
    obtain ⟨rfl, i85, i86⟩ := id hr82
    unfold i64 at i85
    unfold i64 at i86
    refine tl (v_idxS (i := j) hs8 rfl rfl rfl sl26 hb84) ?_
    refine tl (v_ldA_agg 0 [.int .i64 x79.sub, .int .i64 x79.sup] ha83 rfl ld84 rfl rfl) ?_
    refine tl_alloc zc84 rfl fun b87 => ?_
    refine tl_st 0 [.int .i64 x79.sub, .int .i64 x79.sup] rfl rfl ld84 rfl rfl rfl rfl rfl rfl ?_
    refine tl_nil <| tx_then <| tc_region ?_
    refine tl (v_move rfl) ?_
    refine tl (v_ld_agg 0 [.int .i64 x79.sub, .int .i64 x79.sup] rfl ld84 rfl rfl) ?_
    refine tl (v_mkI rfl ni163) ?_
    refine tl_bslice [.iface 163 (.agg #[.int .i64 x79.sub, .int .i64 x79.sup])] ap146 rfl rfl rfl rfl rfl rfl rfl fun b88 => ?_
    refine tl_app (k := kAx) (e := (Ax.role x79)) 2 0 hv72 (⟨_, hr82, rfl⟩) ap146 rfl rfl rfl rfl rfl (by omega) rfl rfl fun A89 c90 l91 hv92 => ?_
    refine tl (v_assign rfl) ?_
    refine tl_nil <| tx_blk <| tx_then <| tc_region ?_
    refine tl (v_add rfl rfl (by omega) (by omega)) ?_
    refine tl (v_move rfl) ?_
    refine tl_nil ?_
    refine tx_round ?_
    exact fun a w ha hw => ih74.out (j + 1, (q ++ [(Ax.role x79)]), A89, c90, l91) (by refine ⟨hv92, ?_⟩; exact ⟨by omega, by rw [hj2, map_take _ hx80]; simp⟩) (by (try dsimp only); omega) a w (ha.sub (lkAll_lk ⟨rfl, rfl, rfl, rfl, congrArg (fun z => some (Value.int .i64 z)) (show ((j : Int) + 1 : Int) = ((j + 1) : Int) by first | rfl | omega), rfl, trivial⟩)) (hw.drop 2)
   ·
    refine tc_no rfl ?_
    refine tc_exit <| tx_then_exit <| tx_then_exit <| tx_blk_exit <| tx_then <| tc_seq <| tc_seq <| tc_region ?_
    refine tl (v_fieldAddr 5 rfl fo30_3 rfl) ?_
    refine tl (v_ld 1 rfl ld27 rfl rfl) ?_
    refine tl (v_len rfl sl27) ?_
    refine tl (v_move rfl) ?_
    refine tl_nil <| tx_then <| tc_block ?_
    refine tc_loop ?_
    refine th_loopS (fun b_ : Nat × List (Ax) × Option Addr × Nat × List Value => match b_ with | (k, u, A_u, c_u, l_u) => b.facts.length - k) (fun b_ : Nat × List (Ax) × Option Addr × Nat × List Value => match b_ with | (k, u, A_u, c_u, l_u) => [(1, .pointer (some ⟨b31, 0, none⟩)), (2, .slice none 0 0), (39, .slice A9 b.facts.length d10), (40, .int .i64 (b.facts.length : Int)), (41, .int .i64 (k : Int)), (3, .slice A_u u.length c_u)]) (fun b_ : Nat × List (Ax) × Option Addr × Nat × List Value => match b_ with | (k, u, A_u, c_u, l_u) => (.vec (.slice A_u u.length c_u) u.length 149 1 l_u :: .blk b31 [.slice A15 b.names.concepts.length d16, .slice A19 b.names.roles.length d20, .slice A23 b.names.inds.length d24, .slice A3 b.incls.length d4, .slice A6 b.roles.length d7, .slice A9 b.facts.length d10, .slice A12 b.links.length d13] 30 :: G)) (fun (b_ : Nat × List (Ax) × Option Addr × Nat × List Value) => match b_ with | (k, u, A_u, c_u, l_u) => (kAx).reps R u l_u ∧ (k ≤ b.facts.length ∧ u = b.incls.map Ax.incl ++ b.roles.map Ax.role ++ (b.facts.take k).map Ax.fact)) (0, q, A_q, c_q, l_q) ⟨rfl, rfl, rfl, rfl, rfl, rfl, trivial⟩ (by refine ⟨hv72, ?_⟩; (refine ⟨by omega, ?_⟩; rw [hj2, take_all (l := b.roles) (by assumption) (by assumption)]; simp)) (fun w hw => hw) ?_
    rintro ⟨k, u, A_u, c_u, l_u⟩ hI96 ih97
    show TC Tryz.prog _ _ _ [] [(1, .pointer (some ⟨b31, 0, none⟩)), (2, .slice none 0 0), (39, .slice A9 b.facts.length d10), (40, .int .i64 (b.facts.length : Int)), (41, .int .i64 (k : Int)), (3, .slice A_u u.length c_u)] R (.vec (.slice A_u u.length c_u) u.length 149 1 l_u :: .blk b31 [.slice A15 b.names.concepts.length d16, .slice A19 b.names.roles.length d20, .slice A23 b.names.inds.length d24, .slice A3 b.incls.length d4, .slice A6 b.roles.length d7, .slice A9 b.facts.length d10, .slice A12 b.links.length d13] 30 :: G)
    obtain ⟨hv95, hI100⟩ := hI96
    obtain ⟨hk1, hk2⟩ := hI100
    have hlek : u.length ≤ 1000 := by rw [hk2]; simp only [List.length_append, List.length_map, List.length_take]; omega
    refine tc_seq <| tc_region ?_
    refine tl (v_ib rfl rfl rfl) ?_
    refine tl_nil <| tx_then <| tc_seq ?_
    refine tc_split 42 rfl (fun h101 => ?_) (fun h101 => ?_)
    ·
     refine tc_yes rfl ?_
     refine tc_skip <| tx_then <| tc_seq <| tc_block <| tc_seq <| tc_region ?_
     have hb107 : k < b.facts.length := by omega
     obtain ⟨x102, hx103⟩ : ∃ x, b.facts[k]? = some x := ⟨_, List.getElem?_eq_getElem hb107⟩
     obtain ⟨c104, hr105, ha106⟩ := hs11.get _ x102 hx103
     obtain ⟨c108, rfl, i109, hr110⟩ := id hr105
     unfold i64 at i109
     obtain ⟨A111, d112, rfl, i113, i114, hs115⟩ := kConcept_open hr110
     unfold i64 at i113 i114
     have z116 := hs115.size
     unfold big at z116
     refine tl (v_idxS (i := k) hs11 rfl rfl rfl sl27 hb107) ?_
     refine tl (v_ldA_agg 0 [.int .i64 x102.ind, .int .i64 x102.con.op, .int .i64 x102.con.n, .slice A111 x102.con.args.length d112] ha106 rfl ld87 rfl rfl) ?_
     refine tl_alloc zc87 rfl fun b117 => ?_
     refine tl_st 0 [.int .i64 x102.ind, .int .i64 x102.con.op, .int .i64 x102.con.n, .slice A111 x102.con.args.length d112] rfl rfl ld87 rfl rfl rfl rfl rfl rfl ?_
     refine tl_nil <| tx_then <| tc_region ?_
     refine tl (v_move rfl) ?_
     refine tl (v_ld_agg 0 [.int .i64 x102.ind, .int .i64 x102.con.op, .int .i64 x102.con.n, .slice A111 x102.con.args.length d112] rfl ld87 rfl rfl) ?_
     refine tl (v_mkI rfl ni164) ?_
     refine tl_bslice [.iface 164 (.agg #[.int .i64 x102.ind, .int .i64 x102.con.op, .int .i64 x102.con.n, .slice A111 x102.con.args.length d112])] ap146 rfl rfl rfl rfl rfl rfl rfl fun b118 => ?_
     refine tl_app (k := kAx) (e := (Ax.fact x102)) 2 0 hv95 (⟨_, hr105, rfl⟩) ap146 rfl rfl rfl rfl rfl (by omega) rfl rfl fun A119 c120 l121 hv122 => ?_
     refine tl (v_assign rfl) ?_
     refine tl_nil <| tx_blk <| tx_then <| tc_region ?_
     refine tl (v_add rfl rfl (by omega) (by omega)) ?_
     refine tl (v_move rfl) ?_
     refine tl_nil ?_
     refine tx_round ?_
     exact fun a w ha hw => ih97.out (k + 1, (u ++ [(Ax.fact x102)]), A119, c120, l121) (by refine ⟨hv122, ?_⟩; exact ⟨by omega, by rw [hk2, map_take _ hx103]; simp⟩) (by (try dsimp only); omega) a w (ha.sub (lkAll_lk ⟨rfl, rfl, rfl, rfl, congrArg (fun z => some (Value.int .i64 z)) (show ((k : Int) + 1 : Int) = ((k + 1) : Int) by first | rfl | omega), rfl, trivial⟩)) (hw.drop 2)
    ·
     refine tc_no rfl ?_
     refine tc_exit <| tx_then_exit <| tx_then_exit <| tx_blk_exit <| tx_then <| tc_seq <| tc_seq <| tc_region ?_
     refine tl (v_fieldAddr 6 rfl fo30_4 rfl) ?_
     refine tl (v_ld 1 rfl ld28 rfl rfl) ?_
     refine tl (v_len rfl sl28) ?_
     refine tl (v_move rfl) ?_
     refine tl_nil <| tx_then <| tc_block ?_
     refine tc_loop ?_
     refine th_loopS (fun b_ : Nat × List (Ax) × Option Addr × Nat × List Value => match b_ with | (m, v, A_v, c_v, l_v) => b.links.length - m) (fun b_ : Nat × List (Ax) × Option Addr × Nat × List Value => match b_ with | (m, v, A_v, c_v, l_v) => [(2, .slice none 0 0), (52, .slice A12 b.links.length d13), (53, .int .i64 (b.links.length : Int)), (54, .int .i64 (m : Int)), (3, .slice A_v v.length c_v)]) (fun b_ : Nat × List (Ax) × Option Addr × Nat × List Value => match b_ with | (m, v, A_v, c_v, l_v) => (.vec (.slice A_v v.length c_v) v.length 149 1 l_v :: .blk b31 [.slice A15 b.names.concepts.length d16, .slice A19 b.names.roles.length d20, .slice A23 b.names.inds.length d24, .slice A3 b.incls.length d4, .slice A6 b.roles.length d7, .slice A9 b.facts.length d10, .slice A12 b.links.length d13] 30 :: G)) (fun (b_ : Nat × List (Ax) × Option Addr × Nat × List Value) => match b_ with | (m, v, A_v, c_v, l_v) => (kAx).reps R v l_v ∧ (m ≤ b.links.length ∧ v = b.incls.map Ax.incl ++ b.roles.map Ax.role ++ b.facts.map Ax.fact ++ (b.links.take m).map Ax.link)) (0, u, A_u, c_u, l_u) ⟨rfl, rfl, rfl, rfl, rfl, trivial⟩ (by refine ⟨hv95, ?_⟩; (refine ⟨by omega, ?_⟩; rw [hk2, take_all (l := b.facts) (by assumption) (by assumption)]; simp)) (fun w hw => hw) ?_
     rintro ⟨m, v, A_v, c_v, l_v⟩ hI126 ih127
     show TC Tryz.prog _ _ _ [] [(2, .slice none 0 0), (52, .slice A12 b.links.length d13), (53, .int .i64 (b.links.length : Int)), (54, .int .i64 (m : Int)), (3, .slice A_v v.length c_v)] R (.vec (.slice A_v v.length c_v) v.length 149 1 l_v :: .blk b31 [.slice A15 b.names.concepts.length d16, .slice A19 b.names.roles.length d20, .slice A23 b.names.inds.length d24, .slice A3 b.incls.length d4, .slice A6 b.roles.length d7, .slice A9 b.facts.length d10, .slice A12 b.links.length d13] 30 :: G)
     obtain ⟨hv125, hI130⟩ := hI126
     obtain ⟨hm1, hm2⟩ := hI130
     have hlem : v.length ≤ 1000 := by rw [hm2]; simp only [List.length_append, List.length_map, List.length_take]; omega
     refine tc_seq <| tc_region ?_
     refine tl (v_ib rfl rfl rfl) ?_
     refine tl_nil <| tx_then <| tc_seq ?_
     refine tc_split 55 rfl (fun h131 => ?_) (fun h131 => ?_)
     ·
      refine tc_yes rfl ?_
      refine tc_skip <| tx_then <| tc_seq <| tc_block <| tc_seq <| tc_region ?_
      have hb137 : m < b.links.length := by omega
      obtain ⟨x132, hx133⟩ : ∃ x, b.links[m]? = some x := ⟨_, List.getElem?_eq_getElem hb137⟩
      obtain ⟨c134, hr135, ha136⟩ := hs14.get _ x132 hx133
      obtain ⟨rfl, i138, i139, i140⟩ := id hr135
      unfold i64 at i138
      unfold i64 at i139
      unfold i64 at i140
      refine tl (v_idxS (i := m) hs14 rfl rfl rfl sl28 hb137) ?_
      refine tl (v_ldA_agg 0 [.int .i64 x132.role, .int .i64 x132.frm, .int .i64 x132.to] ha136 rfl ld89 rfl rfl) ?_
      refine tl_alloc zc89 rfl fun b141 => ?_
      refine tl_st 0 [.int .i64 x132.role, .int .i64 x132.frm, .int .i64 x132.to] rfl rfl ld89 rfl rfl rfl rfl rfl rfl ?_
      refine tl_nil <| tx_then <| tc_region ?_
      refine tl (v_move rfl) ?_
      refine tl (v_ld_agg 0 [.int .i64 x132.role, .int .i64 x132.frm, .int .i64 x132.to] rfl ld89 rfl rfl) ?_
      refine tl (v_mkI rfl ni165) ?_
      refine tl_bslice [.iface 165 (.agg #[.int .i64 x132.role, .int .i64 x132.frm, .int .i64 x132.to])] ap146 rfl rfl rfl rfl rfl rfl rfl fun b142 => ?_
      refine tl_app (k := kAx) (e := (Ax.link x132)) 2 0 hv125 (⟨_, hr135, rfl⟩) ap146 rfl rfl rfl rfl rfl (by omega) rfl rfl fun A143 c144 l145 hv146 => ?_
      refine tl (v_assign rfl) ?_
      refine tl_nil <| tx_blk <| tx_then <| tc_region ?_
      refine tl (v_add rfl rfl (by omega) (by omega)) ?_
      refine tl (v_move rfl) ?_
      refine tl_nil ?_
      refine tx_round ?_
      exact fun a w ha hw => ih127.out (m + 1, (v ++ [(Ax.link x132)]), A143, c144, l145) (by refine ⟨hv146, ?_⟩; exact ⟨by omega, by rw [hm2, map_take _ hx133]; simp⟩) (by (try dsimp only); omega) a w (ha.sub (lkAll_lk ⟨rfl, rfl, rfl, congrArg (fun z => some (Value.int .i64 z)) (show ((m : Int) + 1 : Int) = ((m + 1) : Int) by first | rfl | omega), rfl, trivial⟩)) (hw.drop 2)
     ·
      refine tc_no rfl ?_
      refine tc_exit <| tx_then_exit <| tx_then_exit <| tx_blk_exit <| tx_then <| tc_seq <| tc_region ?_
      refine tl (v_move rfl) ?_
      refine tl (v_assign rfl) ?_
      refine tl_nil <| tx_then <| tc_ret ?_
      refine tx_retireV (k := kAx) (l := v) 0 rfl hv125 rfl (by (unfold big; omega)) fun R149 hle150 hs148 => ?_
      have z151 := hs148.size
      unfold big at z151
      refine tx_ret1 (.inl rfl) rfl rfl ?_
      have e152 : (v : List (Ax)) = allA b := by (rw [hm2, take_all (l := b.links) (by assumption) (by assumption)]; rfl)
      intro w hw
      exact ⟨_, _, [], rfl, hle150, hw.drop 1, A_v, c_v, (congrArg (fun (z0_ : List (Ax)) => (.slice A_v z0_.length c_v : Value)) e152), rfl, (Eq.mp (congrArg (fun z => SlAt kAx R149 A_v z) e152) hs148)⟩

def exI (l : List Ax) : List Incl := l.filterMap fun | .incl x => some x | _ => none
def exR (l : List Ax) : List RoleIncl := l.filterMap fun | .role x => some x | _ => none
def exF (l : List Ax) : List Fact := l.filterMap fun | .fact x => some x | _ => none
def exL (l : List Ax) : List Link := l.filterMap fun | .link x => some x | _ => none
def ofB (n : Names) (l : List Ax) : Base := ⟨n, exI l, exR l, exF l, exL l⟩
def axSmall : Ax → Prop
  | .incl x => nodesC x.sub ≤ 1000 ∧ nodesC x.sup ≤ 1000
  | .fact x => nodesC x.con ≤ 1000
  | _ => True
theorem ax_take {l : List Ax} {i : Nat} {x : Ax} (h : l[i]? = some x) : exI (l.take (i + 1)) = exI (l.take i) ++ exI [x] ∧ exR (l.take (i + 1)) = exR (l.take i) ++ exR [x] ∧ exF (l.take (i + 1)) = exF (l.take i) ++ exF [x] ∧ exL (l.take (i + 1)) = exL (l.take i) ++ exL [x] := by
  rw [take_succ_at h]; simp [exI, exR, exF, exL]
theorem ax_len (l : List Ax) (i : Nat) : (exI (l.take i)).length ≤ i ∧ (exR (l.take i)).length ≤ i ∧ (exF (l.take i)).length ≤ i ∧ (exL (l.take i)).length ≤ i := by
  have h (f : Ax → Option Incl) := List.length_filterMap_le f (l.take i)
  have h2 (f : Ax → Option RoleIncl) := List.length_filterMap_le f (l.take i)
  have h3 (f : Ax → Option Fact) := List.length_filterMap_le f (l.take i)
  have h4 (f : Ax → Option Link) := List.length_filterMap_le f (l.take i)
  have hl : (l.take i).length ≤ i := by rw [List.length_take]; omega
  exact ⟨Nat.le_trans (h _) hl, Nat.le_trans (h2 _) hl, Nat.le_trans (h3 _) hl, Nat.le_trans (h4 _) hl⟩

set_option maxRecDepth 20000 in
set_option maxHeartbeats 8000000 in
theorem kb_Of_ok {R : RO} {G : List Res} {w : World} {c_n : List Value} (n : Names) {A_l : Option Addr} {d_l : Nat} (l : List (Ax)) (hr_n : kNames.rep R n c_n) (hs_l : SlAt kAx R A_l l) (hb : l.length ≤ 1000 ∧ n.concepts.length ≤ 1000 ∧ n.roles.length ≤ 1000 ∧ n.inds.length ≤ 1000) (hx : ∀ x ∈ l, axSmall x) (hw : Own w R (G)) :
    Calls Tryz.prog 96 [.agg c_n.toArray, .slice A_l l.length d_l].toArray w (RetO R G (fun v_ R' L_ => ∃ (cs_0 : List Value), v_ = (.agg cs_0.toArray : Value) ∧ L_ = ([] : List Res) ∧ kBase.rep R' (ofB n l) cs_0)) := by
  obtain ⟨A1, d2, A5, d6, A9, d10, rfl, hs3, hs7, hs11⟩ := id hr_n
  have z4 := hs3.size
  unfold big at z4
  have z8 := hs7.size
  unfold big at z8
  have z12 := hs11.size
  unfold big at z12
  have hz_l := hs_l.size
  unfold big at hz_l
  refine fn_enter (vs := [.agg #[.slice A1 n.concepts.length d2, .slice A5 n.roles.length d6, .slice A9 n.inds.length d10], .slice A_l l.length d_l]) Tryz.func96 rfl rfl rfl ?_ hw
  refine tc_seq <| tc_region ?_
  refine tl_box_agg (l := [.slice A1 n.concepts.length d2, .slice A5 n.roles.length d6, .slice A9 n.inds.length d10]) rfl rfl fun b13 => ?_
  refine tl_alloc zc30 rfl fun b14 => ?_
  refine tl_nil <| tx_then <| tc_seq <| tc_region ?_
  refine tl (v_ld_agg 1 [.slice A1 n.concepts.length d2, .slice A5 n.roles.length d6, .slice A9 n.inds.length d10] rfl ld24 rfl rfl) ?_
  refine tl_callo ca105 rfl (fun w hw => kb_Named_ok n hr_n (by first | assumption | omega) hw) rfl ?_
  rintro _ R16 _ hle17 ⟨A_z15_0_0, d_z15_0_0, A_z15_0_1, d_z15_0_1, A_z15_0_2, d_z15_0_2, rfl, rfl, hs_z15_0_0, hs_z15_0_1, hs_z15_0_2⟩
  try replace hs_l := hs_l.mono hle17
  have z18 := hs_z15_0_0.size
  unfold big at z18
  have z19 := hs_z15_0_1.size
  unfold big at z19
  have z20 := hs_z15_0_2.size
  unfold big at z20
  refine tl_alloc zc30 rfl fun b21 => ?_
  refine tl_st 0 [.slice A_z15_0_0 n.concepts.length d_z15_0_0, .slice A_z15_0_1 n.roles.length d_z15_0_1, .slice A_z15_0_2 n.inds.length d_z15_0_2, .slice none 0 0, .slice none 0 0, .slice none 0 0, .slice none 0 0] rfl rfl ld30 rfl rfl rfl rfl rfl rfl ?_
  refine tl_nil <| tx_then <| tc_seq <| tc_seq <| tc_region ?_
  refine tl (v_move rfl) ?_
  refine tl (v_len rfl sl146) ?_
  refine tl (v_move rfl) ?_
  refine tl_nil <| tx_then <| tc_block ?_
  refine tc_G _ (fun w hw => hw.vecnil 92 6) ?_
  have hv22 : (kIncl).reps R16 [] [] := rfl
  refine tc_G _ (fun w hw => hw.vecnil 84 2) ?_
  have hv26 : (kRoleIncl).reps R16 [] [] := rfl
  refine tc_G _ (fun w hw => hw.vecnil 87 4) ?_
  have hv30 : (kFact).reps R16 [] [] := rfl
  refine tc_G _ (fun w hw => hw.vecnil 89 3) ?_
  have hv34 : (kLink).reps R16 [] [] := rfl
  refine tc_loop ?_
  refine th_loop (fun b_ : Nat × List (Incl) × Option Addr × Nat × List Value × List (RoleIncl) × Option Addr × Nat × List Value × List (Fact) × Option Addr × Nat × List Value × List (Link) × Option Addr × Nat × List Value => match b_ with | (i, p, A_p, c_p, l_p, q, A_q, c_q, l_q, u, A_u, c_u, l_u, v, A_v, c_v, l_v) => l.length - i) (fun b_ : Nat × List (Incl) × Option Addr × Nat × List Value × List (RoleIncl) × Option Addr × Nat × List Value × List (Fact) × Option Addr × Nat × List Value × List (Link) × Option Addr × Nat × List Value => match b_ with | (i, p, A_p, c_p, l_p, q, A_q, c_q, l_q, u, A_u, c_u, l_u, v, A_v, c_v, l_v) => [(4, .pointer (some ⟨b14, 0, none⟩)), (5, .pointer (some ⟨b21, 0, none⟩)), (10, .slice A_l l.length d_l), (11, .int .i64 (l.length : Int)), (12, .int .i64 (i : Int))]) (fun b_ : Nat × List (Incl) × Option Addr × Nat × List Value × List (RoleIncl) × Option Addr × Nat × List Value × List (Fact) × Option Addr × Nat × List Value × List (Link) × Option Addr × Nat × List Value => match b_ with | (i, p, A_p, c_p, l_p, q, A_q, c_q, l_q, u, A_u, c_u, l_u, v, A_v, c_v, l_v) => (.vec (.slice A_v v.length c_v) v.length 89 3 l_v :: .vec (.slice A_u u.length c_u) u.length 87 4 l_u :: .vec (.slice A_q q.length c_q) q.length 84 2 l_q :: .vec (.slice A_p p.length c_p) p.length 92 6 l_p :: .blk b21 [.slice A_z15_0_0 n.concepts.length d_z15_0_0, .slice A_z15_0_1 n.roles.length d_z15_0_1, .slice A_z15_0_2 n.inds.length d_z15_0_2, .slice A_p p.length c_p, .slice A_q q.length c_q, .slice A_u u.length c_u, .slice A_v v.length c_v] 30 :: .blk b14 [.slice none 0 0, .slice none 0 0, .slice none 0 0, .slice none 0 0, .slice none 0 0, .slice none 0 0, .slice none 0 0] 30 :: .blk b13 [.slice A1 n.concepts.length d2, .slice A5 n.roles.length d6, .slice A9 n.inds.length d10] 24 :: G)) (fun (b_ : Nat × List (Incl) × Option Addr × Nat × List Value × List (RoleIncl) × Option Addr × Nat × List Value × List (Fact) × Option Addr × Nat × List Value × List (Link) × Option Addr × Nat × List Value) (R_ : RO) => match b_ with | (i, p, A_p, c_p, l_p, q, A_q, c_q, l_q, u, A_u, c_u, l_u, v, A_v, c_v, l_v) => (kIncl).reps R_ p l_p ∧ (kRoleIncl).reps R_ q l_q ∧ (kFact).reps R_ u l_u ∧ (kLink).reps R_ v l_v ∧ (i ≤ l.length ∧ p = exI (l.take i) ∧ q = exR (l.take i) ∧ u = exF (l.take i) ∧ v = exL (l.take i))) (0, ([] : List (Incl)), none, 0, [], ([] : List (RoleIncl)), none, 0, [], ([] : List (Fact)), none, 0, [], ([] : List (Link)), none, 0, []) ⟨rfl, rfl, rfl, rfl, rfl, trivial⟩ (by refine ⟨hv22, hv26, hv30, hv34, ?_⟩; exact ⟨by omega, rfl, rfl, rfl, rfl⟩) (fun w hw => hw) ?_
  rintro ⟨i, p, A_p, c_p, l_p, q, A_q, c_q, l_q, u, A_u, c_u, l_u, v, A_v, c_v, l_v⟩ R40 hle41 hI38 ih39
  try replace hs_l := hs_l.mono hle41
  try replace hs_z15_0_0 := hs_z15_0_0.mono hle41
  try replace hs_z15_0_1 := hs_z15_0_1.mono hle41
  try replace hs_z15_0_2 := hs_z15_0_2.mono hle41
  have hle42 := hle17.trans hle41
  show TC Tryz.prog _ _ _ [] [(4, .pointer (some ⟨b14, 0, none⟩)), (5, .pointer (some ⟨b21, 0, none⟩)), (10, .slice A_l l.length d_l), (11, .int .i64 (l.length : Int)), (12, .int .i64 (i : Int))] R40 (.vec (.slice A_v v.length c_v) v.length 89 3 l_v :: .vec (.slice A_u u.length c_u) u.length 87 4 l_u :: .vec (.slice A_q q.length c_q) q.length 84 2 l_q :: .vec (.slice A_p p.length c_p) p.length 92 6 l_p :: .blk b21 [.slice A_z15_0_0 n.concepts.length d_z15_0_0, .slice A_z15_0_1 n.roles.length d_z15_0_1, .slice A_z15_0_2 n.inds.length d_z15_0_2, .slice A_p p.length c_p, .slice A_q q.length c_q, .slice A_u u.length c_u, .slice A_v v.length c_v] 30 :: .blk b14 [.slice none 0 0, .slice none 0 0, .slice none 0 0, .slice none 0 0, .slice none 0 0, .slice none 0 0, .slice none 0 0] 30 :: .blk b13 [.slice A1 n.concepts.length d2, .slice A5 n.roles.length d6, .slice A9 n.inds.length d10] 24 :: G)
  obtain ⟨hv25, hv29, hv33, hv37, hI43⟩ := hI38
  obtain ⟨hi1, hi2, hi3, hi4, hi5⟩ := hI43
  have hal := ax_len l i
  rw [← hi2, ← hi3, ← hi4, ← hi5] at hal
  refine tc_seq <| tc_region ?_
  refine tl (v_ib rfl rfl rfl) ?_
  refine tl_nil <| tx_then <| tc_seq ?_
  refine tc_split 13 rfl (fun h44 => ?_) (fun h44 => ?_)
  ·
   refine tc_yes rfl ?_
   refine tc_skip <| tx_then <| tc_seq <| tc_block <| tc_seq <| tc_region ?_
   have hb50 : i < l.length := by omega
   obtain ⟨x45, hx46⟩ : ∃ x, l[i]? = some x := ⟨_, List.getElem?_eq_getElem hb50⟩
   obtain ⟨c47, hr48, ha49⟩ := hs_l.get _ x45 hx46
   obtain ⟨t51, v52, rfl, hr48_⟩ := kAx_open hr48
   have hf53 := hx _ (List.mem_of_getElem? hx46)
   have hf54 := ax_take hx46
   refine tl (v_idxS (i := i) hs_l rfl rfl rfl sl146 hb50) ?_
   refine tl (v_ldA 0 ha49 rfl ld149 rfl rfl) ?_
   refine tl (v_assign rfl) ?_
   refine tl_nil <| tx_then <| tc_region ?_
   refine tl (v_move rfl) ?_
   rcases x45 with y55 | y55 | y55 | y55
   ·
    obtain ⟨c56, hr57, hv_⟩ := id hr48_
    simp only [List.cons.injEq, and_true, Value.iface.injEq] at hv_
    obtain ⟨rfl, rfl⟩ := hv_
    obtain ⟨c58, c59, rfl, hr60, hr61⟩ := id hr57
    obtain ⟨A62, d63, rfl, i65, i66, hs67⟩ := kConcept_open hr60
    unfold i64 at i65 i66
    have z68 := hs67.size
    unfold big at z68
    obtain ⟨A69, d70, rfl, i71, i72, hs73⟩ := kConcept_open hr61
    unfold i64 at i71 i72
    have z74 := hs73.size
    unfold big at z74
    refine tl_G (.blk b21 [.slice A_z15_0_0 n.concepts.length d_z15_0_0, .slice A_z15_0_1 n.roles.length d_z15_0_1, .slice A_z15_0_2 n.inds.length d_z15_0_2, .slice A_p p.length c_p, .slice A_q q.length c_q, .slice A_u u.length c_u, .slice A_v v.length c_v] 30 :: .vec (.slice A_p p.length c_p) p.length 92 6 l_p :: .vec (.slice A_v v.length c_v) v.length 89 3 l_v :: .vec (.slice A_u u.length c_u) u.length 87 4 l_u :: .vec (.slice A_q q.length c_q) q.length 84 2 l_q :: .blk b14 [.slice none 0 0, .slice none 0 0, .slice none 0 0, .slice none 0 0, .slice none 0 0, .slice none 0 0, .slice none 0 0] 30 :: .blk b13 [.slice A1 n.concepts.length d2, .slice A5 n.roles.length d6, .slice A9 n.inds.length d10] 24 :: G) (fun w hw => ((hw.pick 3).pick 4)) ?_
    refine tl_calloG (goes_inv mr162_166 ca166 rfl rfl) (fun w hw => kb_incl_add_ok y55 p hr57 hv25 (by grind [axSmall]) hw) rfl ?_
    rintro _ R76 _ hle77 ⟨A_z75_p_l, c_z75_p_l, l_z75_p_l, rfl, rfl, hv_z75_p_l⟩
    try replace hs_z15_0_0 := hs_z15_0_0.mono hle77
    try replace hs_z15_0_1 := hs_z15_0_1.mono hle77
    try replace hs_z15_0_2 := hs_z15_0_2.mono hle77
    try replace hv25 := Kd.reps_mono hle77 hv25
    try replace hv29 := Kd.reps_mono hle77 hv29
    try replace hv33 := Kd.reps_mono hle77 hv33
    try replace hv37 := Kd.reps_mono hle77 hv37
    have hle78 := hle42.trans hle77
    have hle79 := hle41.trans hle77
    refine tl_nil <| tx_blk <| tx_then <| tc_region ?_
    refine tl (v_add rfl rfl (by omega) (by omega)) ?_
    refine tl (v_move rfl) ?_
    refine tl_nil ?_
    refine tx_round ?_
    exact fun a w ha hw => ih39.out (i + 1, (p ++ [y55]), A_z75_p_l, c_z75_p_l, l_z75_p_l, q, A_q, c_q, l_q, u, A_u, c_u, l_u, v, A_v, c_v, l_v) _ (hle77) (by refine ⟨hv_z75_p_l, hv29, hv33, hv37, ?_⟩; (obtain ⟨k1_, k2_, k3_, k4_⟩ := ax_take hx46; exact ⟨by omega, by rw [k1_, hi2]; simp [exI], by rw [k2_, hi3]; simp [exR], by rw [k3_, hi4]; simp [exF], by rw [k4_, hi5]; simp [exL]⟩)) (by (try dsimp only); omega) a w (ha.sub (lkAll_lk ⟨rfl, rfl, rfl, rfl, rfl, trivial⟩)) ((((((((hw.pick 6).pick 6).pick 2).pick 3).pick 6).pick 6).pick 6))
   ·
    obtain ⟨c80, hr81, hv_⟩ := id hr48_
    simp only [List.cons.injEq, and_true, Value.iface.injEq] at hv_
    obtain ⟨rfl, rfl⟩ := hv_
    obtain ⟨rfl, i82, i83⟩ := id hr81
    unfold i64 at i82
    unfold i64 at i83
    refine tl_G (.blk b21 [.slice A_z15_0_0 n.concepts.length d_z15_0_0, .slice A_z15_0_1 n.roles.length d_z15_0_1, .slice A_z15_0_2 n.inds.length d_z15_0_2, .slice A_p p.length c_p, .slice A_q q.length c_q, .slice A_u u.length c_u, .slice A_v v.length c_v] 30 :: .vec (.slice A_q q.length c_q) q.length 84 2 l_q :: .vec (.slice A_v v.length c_v) v.length 89 3 l_v :: .vec (.slice A_u u.length c_u) u.length 87 4 l_u :: .vec (.slice A_p p.length c_p) p.length 92 6 l_p :: .blk b14 [.slice none 0 0, .slice none 0 0, .slice none 0 0, .slice none 0 0, .slice none 0 0, .slice none 0 0, .slice none 0 0] 30 :: .blk b13 [.slice A1 n.concepts.length d2, .slice A5 n.roles.length d6, .slice A9 n.inds.length d10] 24 :: G) (fun w hw => ((hw.pick 2).pick 4)) ?_
    refine tl_calloG (goes_inv mr163_169 ca169 rfl rfl) (fun w hw => kb_role_add_ok y55 q hr81 hv29 (by grind [axSmall]) hw) rfl ?_
    rintro _ R85 _ hle86 ⟨A_z84_p_l, c_z84_p_l, l_z84_p_l, rfl, rfl, hv_z84_p_l⟩
    try replace hs_z15_0_0 := hs_z15_0_0.mono hle86
    try replace hs_z15_0_1 := hs_z15_0_1.mono hle86
    try replace hs_z15_0_2 := hs_z15_0_2.mono hle86
    try replace hv25 := Kd.reps_mono hle86 hv25
    try replace hv29 := Kd.reps_mono hle86 hv29
    try replace hv33 := Kd.reps_mono hle86 hv33
    try replace hv37 := Kd.reps_mono hle86 hv37
    have hle87 := hle42.trans hle86
    have hle88 := hle41.trans hle86
    refine tl_nil <| tx_blk <| tx_then <| tc_region ?_
    refine tl (v_add rfl rfl (by omega) (by omega)) ?_
    refine tl (v_move rfl) ?_
    refine tl_nil ?_
    refine tx_round ?_
    exact fun a w ha hw => ih39.out (i + 1, p, A_p, c_p, l_p, (q ++ [y55]), A_z84_p_l, c_z84_p_l, l_z84_p_l, u, A_u, c_u, l_u, v, A_v, c_v, l_v) _ (hle86) (by refine ⟨hv25, hv_z84_p_l, hv33, hv37, ?_⟩; (obtain ⟨k1_, k2_, k3_, k4_⟩ := ax_take hx46; exact ⟨by omega, by rw [k1_, hi2]; simp [exI], by rw [k2_, hi3]; simp [exR], by rw [k3_, hi4]; simp [exF], by rw [k4_, hi5]; simp [exL]⟩)) (by (try dsimp only); omega) a w (ha.sub (lkAll_lk ⟨rfl, rfl, rfl, rfl, rfl, trivial⟩)) ((((((((hw.pick 6).pick 6).pick 2).pick 6).pick 4).pick 6).pick 6))
   ·
    obtain ⟨c89, hr90, hv_⟩ := id hr48_
    simp only [List.cons.injEq, and_true, Value.iface.injEq] at hv_
    obtain ⟨rfl, rfl⟩ := hv_
    obtain ⟨c91, rfl, i92, hr93⟩ := id hr90
    unfold i64 at i92
    obtain ⟨A94, d95, rfl, i96, i97, hs98⟩ := kConcept_open hr93
    unfold i64 at i96 i97
    have z99 := hs98.size
    unfold big at z99
    refine tl_G (.blk b21 [.slice A_z15_0_0 n.concepts.length d_z15_0_0, .slice A_z15_0_1 n.roles.length d_z15_0_1, .slice A_z15_0_2 n.inds.length d_z15_0_2, .slice A_p p.length c_p, .slice A_q q.length c_q, .slice A_u u.length c_u, .slice A_v v.length c_v] 30 :: .vec (.slice A_u u.length c_u) u.length 87 4 l_u :: .vec (.slice A_v v.length c_v) v.length 89 3 l_v :: .vec (.slice A_q q.length c_q) q.length 84 2 l_q :: .vec (.slice A_p p.length c_p) p.length 92 6 l_p :: .blk b14 [.slice none 0 0, .slice none 0 0, .slice none 0 0, .slice none 0 0, .slice none 0 0, .slice none 0 0, .slice none 0 0] 30 :: .blk b13 [.slice A1 n.concepts.length d2, .slice A5 n.roles.length d6, .slice A9 n.inds.length d10] 24 :: G) (fun w hw => ((hw.pick 1).pick 4)) ?_
    refine tl_calloG (goes_inv mr164_171 ca171 rfl rfl) (fun w hw => kb_fact_add_ok y55 u hr90 hv33 (by grind [axSmall]) hw) rfl ?_
    rintro _ R101 _ hle102 ⟨A_z100_p_l, c_z100_p_l, l_z100_p_l, rfl, rfl, hv_z100_p_l⟩
    try replace hs_z15_0_0 := hs_z15_0_0.mono hle102
    try replace hs_z15_0_1 := hs_z15_0_1.mono hle102
    try replace hs_z15_0_2 := hs_z15_0_2.mono hle102
    try replace hv25 := Kd.reps_mono hle102 hv25
    try replace hv29 := Kd.reps_mono hle102 hv29
    try replace hv33 := Kd.reps_mono hle102 hv33
    try replace hv37 := Kd.reps_mono hle102 hv37
    have hle103 := hle42.trans hle102
    have hle104 := hle41.trans hle102
    refine tl_nil <| tx_blk <| tx_then <| tc_region ?_
    refine tl (v_add rfl rfl (by omega) (by omega)) ?_
    refine tl (v_move rfl) ?_
    refine tl_nil ?_
    refine tx_round ?_
    exact fun a w ha hw => ih39.out (i + 1, p, A_p, c_p, l_p, q, A_q, c_q, l_q, (u ++ [y55]), A_z100_p_l, c_z100_p_l, l_z100_p_l, v, A_v, c_v, l_v) _ (hle102) (by refine ⟨hv25, hv29, hv_z100_p_l, hv37, ?_⟩; (obtain ⟨k1_, k2_, k3_, k4_⟩ := ax_take hx46; exact ⟨by omega, by rw [k1_, hi2]; simp [exI], by rw [k2_, hi3]; simp [exR], by rw [k3_, hi4]; simp [exF], by rw [k4_, hi5]; simp [exL]⟩)) (by (try dsimp only); omega) a w (ha.sub (lkAll_lk ⟨rfl, rfl, rfl, rfl, rfl, trivial⟩)) ((((((((hw.pick 6).pick 6).pick 2).pick 6).pick 6).pick 5).pick 6))
   ·
    obtain ⟨c105, hr106, hv_⟩ := id hr48_
    simp only [List.cons.injEq, and_true, Value.iface.injEq] at hv_
    obtain ⟨rfl, rfl⟩ := hv_
    obtain ⟨rfl, i107, i108, i109⟩ := id hr106
    unfold i64 at i107
    unfold i64 at i108
    unfold i64 at i109
    refine tl_G (.blk b21 [.slice A_z15_0_0 n.concepts.length d_z15_0_0, .slice A_z15_0_1 n.roles.length d_z15_0_1, .slice A_z15_0_2 n.inds.length d_z15_0_2, .slice A_p p.length c_p, .slice A_q q.length c_q, .slice A_u u.length c_u, .slice A_v v.length c_v] 30 :: .vec (.slice A_v v.length c_v) v.length 89 3 l_v :: .vec (.slice A_u u.length c_u) u.length 87 4 l_u :: .vec (.slice A_q q.length c_q) q.length 84 2 l_q :: .vec (.slice A_p p.length c_p) p.length 92 6 l_p :: .blk b14 [.slice none 0 0, .slice none 0 0, .slice none 0 0, .slice none 0 0, .slice none 0 0, .slice none 0 0, .slice none 0 0] 30 :: .blk b13 [.slice A1 n.concepts.length d2, .slice A5 n.roles.length d6, .slice A9 n.inds.length d10] 24 :: G) (fun w hw => ((hw.pick 0).pick 4)) ?_
    refine tl_calloG (goes_inv mr165_173 ca173 rfl rfl) (fun w hw => kb_link_add_ok y55 v hr106 hv37 (by grind [axSmall]) hw) rfl ?_
    rintro _ R111 _ hle112 ⟨A_z110_p_l, c_z110_p_l, l_z110_p_l, rfl, rfl, hv_z110_p_l⟩
    try replace hs_z15_0_0 := hs_z15_0_0.mono hle112
    try replace hs_z15_0_1 := hs_z15_0_1.mono hle112
    try replace hs_z15_0_2 := hs_z15_0_2.mono hle112
    try replace hv25 := Kd.reps_mono hle112 hv25
    try replace hv29 := Kd.reps_mono hle112 hv29
    try replace hv33 := Kd.reps_mono hle112 hv33
    try replace hv37 := Kd.reps_mono hle112 hv37
    have hle113 := hle42.trans hle112
    have hle114 := hle41.trans hle112
    refine tl_nil <| tx_blk <| tx_then <| tc_region ?_
    refine tl (v_add rfl rfl (by omega) (by omega)) ?_
    refine tl (v_move rfl) ?_
    refine tl_nil ?_
    refine tx_round ?_
    exact fun a w ha hw => ih39.out (i + 1, p, A_p, c_p, l_p, q, A_q, c_q, l_q, u, A_u, c_u, l_u, (v ++ [y55]), A_z110_p_l, c_z110_p_l, l_z110_p_l) _ (hle112) (by refine ⟨hv25, hv29, hv33, hv_z110_p_l, ?_⟩; (obtain ⟨k1_, k2_, k3_, k4_⟩ := ax_take hx46; exact ⟨by omega, by rw [k1_, hi2]; simp [exI], by rw [k2_, hi3]; simp [exR], by rw [k3_, hi4]; simp [exF], by rw [k4_, hi5]; simp [exL]⟩)) (by (try dsimp only); omega) a w (ha.sub (lkAll_lk ⟨rfl, rfl, rfl, rfl, rfl, trivial⟩)) ((((((((hw.pick 6).pick 6).pick 2).pick 6).pick 6).pick 6).pick 6))
  ·
   refine tc_no rfl ?_
   refine tc_exit <| tx_then_exit <| tx_then_exit <| tx_blk_exit <| tx_then <| tc_seq <| tc_region ?_
   refine tl (v_ld_agg 4 [.slice A_z15_0_0 n.concepts.length d_z15_0_0, .slice A_z15_0_1 n.roles.length d_z15_0_1, .slice A_z15_0_2 n.inds.length d_z15_0_2, .slice A_p p.length c_p, .slice A_q q.length c_q, .slice A_u u.length c_u, .slice A_v v.length c_v] rfl ld30 rfl rfl) ?_
   refine tl_st 5 [.slice A_z15_0_0 n.concepts.length d_z15_0_0, .slice A_z15_0_1 n.roles.length d_z15_0_1, .slice A_z15_0_2 n.inds.length d_z15_0_2, .slice A_p p.length c_p, .slice A_q q.length c_q, .slice A_u u.length c_u, .slice A_v v.length c_v] rfl rfl ld30 rfl rfl rfl rfl rfl rfl ?_
   refine tl_nil <| tx_then <| tc_ret ?_
   refine tx_retireV (k := kIncl) (l := p) 3 rfl hv25 rfl (by (unfold big; omega)) fun R116 hle117 hs115 => ?_
   try replace hs_z15_0_0 := hs_z15_0_0.mono hle117
   try replace hs_z15_0_1 := hs_z15_0_1.mono hle117
   try replace hs_z15_0_2 := hs_z15_0_2.mono hle117
   try replace hv29 := Kd.reps_mono hle117 hv29
   try replace hv33 := Kd.reps_mono hle117 hv33
   try replace hv37 := Kd.reps_mono hle117 hv37
   have hle118 := hle42.trans hle117
   have hle119 := hle41.trans hle117
   have z120 := hs115.size
   unfold big at z120
   refine tx_retireV (k := kRoleIncl) (l := q) 2 rfl hv29 rfl (by (unfold big; omega)) fun R122 hle123 hs121 => ?_
   try replace hs_z15_0_0 := hs_z15_0_0.mono hle123
   try replace hs_z15_0_1 := hs_z15_0_1.mono hle123
   try replace hs_z15_0_2 := hs_z15_0_2.mono hle123
   try replace hv33 := Kd.reps_mono hle123 hv33
   try replace hv37 := Kd.reps_mono hle123 hv37
   try replace hs115 := hs115.mono hle123
   have hle124 := hle118.trans hle123
   have hle125 := hle119.trans hle123
   have hle126 := hle117.trans hle123
   have z127 := hs121.size
   unfold big at z127
   refine tx_retireV (k := kFact) (l := u) 1 rfl hv33 rfl (by (unfold big; omega)) fun R129 hle130 hs128 => ?_
   try replace hs_z15_0_0 := hs_z15_0_0.mono hle130
   try replace hs_z15_0_1 := hs_z15_0_1.mono hle130
   try replace hs_z15_0_2 := hs_z15_0_2.mono hle130
   try replace hv37 := Kd.reps_mono hle130 hv37
   try replace hs115 := hs115.mono hle130
   try replace hs121 := hs121.mono hle130
   have hle131 := hle124.trans hle130
   have hle132 := hle125.trans hle130
   have hle133 := hle126.trans hle130
   have hle134 := hle123.trans hle130
   have z135 := hs128.size
   unfold big at z135
   refine tx_retireV (k := kLink) (l := v) 0 rfl hv37 rfl (by (unfold big; omega)) fun R137 hle138 hs136 => ?_
   try replace hs_z15_0_0 := hs_z15_0_0.mono hle138
   try replace hs_z15_0_1 := hs_z15_0_1.mono hle138
   try replace hs_z15_0_2 := hs_z15_0_2.mono hle138
   try replace hs115 := hs115.mono hle138
   try replace hs121 := hs121.mono hle138
   try replace hs128 := hs128.mono hle138
   have hle139 := hle131.trans hle138
   have hle140 := hle132.trans hle138
   have hle141 := hle133.trans hle138
   have hle142 := hle134.trans hle138
   have hle143 := hle130.trans hle138
   have z144 := hs136.size
   unfold big at z144
   refine tx_retc (cells := [.slice A_z15_0_0 n.concepts.length d_z15_0_0, .slice A_z15_0_1 n.roles.length d_z15_0_1, .slice A_z15_0_2 n.inds.length d_z15_0_2, .slice A_p p.length c_p, .slice A_q q.length c_q, .slice A_u u.length c_u, .slice A_v v.length c_v]) 1 (.inl rfl) rfl rfl ld30 rfl ?_
   have e145 : ((Base.mk (Names.mk n.concepts n.roles n.inds) p q u v) : Base) = ofB n l := by (rw [hi2, hi3, hi4, hi5, take_all (l := l) (by assumption) (by assumption)]; rfl)
   intro w hw
   exact ⟨_, _, [], rfl, hle139, hw.drop 3, ([.slice A_z15_0_0 n.concepts.length d_z15_0_0, .slice A_z15_0_1 n.roles.length d_z15_0_1, .slice A_z15_0_2 n.inds.length d_z15_0_2, .slice A_p p.length c_p, .slice A_q q.length c_q, .slice A_u u.length c_u, .slice A_v v.length c_v]), rfl, rfl, (Eq.mp (congrArg (fun z => kBase.rep R137 z [.slice A_z15_0_0 n.concepts.length d_z15_0_0, .slice A_z15_0_1 n.roles.length d_z15_0_1, .slice A_z15_0_2 n.inds.length d_z15_0_2, .slice A_p p.length c_p, .slice A_q q.length c_q, .slice A_u u.length c_u, .slice A_v v.length c_v]) e145) ⟨[.slice A_z15_0_0 n.concepts.length d_z15_0_0, .slice A_z15_0_1 n.roles.length d_z15_0_1, .slice A_z15_0_2 n.inds.length d_z15_0_2], _, _, _, _, _, _, _, _, rfl, ⟨_, _, _, _, _, _, rfl, hs_z15_0_0, hs_z15_0_1, hs_z15_0_2⟩, hs115, hs121, hs128, hs136⟩)⟩

def pickA (b : Base) (ks : List Int) : List Ax := ks.filterMap fun k => (allA b)[k.toNat]?
def pickB (b : Base) (ks : List Int) : Base := ofB b.names (pickA b ks)
theorem pickA_take {b : Base} {l : List Int} {i : Nat} {k : Int} {x : Ax} (h : l[i]? = some k) (hx : (allA b)[k.toNat]? = some x) : pickA b (l.take (i + 1)) = pickA b (l.take i) ++ [x] := by
  rw [take_succ_at h]; simp [pickA, hx]
theorem pickA_len (b : Base) (l : List Int) (i : Nat) : (pickA b (l.take i)).length ≤ i := by
  have h := List.length_filterMap_le (fun k => (allA b)[k.toNat]?) (l.take i)
  rw [List.length_take] at h; unfold pickA; omega
theorem pickA_mem {b : Base} {l : List Int} {x : Ax} (h : x ∈ pickA b l) : x ∈ allA b := by
  unfold pickA at h
  obtain ⟨k, -, hk⟩ := List.mem_filterMap.1 h
  exact List.mem_of_getElem? hk
theorem BaseOk.small {b : Base} (h : BaseOk b) : ∀ x ∈ allA b, axSmall x := by
  intro x hx
  simp only [allA, List.mem_append, List.mem_map] at hx
  rcases hx with ((⟨y, hy, rfl⟩ | ⟨y, hy, rfl⟩) | ⟨y, hy, rfl⟩) | ⟨y, hy, rfl⟩
  · obtain ⟨i, hi⟩ := List.mem_iff_getElem?.1 hy
    have h1 := (h.concepts _ (mem_concepts_incl hi).1).1
    have h2 := (h.concepts _ (mem_concepts_incl hi).2).1
    exact ⟨by omega, by omega⟩
  · trivial
  · obtain ⟨i, hi⟩ := List.mem_iff_getElem?.1 hy
    have h1 := (h.concepts _ (mem_concepts_fact hi)).1
    show nodesC y.con ≤ 1000
    omega
  · trivial
theorem BaseOk.namesLen {b : Base} (h : BaseOk b) : b.names.concepts.length ≤ 16 ∧ b.names.roles.length ≤ 6 ∧ b.names.inds.length ≤ 10 := by
  have := h.names
  unfold namesB at this
  rw [decide_eq_true_eq] at this
  exact ⟨this.1, this.2.1, this.2.2.1⟩

set_option maxRecDepth 20000 in
set_option maxHeartbeats 8000000 in
theorem kb_Pick_ok {R : RO} {G : List Res} {w : World} {c_b : List Value} (b : Base) {A_l : Option Addr} {d_l : Nat} (l : List (Int)) (hr_b : kBase.rep R b c_b) (hs_l : SlAt kInt R A_l l) (hB : BaseOk b) (hl : l.length ≤ 100 ∧ ∀ k ∈ l, 0 ≤ k ∧ k < axiomsN b) (hw : Own w R (G)) :
    Calls Tryz.prog 74 [.agg c_b.toArray, .slice A_l l.length d_l].toArray w (RetO R G (fun v_ R' L_ => ∃ (cs_0 : List Value), v_ = (.agg cs_0.toArray : Value) ∧ L_ = ([] : List Res) ∧ kBase.rep R' (pickB b l) cs_0)) := by
  obtain ⟨c1, A3, d4, A6, d7, A9, d10, A12, d13, rfl, hr2, hs5, hs8, hs11, hs14⟩ := id hr_b
  have z27 := hs5.size
  unfold big at z27
  have z28 := hs8.size
  unfold big at z28
  have z29 := hs11.size
  unfold big at z29
  have z30 := hs14.size
  unfold big at z30
  obtain ⟨A15, d16, A19, d20, A23, d24, rfl, hs17, hs21, hs25⟩ := id hr2
  have z18 := hs17.size
  unfold big at z18
  have z22 := hs21.size
  unfold big at z22
  have z26 := hs25.size
  unfold big at z26
  have hz_l := hs_l.size
  unfold big at hz_l
  have hcnt := hB.count
  have haln := allA_len b
  refine fn_enter (vs := [.agg #[.slice A15 b.names.concepts.length d16, .slice A19 b.names.roles.length d20, .slice A23 b.names.inds.length d24, .slice A3 b.incls.length d4, .slice A6 b.roles.length d7, .slice A9 b.facts.length d10, .slice A12 b.links.length d13], .slice A_l l.length d_l]) Tryz.func74 rfl rfl rfl ?_ hw
  refine tc_seq <| tc_region ?_
  refine tl_box_agg (l := [.slice A15 b.names.concepts.length d16, .slice A19 b.names.roles.length d20, .slice A23 b.names.inds.length d24, .slice A3 b.incls.length d4, .slice A6 b.roles.length d7, .slice A9 b.facts.length d10, .slice A12 b.links.length d13]) rfl rfl fun b31 => ?_
  refine tl_alloc zc30 rfl fun b32 => ?_
  refine tl_nil <| tx_then <| tc_seq <| tc_region ?_
  refine tl (v_ld_agg 1 [.slice A15 b.names.concepts.length d16, .slice A19 b.names.roles.length d20, .slice A23 b.names.inds.length d24, .slice A3 b.incls.length d4, .slice A6 b.roles.length d7, .slice A9 b.facts.length d10, .slice A12 b.links.length d13] rfl ld30 rfl rfl) ?_
  refine tl_callo ca95 rfl (fun w hw => kb_All_ok b hr_b (by omega) hw) rfl ?_
  rintro _ R34 _ hle35 ⟨A_z33_0, d_z33_0, rfl, rfl, hs_z33_0⟩
  try replace hr2 := kNames.mono _ _ _ _ hle35 hr2
  try replace hs_l := hs_l.mono hle35
  have z36 := hs_z33_0.size
  unfold big at z36
  refine tl (v_assign rfl) ?_
  refine tl_nil <| tx_then <| tc_seq <| tc_region ?_
  refine tl (v_assign rfl) ?_
  refine tl_nil <| tx_then <| tc_seq <| tc_seq <| tc_region ?_
  refine tl (v_move rfl) ?_
  refine tl (v_len rfl sl31) ?_
  refine tl (v_move rfl) ?_
  refine tl_nil <| tx_then <| tc_block ?_
  refine tc_G _ (fun w hw => hw.vecnil 149 1) ?_
  have hv37 : (kAx).reps R34 [] [] := rfl
  refine tc_loop ?_
  refine th_loopS (fun b_ : Nat × List (Ax) × Option Addr × Nat × List Value => match b_ with | (i, acc, A_acc, c_acc, l_acc) => l.length - i) (fun b_ : Nat × List (Ax) × Option Addr × Nat × List Value => match b_ with | (i, acc, A_acc, c_acc, l_acc) => [(2, .pointer (some ⟨b31, 0, none⟩)), (4, .pointer (some ⟨b32, 0, none⟩)), (5, .slice A_z33_0 ((allA b).length) d_z33_0), (11, .slice A_l l.length d_l), (12, .int .i64 (l.length : Int)), (13, .int .i64 (i : Int)), (6, .slice A_acc acc.length c_acc)]) (fun b_ : Nat × List (Ax) × Option Addr × Nat × List Value => match b_ with | (i, acc, A_acc, c_acc, l_acc) => (.vec (.slice A_acc acc.length c_acc) acc.length 149 1 l_acc :: .blk b32 [.slice none 0 0, .slice none 0 0, .slice none 0 0, .slice none 0 0, .slice none 0 0, .slice none 0 0, .slice none 0 0] 30 :: .blk b31 [.slice A15 b.names.concepts.length d16, .slice A19 b.names.roles.length d20, .slice A23 b.names.inds.length d24, .slice A3 b.incls.length d4, .slice A6 b.roles.length d7, .slice A9 b.facts.length d10, .slice A12 b.links.length d13] 30 :: G)) (fun (b_ : Nat × List (Ax) × Option Addr × Nat × List Value) => match b_ with | (i, acc, A_acc, c_acc, l_acc) => (kAx).reps R34 acc l_acc ∧ (i ≤ l.length ∧ acc = pickA b (l.take i))) (0, ([] : List (Ax)), none, 0, []) ⟨rfl, rfl, rfl, rfl, rfl, rfl, rfl, trivial⟩ (by refine ⟨hv37, ?_⟩; exact ⟨by omega, rfl⟩) (fun w hw => hw) ?_
  rintro ⟨i, acc, A_acc, c_acc, l_acc⟩ hI41 ih42
  show TC Tryz.prog _ _ _ [] [(2, .pointer (some ⟨b31, 0, none⟩)), (4, .pointer (some ⟨b32, 0, none⟩)), (5, .slice A_z33_0 ((allA b).length) d_z33_0), (11, .slice A_l l.length d_l), (12, .int .i64 (l.length : Int)), (13, .int .i64 (i : Int)), (6, .slice A_acc acc.length c_acc)] R34 (.vec (.slice A_acc acc.length c_acc) acc.length 149 1 l_acc :: .blk b32 [.slice none 0 0, .slice none 0 0, .slice none 0 0, .slice none 0 0, .slice none 0 0, .slice none 0 0, .slice none 0 0] 30 :: .blk b31 [.slice A15 b.names.concepts.length d16, .slice A19 b.names.roles.length d20, .slice A23 b.names.inds.length d24, .slice A3 b.incls.length d4, .slice A6 b.roles.length d7, .slice A9 b.facts.length d10, .slice A12 b.links.length d13] 30 :: G)
  obtain ⟨hv40, hI45⟩ := hI41
  obtain ⟨hi1, hi2⟩ := hI45
  have hpl := pickA_len b l i
  rw [← hi2] at hpl
  refine tc_seq <| tc_region ?_
  refine tl (v_ib rfl rfl rfl) ?_
  refine tl_nil <| tx_then <| tc_seq ?_
  refine tc_split 14 rfl (fun h46 => ?_) (fun h46 => ?_)
  ·
   refine tc_yes rfl ?_
   refine tc_skip <| tx_then <| tc_seq <| tc_block <| tc_seq <| tc_region ?_
   have hb52 : i < l.length := by omega
   obtain ⟨x47, hx48⟩ : ∃ x, l[i]? = some x := ⟨_, List.getElem?_eq_getElem hb52⟩
   obtain ⟨c49, hr50, ha51⟩ := hs_l.get _ x47 hx48
   obtain ⟨rfl, i53⟩ := hr50
   unfold i64 at i53
   have hf54 := hl.2 _ (List.mem_of_getElem? hx48)
   refine tl (v_idxS (i := i) hs_l rfl rfl rfl sl31 hb52) ?_
   refine tl (v_ldA 0 ha51 rfl ld3 rfl rfl) ?_
   refine tl (v_assign rfl) ?_
   refine tl_nil <| tx_then <| tc_region ?_
   refine tl (v_move rfl) ?_
   refine tl (v_move rfl) ?_
   refine tl (v_move rfl) ?_
   have hb60 : 0 ≤ x47 ∧ (x47).toNat < (allA b).length := by omega
   obtain ⟨x55, hx56⟩ : ∃ x, (allA b)[(x47).toNat]? = some x := ⟨_, List.getElem?_eq_getElem hb60.2⟩
   obtain ⟨c57, hr58, ha59⟩ := hs_z33_0.get _ x55 hx56
   obtain ⟨t61, v62, rfl, hr58_⟩ := kAx_open hr58
   refine tl (v_idxI hs_z33_0 rfl rfl rfl sl146 hb60.1 hb60.2) ?_
   refine tl (v_ldA 0 ha59 rfl ld149 rfl rfl) ?_
   refine tl_bslice [.iface t61 v62] ap146 rfl rfl rfl rfl rfl rfl rfl fun b63 => ?_
   refine tl_app (k := kAx) (e := x55) 1 0 hv40 (id hr58_) ap146 rfl rfl rfl rfl rfl (by omega) rfl rfl fun A64 c65 l66 hv67 => ?_
   refine tl (v_assign rfl) ?_
   refine tl_nil <| tx_blk <| tx_then <| tc_region ?_
   refine tl (v_add rfl rfl (by omega) (by omega)) ?_
   refine tl (v_move rfl) ?_
   refine tl_nil ?_
   refine tx_round ?_
   exact fun a w ha hw => ih42.out (i + 1, (acc ++ [x55]), A64, c65, l66) (by refine ⟨hv67, ?_⟩; exact ⟨by omega, by rw [hi2, pickA_take hx48 hx56]⟩) (by (try dsimp only); omega) a w (ha.sub (lkAll_lk ⟨rfl, rfl, rfl, rfl, rfl, rfl, rfl, trivial⟩)) (hw.drop 1)
  ·
   refine tc_no rfl ?_
   refine tc_exit <| tx_then_exit <| tx_then_exit <| tx_blk_exit <| tx_then <| tc_seq <| tc_region ?_
   refine tl (v_fieldAddr 0 rfl fo30_0 rfl) ?_
   refine tl (v_ld_agg 2 [.slice A15 b.names.concepts.length d16, .slice A19 b.names.roles.length d20, .slice A23 b.names.inds.length d24] rfl ld24 rfl rfl) ?_
   refine tl (v_move rfl) ?_
   refine tl_retireV (k := kAx) (l := acc) 0 rfl hv40 rfl (by (unfold big; omega)) fun R70 hle71 hs69 => ?_
   try replace hr2 := kNames.mono _ _ _ _ hle71 hr2
   have hle72 := hle35.trans hle71
   have z73 := hs69.size
   unfold big at z73
   refine tl_callo ca96 rfl (fun w hw => kb_Of_ok b.names acc hr2 hs69 (by first | (have := hB.namesLen; refine ⟨?_, by omega, by omega, by omega⟩; omega) | (intro x_ hx_; rw [hi2] at hx_; exact hB.small _ (pickA_mem hx_))) (by first | (have := hB.namesLen; refine ⟨?_, by omega, by omega, by omega⟩; omega) | (intro x_ hx_; rw [hi2] at hx_; exact hB.small _ (pickA_mem hx_))) hw) rfl ?_
   rintro _ R75 _ hle76 ⟨cs_z74_0, rfl, rfl, hr_z74_0⟩
   have hle77 := hle72.trans hle76
   have hle78 := hle71.trans hle76
   obtain ⟨c79, A81, d82, A84, d85, A87, d88, A90, d91, rfl, hr80, hs83, hs86, hs89, hs92⟩ := id hr_z74_0
   have z105 := hs83.size
   unfold big at z105
   have z106 := hs86.size
   unfold big at z106
   have z107 := hs89.size
   unfold big at z107
   have z108 := hs92.size
   unfold big at z108
   obtain ⟨A93, d94, A97, d98, A101, d102, rfl, hs95, hs99, hs103⟩ := id hr80
   have z96 := hs95.size
   unfold big at z96
   have z100 := hs99.size
   unfold big at z100
   have z104 := hs103.size
   unfold big at z104
   refine tl_st 0 [.slice A93 ((((ofB b.names acc).names).concepts).length) d94, .slice A97 ((((ofB b.names acc).names).roles).length) d98, .slice A101 ((((ofB b.names acc).names).inds).length) d102, .slice A81 (((ofB b.names acc).incls).length) d82, .slice A84 (((ofB b.names acc).roles).length) d85, .slice A87 (((ofB b.names acc).facts).length) d88, .slice A90 (((ofB b.names acc).links).length) d91] rfl rfl ld30 rfl rfl rfl rfl rfl rfl ?_
   refine tl_nil <| tx_then <| tc_ret ?_
   refine tx_retc (cells := [.slice A93 ((((ofB b.names acc).names).concepts).length) d94, .slice A97 ((((ofB b.names acc).names).roles).length) d98, .slice A101 ((((ofB b.names acc).names).inds).length) d102, .slice A81 (((ofB b.names acc).incls).length) d82, .slice A84 (((ofB b.names acc).roles).length) d85, .slice A87 (((ofB b.names acc).facts).length) d88, .slice A90 (((ofB b.names acc).links).length) d91]) 0 (.inl rfl) rfl rfl ld30 rfl ?_
   have e109 : ((ofB b.names acc) : Base) = pickB b l := by (rw [hi2, take_all (l := l) (by assumption) (by assumption)]; rfl)
   intro w hw
   exact ⟨_, _, [], rfl, hle77, hw.drop 2, ([.slice A93 ((((ofB b.names acc).names).concepts).length) d94, .slice A97 ((((ofB b.names acc).names).roles).length) d98, .slice A101 ((((ofB b.names acc).names).inds).length) d102, .slice A81 (((ofB b.names acc).incls).length) d82, .slice A84 (((ofB b.names acc).roles).length) d85, .slice A87 (((ofB b.names acc).facts).length) d88, .slice A90 (((ofB b.names acc).links).length) d91]), rfl, rfl, (Eq.mp (congrArg (fun z => kBase.rep R75 z [.slice A93 ((((ofB b.names acc).names).concepts).length) d94, .slice A97 ((((ofB b.names acc).names).roles).length) d98, .slice A101 ((((ofB b.names acc).names).inds).length) d102, .slice A81 (((ofB b.names acc).incls).length) d82, .slice A84 (((ofB b.names acc).roles).length) d85, .slice A87 (((ofB b.names acc).facts).length) d88, .slice A90 (((ofB b.names acc).links).length) d91]) e109) hr_z74_0)⟩

end Go.Proofs.YtcbcdlajnmkioaaGreatDoor
