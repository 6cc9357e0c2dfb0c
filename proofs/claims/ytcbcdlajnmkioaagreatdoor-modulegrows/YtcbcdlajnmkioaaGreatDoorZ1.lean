/- A part of the proof of the statement ModuleGrows of isagogelaw19: functions walked, and plain laws on what they answer. -/
import Derived.Test.YtcbcdlajnmkioaaGreatDoorZ
namespace Go.Proofs.YtcbcdlajnmkioaaGreatDoor
open Go Go.Proofs
set_option linter.unusedSimpArgs false
set_option linter.unusedVariables false
theorem ca55 : Callable Tryz.prog 55 := ⟨by kernel_rfl⟩
theorem fo101_0 : fieldOff Tryz.prog 101 0 = some 0 := by kernel_rfl
theorem fo101_1 : fieldOff Tryz.prog 101 1 = some 1 := by kernel_rfl
theorem fo101_2 : fieldOff Tryz.prog 101 2 = some 2 := by kernel_rfl
theorem fo112_0 : fieldOff Tryz.prog 112 0 = some 0 := by kernel_rfl
theorem fo112_1 : fieldOff Tryz.prog 112 1 = some 1 := by kernel_rfl
theorem ld101 : ldInfo Tryz.prog 101 = some (true, 4) := by kernel_rfl
theorem ld97 : ldInfo Tryz.prog 97 = some (false, 1) := by kernel_rfl

/-- What one of the judge's functions does with a concept. -/
def JOk (f : Nat) (c : Concept) : Prop := ∀ {R : RO} {G : List Res} {w : World} (t : Bool) (a r : List Int) {ba br bh : Nat} {cs : List Value}, Res.set keyI ba a ∈ G → Res.set keyI br r ∈ G → R.at bh 0 howL → kConcept.rep R c cs → Own w R G →
  Calls Tryz.prog f [.agg #[.iface (outT t) (.agg #[]), .map (some ba), .map (some br), .pointer (some ⟨bh, 0, none⟩)], .agg cs.toArray].toArray w (Gives R G (.agg #[.bool (shapeC ⟨a, r⟩ t c).1, .bool (shapeC ⟨a, r⟩ t c).2]))
structure OfArgs (c : Concept) : Prop where
  of : ∀ d ∈ c.args, JOk 55 d
theorem outB_eq {a r : List Int} {op n : Int} : outB ⟨a, r⟩ op n = decide ((op = 6 ∨ op = 7) ∧ ¬ n / 2 ∈ r) := rfl
theorem shE_at {s : Sig} {t : Bool} {l : List Concept} {i : Nat} {x : Concept} (h : l[i]? = some x) : shE (shapeCs s t l) i = (shapeC s t x).1 ∧ shF (shapeCs s t l) i = (shapeC s t x).2 := by
  have : (shapeCs s t l)[i]? = some (shapeC s t x) := by
    induction l generalizing i with
    | nil => simp at h
    | cons y ys ih =>
      cases i with
      | zero => simp at h; subst h; rfl
      | succ i => simpa [shapeCs] using ih (by simpa using h)
  unfold shE shF; rw [this]; exact ⟨rfl, rfl⟩
theorem wf_n {c : Concept} (h : wfC c = true) : 0 ≤ c.n := ((wfC_iff c).1 h).1.2

set_option maxRecDepth 20000 in
set_option maxHeartbeats 8000000 in
theorem module_judge_name_ok {R : RO} {G : List Res} {w : World} (j_t : Bool) (j_a j_r : List Int) {b_j_a b_j_r b_j_h : Nat} {c_c : List Value} (c : Concept) (hm_j_a : Res.set keyI b_j_a j_a ∈ G) (hm_j_r : Res.set keyI b_j_r j_r ∈ G) (hh_j : R.at b_j_h 0 howL) (hr_c : kConcept.rep R c c_c) (hw_ : wfC c = true) (hop : c.op = 0) (hO : OfArgs c) (hw : Own w R (G)) :
    Calls Tryz.prog 85 [.agg #[.iface (outT j_t) (.agg #[]), .map (some b_j_a), .map (some b_j_r), .pointer (some ⟨b_j_h, 0, none⟩)], .agg c_c.toArray].toArray w (Gives R G (.agg #[.bool (shapeC (Sig.mk j_a j_r) j_t c).1, .bool (shapeC (Sig.mk j_a j_r) j_t c).2])) := by
  obtain ⟨A1, d2, rfl, i3, i4, hs5⟩ := kConcept_open hr_c
  unfold i64 at i3 i4
  have z6 := hs5.size
  unfold big at z6
  have hwf := (wfC_iff c).1 hw_
  have har := hwf.1.1
  unfold arityB at har
  have hn0 := hwf.1.2
  refine fn_enter (vs := [.agg #[.iface (outT j_t) (.agg #[]), .map (some b_j_a), .map (some b_j_r), .pointer (some ⟨b_j_h, 0, none⟩)], .agg #[.int .i64 c.op, .int .i64 c.n, .slice A1 c.args.length d2]]) Tryz.func85 rfl rfl rfl ?_ hw
  refine tc_seq <| tc_region ?_
  refine tl_box_agg (l := [.iface (outT j_t) (.agg #[]), .map (some b_j_a), .map (some b_j_r), .pointer (some ⟨b_j_h, 0, none⟩)]) rfl rfl fun b7 => ?_
  refine tl_box_agg (l := [.int .i64 c.op, .int .i64 c.n, .slice A1 c.args.length d2]) rfl rfl fun b8 => ?_
  refine tl_alloc zc112 rfl fun b9 => ?_
  refine tl_nil <| tx_then <| tc_seq <| tc_seq <| tc_region ?_
  refine tl (v_fieldAddr 1 rfl fo101_1 rfl) ?_
  refine tl (v_ld 2 rfl ld98 rfl rfl) ?_
  refine tl (v_fieldAddr 1 rfl fo37_1 rfl) ?_
  refine tl (v_ld 1 rfl ld3 rfl rfl) ?_
  refine tl (mem_lookup (K := keyI) (ks := j_a) (k := c.n) mi98 (.tail _ (.tail _ (.tail _ (hm_j_a)))) rfl rfl) ?_
  refine tl_nil <| tx_then ?_
  refine tc_split 9 rfl (fun h10 => ?_) (fun h10 => ?_)
  ·
   refine tc_yes rfl ?_
   refine tc_seq <| tc_region ?_
   refine tl (v_build [.bool false, .bool false] zc112 pl112 rfl rfl) ?_
   refine tl_st 0 [.bool false, .bool false] rfl rfl ld112 rfl rfl rfl rfl rfl rfl ?_
   refine tl_nil <| tx_then <| tc_ret <| tx_then_ret ?_
   refine tx_retc (cells := [.bool false, .bool false]) 0 (.inl rfl) rfl rfl ld112 rfl ?_
   have e11 : ((false, false) : Bool × Bool) = shapeC (Sig.mk j_a j_r) j_t c := by (rw [shapeC_eq (Sig.mk j_a j_r) j_t c, hop]; show _ = (((!decide (c.n ∈ j_a)) && !j_t, (!decide (c.n ∈ j_a)) && j_t) : Bool × Bool); (first | rfl | (cases j_t <;> grind [outB_eq]) | (rw [Prod.mk.injEq]; constructor <;> cases j_t <;> grind [outB_eq])))
   exact fun w hw => ⟨congrArg (fun (z : Bool × Bool) => Ending.returned (Value.agg #[.bool z.1, .bool z.2])) e11, hw.drop 3⟩
  ·
   refine tc_no rfl ?_
   refine tc_skip <| tx_then <| tc_seq ?_
   refine tc_draw R (.blk b9 [.bool false, .bool false] 112 :: .blk b8 [.int .i64 c.op, .int .i64 c.n, .slice A1 c.args.length d2] 37 :: .blk b7 [.iface (outT j_t) (.agg #[]), .map (some b_j_a), .map (some b_j_r), .pointer (some ⟨b_j_h, 0, none⟩)] 101 :: G) 8 mixed ?_
   refine td 0 rfl (by kernel_rfl) (v_fieldAddr 0 rfl fo101_0 rfl) (fun w hw => hw) ?_
   refine td 1 rfl (by kernel_rfl) (v_ld 2 rfl ld97 rfl rfl) (fun w hw => hw) ?_
   refine td 3 rfl (by kernel_rfl) (v_fieldAddr 0 rfl fo101_0 rfl) (fun w hw => hw) ?_
   refine td 4 rfl (by kernel_rfl) (v_ld 2 rfl ld97 rfl rfl) (fun w hw => hw) ?_
   refine td1 2 (by kernel_rfl) rfl ?_
   refine tl_callvG (goes_inv (mr_empty j_t) (ca_empty j_t) rfl rfl) (fun w hw => out_empty_ok j_t  hw) rfl ?_
   refine tl_nil ?_
   refine tx_td (fun w hw => hw) ?_
   refine td1 5 (by kernel_rfl) rfl ?_
   refine tl_callvG (goes_inv (mr_empty j_t) (ca_empty j_t) rfl rfl) (fun w hw => out_empty_ok j_t  hw) rfl ?_
   refine tl_nil ?_
   refine tx_td (fun w hw => hw) ?_
   refine td 6 rfl (by kernel_rfl) (v_neg rfl) (fun w hw => hw) ?_
   refine td 7 rfl (by kernel_rfl) (v_build [.bool (!j_t), .bool (!(!j_t))] zc112 pl112 rfl rfl) (fun w hw => hw) ?_
   refine td1 8 (by kernel_rfl) rfl ?_
   refine tl_st 0 [.bool (!j_t), .bool (!(!j_t))] rfl rfl ld112 rfl rfl rfl rfl rfl rfl ?_
   refine tl_nil ?_
   refine tx_tdz ?_
   refine td_done (by kernel_rfl) ?_
   refine tx_then <| tc_ret ?_
   refine tx_retc (cells := [.bool (!j_t), .bool (!(!j_t))]) 0 (.inl rfl) rfl rfl ld112 rfl ?_
   have e12 : ((!j_t, !(!j_t)) : Bool × Bool) = shapeC (Sig.mk j_a j_r) j_t c := by (rw [shapeC_eq (Sig.mk j_a j_r) j_t c, hop]; show _ = (((!decide (c.n ∈ j_a)) && !j_t, (!decide (c.n ∈ j_a)) && j_t) : Bool × Bool); (first | rfl | (cases j_t <;> grind [outB_eq]) | (rw [Prod.mk.injEq]; constructor <;> cases j_t <;> grind [outB_eq])))
   exact fun w hw => ⟨congrArg (fun (z : Bool × Bool) => Ending.returned (Value.agg #[.bool z.1, .bool z.2])) e12, hw.drop 3⟩

set_option maxRecDepth 20000 in
set_option maxHeartbeats 8000000 in
theorem module_judge_top_ok {R : RO} {G : List Res} {w : World} (j_t : Bool) (j_a j_r : List Int) {b_j_a b_j_r b_j_h : Nat} {c_c : List Value} (c : Concept) (hm_j_a : Res.set keyI b_j_a j_a ∈ G) (hm_j_r : Res.set keyI b_j_r j_r ∈ G) (hh_j : R.at b_j_h 0 howL) (hr_c : kConcept.rep R c c_c) (hw_ : wfC c = true) (hop : c.op = 1) (hO : OfArgs c) (hw : Own w R (G)) :
    Calls Tryz.prog 86 [.agg #[.iface (outT j_t) (.agg #[]), .map (some b_j_a), .map (some b_j_r), .pointer (some ⟨b_j_h, 0, none⟩)], .agg c_c.toArray].toArray w (Gives R G (.agg #[.bool (shapeC (Sig.mk j_a j_r) j_t c).1, .bool (shapeC (Sig.mk j_a j_r) j_t c).2])) := by
  obtain ⟨A1, d2, rfl, i3, i4, hs5⟩ := kConcept_open hr_c
  unfold i64 at i3 i4
  have z6 := hs5.size
  unfold big at z6
  have hwf := (wfC_iff c).1 hw_
  have har := hwf.1.1
  unfold arityB at har
  have hn0 := hwf.1.2
  refine fn_enter (vs := [.agg #[.iface (outT j_t) (.agg #[]), .map (some b_j_a), .map (some b_j_r), .pointer (some ⟨b_j_h, 0, none⟩)], .agg #[.int .i64 c.op, .int .i64 c.n, .slice A1 c.args.length d2]]) Tryz.func86 rfl rfl rfl ?_ hw
  refine tc_seq <| tc_region ?_
  refine tl_box_agg (l := [.iface (outT j_t) (.agg #[]), .map (some b_j_a), .map (some b_j_r), .pointer (some ⟨b_j_h, 0, none⟩)]) rfl rfl fun b7 => ?_
  refine tl_box_agg (l := [.int .i64 c.op, .int .i64 c.n, .slice A1 c.args.length d2]) rfl rfl fun b8 => ?_
  refine tl_alloc zc112 rfl fun b9 => ?_
  refine tl_nil <| tx_then <| tc_seq <| tc_region ?_
  refine tl (v_build [.bool false, .bool true] zc112 pl112 rfl rfl) ?_
  refine tl_st 0 [.bool false, .bool true] rfl rfl ld112 rfl rfl rfl rfl rfl rfl ?_
  refine tl_nil <| tx_then <| tc_ret ?_
  refine tx_retc (cells := [.bool false, .bool true]) 0 (.inl rfl) rfl rfl ld112 rfl ?_
  have e10 : ((false, true) : Bool × Bool) = shapeC (Sig.mk j_a j_r) j_t c := by (rw [shapeC_eq (Sig.mk j_a j_r) j_t c, hop]; show _ = ((false, true) : Bool × Bool); (first | rfl | (cases j_t <;> grind [outB_eq]) | (rw [Prod.mk.injEq]; constructor <;> cases j_t <;> grind [outB_eq])))
  exact fun w hw => ⟨congrArg (fun (z : Bool × Bool) => Ending.returned (Value.agg #[.bool z.1, .bool z.2])) e10, hw.drop 3⟩

set_option maxRecDepth 20000 in
set_option maxHeartbeats 8000000 in
theorem module_judge_bot_ok {R : RO} {G : List Res} {w : World} (j_t : Bool) (j_a j_r : List Int) {b_j_a b_j_r b_j_h : Nat} {c_c : List Value} (c : Concept) (hm_j_a : Res.set keyI b_j_a j_a ∈ G) (hm_j_r : Res.set keyI b_j_r j_r ∈ G) (hh_j : R.at b_j_h 0 howL) (hr_c : kConcept.rep R c c_c) (hw_ : wfC c = true) (hop : c.op = 2) (hO : OfArgs c) (hw : Own w R (G)) :
    Calls Tryz.prog 87 [.agg #[.iface (outT j_t) (.agg #[]), .map (some b_j_a), .map (some b_j_r), .pointer (some ⟨b_j_h, 0, none⟩)], .agg c_c.toArray].toArray w (Gives R G (.agg #[.bool (shapeC (Sig.mk j_a j_r) j_t c).1, .bool (shapeC (Sig.mk j_a j_r) j_t c).2])) := by
  obtain ⟨A1, d2, rfl, i3, i4, hs5⟩ := kConcept_open hr_c
  unfold i64 at i3 i4
  have z6 := hs5.size
  unfold big at z6
  have hwf := (wfC_iff c).1 hw_
  have har := hwf.1.1
  unfold arityB at har
  have hn0 := hwf.1.2
  refine fn_enter (vs := [.agg #[.iface (outT j_t) (.agg #[]), .map (some b_j_a), .map (some b_j_r), .pointer (some ⟨b_j_h, 0, none⟩)], .agg #[.int .i64 c.op, .int .i64 c.n, .slice A1 c.args.length d2]]) Tryz.func87 rfl rfl rfl ?_ hw
  refine tc_seq <| tc_region ?_
  refine tl_box_agg (l := [.iface (outT j_t) (.agg #[]), .map (some b_j_a), .map (some b_j_r), .pointer (some ⟨b_j_h, 0, none⟩)]) rfl rfl fun b7 => ?_
  refine tl_box_agg (l := [.int .i64 c.op, .int .i64 c.n, .slice A1 c.args.length d2]) rfl rfl fun b8 => ?_
  refine tl_alloc zc112 rfl fun b9 => ?_
  refine tl_nil <| tx_then <| tc_seq <| tc_region ?_
  refine tl (v_build [.bool true, .bool false] zc112 pl112 rfl rfl) ?_
  refine tl_st 0 [.bool true, .bool false] rfl rfl ld112 rfl rfl rfl rfl rfl rfl ?_
  refine tl_nil <| tx_then <| tc_ret ?_
  refine tx_retc (cells := [.bool true, .bool false]) 0 (.inl rfl) rfl rfl ld112 rfl ?_
  have e10 : ((true, false) : Bool × Bool) = shapeC (Sig.mk j_a j_r) j_t c := by (rw [shapeC_eq (Sig.mk j_a j_r) j_t c, hop]; show _ = ((true, false) : Bool × Bool); (first | rfl | (cases j_t <;> grind [outB_eq]) | (rw [Prod.mk.injEq]; constructor <;> cases j_t <;> grind [outB_eq])))
  exact fun w hw => ⟨congrArg (fun (z : Bool × Bool) => Ending.returned (Value.agg #[.bool z.1, .bool z.2])) e10, hw.drop 3⟩

set_option maxRecDepth 20000 in
set_option maxHeartbeats 8000000 in
theorem module_judge_not_ok {R : RO} {G : List Res} {w : World} (j_t : Bool) (j_a j_r : List Int) {b_j_a b_j_r b_j_h : Nat} {c_c : List Value} (c : Concept) (hm_j_a : Res.set keyI b_j_a j_a ∈ G) (hm_j_r : Res.set keyI b_j_r j_r ∈ G) (hh_j : R.at b_j_h 0 howL) (hr_c : kConcept.rep R c c_c) (hw_ : wfC c = true) (hop : c.op = 3) (hO : OfArgs c) (hw : Own w R (G)) :
    Calls Tryz.prog 88 [.agg #[.iface (outT j_t) (.agg #[]), .map (some b_j_a), .map (some b_j_r), .pointer (some ⟨b_j_h, 0, none⟩)], .agg c_c.toArray].toArray w (Gives R G (.agg #[.bool (shapeC (Sig.mk j_a j_r) j_t c).1, .bool (shapeC (Sig.mk j_a j_r) j_t c).2])) := by
  obtain ⟨A1, d2, rfl, i3, i4, hs5⟩ := kConcept_open hr_c
  unfold i64 at i3 i4
  have z6 := hs5.size
  unfold big at z6
  have hwf := (wfC_iff c).1 hw_
  have har := hwf.1.1
  unfold arityB at har
  have hn0 := hwf.1.2
  have hb12 : 0 < c.args.length := by (rw [hop] at har; simp at har; omega)
  obtain ⟨x7, hx8⟩ : ∃ x, c.args[0]? = some x := ⟨_, List.getElem?_eq_getElem hb12⟩
  obtain ⟨c9, hr10, ha11⟩ := hs5.get _ x7 hx8
  obtain ⟨A13, d14, rfl, i15, i16, hs17⟩ := kConcept_open hr10
  unfold i64 at i15 i16
  have z18 := hs17.size
  unfold big at z18
  refine fn_enter (vs := [.agg #[.iface (outT j_t) (.agg #[]), .map (some b_j_a), .map (some b_j_r), .pointer (some ⟨b_j_h, 0, none⟩)], .agg #[.int .i64 c.op, .int .i64 c.n, .slice A1 c.args.length d2]]) Tryz.func88 rfl rfl rfl ?_ hw
  refine tc_seq <| tc_region ?_
  refine tl_box_agg (l := [.iface (outT j_t) (.agg #[]), .map (some b_j_a), .map (some b_j_r), .pointer (some ⟨b_j_h, 0, none⟩)]) rfl rfl fun b19 => ?_
  refine tl_box_agg (l := [.int .i64 c.op, .int .i64 c.n, .slice A1 c.args.length d2]) rfl rfl fun b20 => ?_
  refine tl_alloc zc112 rfl fun b21 => ?_
  refine tl_nil <| tx_then ?_
  refine tc_cutX (X := Nat) (fun (b22 : Nat) => [(4, .pointer (some ⟨b21, 0, none⟩)), (5, .pointer (some ⟨b22, 0, none⟩))]) (fun (b22 : Nat) => (.blk b22 [.bool ((shapeC (Sig.mk j_a j_r) j_t x7).1), .bool ((shapeC (Sig.mk j_a j_r) j_t x7).2)] 112 :: .blk b21 [.bool false, .bool false] 112 :: .blk b20 [.int .i64 c.op, .int .i64 c.n, .slice A1 c.args.length d2] 37 :: .blk b19 [.iface (outT j_t) (.agg #[]), .map (some b_j_a), .map (some b_j_r), .pointer (some ⟨b_j_h, 0, none⟩)] 101 :: G)) (fun (b22 : Nat) (R_ : RO) => True) (fun K hK23 hE24 => ?_) ?_
  ·
   refine tc_draw R (.blk b21 [.bool false, .bool false] 112 :: .blk b20 [.int .i64 c.op, .int .i64 c.n, .slice A1 c.args.length d2] 37 :: .blk b19 [.iface (outT j_t) (.agg #[]), .map (some b_j_a), .map (some b_j_r), .pointer (some ⟨b_j_h, 0, none⟩)] 101 :: G) 7 mixed ?_
   refine td 0 rfl (by kernel_rfl) (v_ld_agg 2 [.iface (outT j_t) (.agg #[]), .map (some b_j_a), .map (some b_j_r), .pointer (some ⟨b_j_h, 0, none⟩)] rfl ld101 rfl rfl) (fun w hw => hw) ?_
   refine td 1 rfl (by kernel_rfl) (v_fieldAddr 2 rfl fo37_2 rfl) (fun w hw => hw) ?_
   refine td 2 rfl (by kernel_rfl) (v_ld 1 rfl ld35 rfl rfl) (fun w hw => hw) ?_
   refine td 3 rfl (by kernel_rfl) (v_idxS (i := 0) hs5 rfl rfl rfl sl35 hb12) (fun w hw => hw) ?_
   refine td 4 rfl (by kernel_rfl) (v_ldA_agg 0 [.int .i64 x7.op, .int .i64 x7.n, .slice A13 x7.args.length d14] ha11 rfl ld37 rfl rfl) (fun w hw => hw) ?_
   refine td_all [5, 6] (by kernel_rfl) rfl ?_
   refine tds rfl ?_ ?_
   ·
    refine tl_callv ca55 rfl (fun w hw => hO.of _ (List.mem_of_getElem? hx8) j_t j_a j_r (.tail _ (.tail _ (.tail _ (hm_j_a)))) (.tail _ (.tail _ (.tail _ (hm_j_r)))) hh_j hr10 hw) rfl ?_
    refine tl_nil ?_
    refine tx_td (fun w hw => hw) ?_
    refine td1 6 (by kernel_rfl) rfl ?_
    refine tl_alloc zc112 rfl fun b25 => ?_
    refine tl_nil ?_
    refine tx_td (fun w hw => hw.drop 1) ?_
    refine td1 7 (by kernel_rfl) rfl ?_
    refine tl_st 0 [.bool ((shapeC (Sig.mk j_a j_r) j_t x7).1), .bool ((shapeC (Sig.mk j_a j_r) j_t x7).2)] rfl rfl ld112 rfl rfl rfl rfl rfl rfl ?_
    refine tl_nil ?_
    refine tx_tdz ?_
    refine td_done (by kernel_rfl) ?_
    exact tx_cutX hK23 (b25) (.refl _) (trivial) ⟨rfl, rfl, trivial⟩ (fun w hw => hw)
   refine tds rfl ?_ ?_
   ·
    refine tl_alloc zc112 rfl fun b26 => ?_
    refine tl_nil ?_
    refine tx_td (fun w hw => hw.drop 1) ?_
    refine td1 5 (by kernel_rfl) rfl ?_
    refine tl_callv ca55 rfl (fun w hw => hO.of _ (List.mem_of_getElem? hx8) j_t j_a j_r (.tail _ (.tail _ (.tail _ (.tail _ (hm_j_a))))) (.tail _ (.tail _ (.tail _ (.tail _ (hm_j_r))))) hh_j hr10 hw) rfl ?_
    refine tl_nil ?_
    refine tx_td (fun w hw => hw.drop 1) ?_
    refine td1 7 (by kernel_rfl) rfl ?_
    refine tl_st 0 [.bool ((shapeC (Sig.mk j_a j_r) j_t x7).1), .bool ((shapeC (Sig.mk j_a j_r) j_t x7).2)] rfl rfl ld112 rfl rfl rfl rfl rfl rfl ?_
    refine tl_nil ?_
    refine tx_tdz ?_
    refine td_done (by kernel_rfl) ?_
    exact tx_cutX hK23 (b26) (.refl _) (trivial) ⟨rfl, rfl, trivial⟩ (fun w hw => hw)
   exact tds_nil
  ·
   rintro b22 R28 hle29 hj27
   try replace hh_j := hh_j.mono hle29
   show TC Tryz.prog _ _ _ [] [(4, .pointer (some ⟨b21, 0, none⟩)), (5, .pointer (some ⟨b22, 0, none⟩))] R28 (.blk b22 [.bool ((shapeC (Sig.mk j_a j_r) j_t x7).1), .bool ((shapeC (Sig.mk j_a j_r) j_t x7).2)] 112 :: .blk b21 [.bool false, .bool false] 112 :: .blk b20 [.int .i64 c.op, .int .i64 c.n, .slice A1 c.args.length d2] 37 :: .blk b19 [.iface (outT j_t) (.agg #[]), .map (some b_j_a), .map (some b_j_r), .pointer (some ⟨b_j_h, 0, none⟩)] 101 :: G)
   refine tc_seq <| tc_region ?_
   refine tl (v_fieldAddr 1 rfl fo112_1 rfl) ?_
   refine tl (v_ld 0 rfl ld4 rfl rfl) ?_
   refine tl (v_fieldAddr 0 rfl fo112_0 rfl) ?_
   refine tl (v_ld 0 rfl ld4 rfl rfl) ?_
   refine tl (v_build [.bool ((shapeC (Sig.mk j_a j_r) j_t x7).2), .bool ((shapeC (Sig.mk j_a j_r) j_t x7).1)] zc112 pl112 rfl rfl) ?_
   refine tl_st 1 [.bool ((shapeC (Sig.mk j_a j_r) j_t x7).2), .bool ((shapeC (Sig.mk j_a j_r) j_t x7).1)] rfl rfl ld112 rfl rfl rfl rfl rfl rfl ?_
   refine tl_nil <| tx_then <| tc_ret ?_
   refine tx_retc (cells := [.bool ((shapeC (Sig.mk j_a j_r) j_t x7).2), .bool ((shapeC (Sig.mk j_a j_r) j_t x7).1)]) 1 (.inl rfl) rfl rfl ld112 rfl ?_
   have e30 : (((shapeC (Sig.mk j_a j_r) j_t x7).2, (shapeC (Sig.mk j_a j_r) j_t x7).1) : Bool × Bool) = shapeC (Sig.mk j_a j_r) j_t c := by (have p0_ := shE_at (s := Sig.mk j_a j_r) (t := j_t) hx8; rw [shapeC_eq (Sig.mk j_a j_r) j_t c, hop]; show _ = ((shF (shapeCs (Sig.mk j_a j_r) j_t c.args) 0, shE (shapeCs (Sig.mk j_a j_r) j_t c.args) 0) : Bool × Bool); rw [p0_.1, p0_.2] <;> (first | rfl | (cases j_t <;> grind [outB_eq]) | (rw [Prod.mk.injEq]; constructor <;> cases j_t <;> grind [outB_eq])))
   exact fun w hw => ⟨congrArg (fun (z : Bool × Bool) => Ending.returned (Value.agg #[.bool z.1, .bool z.2])) e30, (hw.drop 4).weaken hle29⟩

set_option maxRecDepth 20000 in
set_option maxHeartbeats 8000000 in
theorem module_judge_and_ok {R : RO} {G : List Res} {w : World} (j_t : Bool) (j_a j_r : List Int) {b_j_a b_j_r b_j_h : Nat} {c_c : List Value} (c : Concept) (hm_j_a : Res.set keyI b_j_a j_a ∈ G) (hm_j_r : Res.set keyI b_j_r j_r ∈ G) (hh_j : R.at b_j_h 0 howL) (hr_c : kConcept.rep R c c_c) (hw_ : wfC c = true) (hop : c.op = 4) (hO : OfArgs c) (hw : Own w R (G)) :
    Calls Tryz.prog 89 [.agg #[.iface (outT j_t) (.agg #[]), .map (some b_j_a), .map (some b_j_r), .pointer (some ⟨b_j_h, 0, none⟩)], .agg c_c.toArray].toArray w (Gives R G (.agg #[.bool (shapeC (Sig.mk j_a j_r) j_t c).1, .bool (shapeC (Sig.mk j_a j_r) j_t c).2])) := by
  obtain ⟨A1, d2, rfl, i3, i4, hs5⟩ := kConcept_open hr_c
  unfold i64 at i3 i4
  have z6 := hs5.size
  unfold big at z6
  have hwf := (wfC_iff c).1 hw_
  have har := hwf.1.1
  unfold arityB at har
  have hn0 := hwf.1.2
  have hb12 : 0 < c.args.length := by (rw [hop] at har; simp at har; omega)
  obtain ⟨x7, hx8⟩ : ∃ x, c.args[0]? = some x := ⟨_, List.getElem?_eq_getElem hb12⟩
  obtain ⟨c9, hr10, ha11⟩ := hs5.get _ x7 hx8
  obtain ⟨A13, d14, rfl, i15, i16, hs17⟩ := kConcept_open hr10
  unfold i64 at i15 i16
  have z18 := hs17.size
  unfold big at z18
  have hb24 : 1 < c.args.length := by (rw [hop] at har; simp at har; omega)
  obtain ⟨x19, hx20⟩ : ∃ x, c.args[1]? = some x := ⟨_, List.getElem?_eq_getElem hb24⟩
  obtain ⟨c21, hr22, ha23⟩ := hs5.get _ x19 hx20
  obtain ⟨A25, d26, rfl, i27, i28, hs29⟩ := kConcept_open hr22
  unfold i64 at i27 i28
  have z30 := hs29.size
  unfold big at z30
  refine fn_enter (vs := [.agg #[.iface (outT j_t) (.agg #[]), .map (some b_j_a), .map (some b_j_r), .pointer (some ⟨b_j_h, 0, none⟩)], .agg #[.int .i64 c.op, .int .i64 c.n, .slice A1 c.args.length d2]]) Tryz.func89 rfl rfl rfl ?_ hw
  refine tc_seq <| tc_region ?_
  refine tl_box_agg (l := [.iface (outT j_t) (.agg #[]), .map (some b_j_a), .map (some b_j_r), .pointer (some ⟨b_j_h, 0, none⟩)]) rfl rfl fun b31 => ?_
  refine tl_box_agg (l := [.int .i64 c.op, .int .i64 c.n, .slice A1 c.args.length d2]) rfl rfl fun b32 => ?_
  refine tl_alloc zc112 rfl fun b33 => ?_
  refine tl_nil <| tx_then ?_
  refine tc_cutX (X := Nat × Nat) (fun (z_ : Nat × Nat) => match z_ with | (b34, b35) => [(4, .pointer (some ⟨b33, 0, none⟩)), (5, .pointer (some ⟨b34, 0, none⟩)), (6, .pointer (some ⟨b35, 0, none⟩))]) (fun (z_ : Nat × Nat) => match z_ with | (b34, b35) => (.blk b35 [.bool ((shapeC (Sig.mk j_a j_r) j_t x19).1), .bool ((shapeC (Sig.mk j_a j_r) j_t x19).2)] 112 :: .blk b34 [.bool ((shapeC (Sig.mk j_a j_r) j_t x7).1), .bool ((shapeC (Sig.mk j_a j_r) j_t x7).2)] 112 :: .blk b33 [.bool false, .bool false] 112 :: .blk b32 [.int .i64 c.op, .int .i64 c.n, .slice A1 c.args.length d2] 37 :: .blk b31 [.iface (outT j_t) (.agg #[]), .map (some b_j_a), .map (some b_j_r), .pointer (some ⟨b_j_h, 0, none⟩)] 101 :: G)) (fun (z_ : Nat × Nat) (R_ : RO) => match z_ with | (b34, b35) => True) (fun K hK36 hE37 => ?_) ?_
  ·
   refine tc_draw R (.blk b33 [.bool false, .bool false] 112 :: .blk b32 [.int .i64 c.op, .int .i64 c.n, .slice A1 c.args.length d2] 37 :: .blk b31 [.iface (outT j_t) (.agg #[]), .map (some b_j_a), .map (some b_j_r), .pointer (some ⟨b_j_h, 0, none⟩)] 101 :: G) 15 mixed ?_
   refine td 0 rfl (by kernel_rfl) (v_ld_agg 2 [.iface (outT j_t) (.agg #[]), .map (some b_j_a), .map (some b_j_r), .pointer (some ⟨b_j_h, 0, none⟩)] rfl ld101 rfl rfl) (fun w hw => hw) ?_
   refine td 1 rfl (by kernel_rfl) (v_fieldAddr 2 rfl fo37_2 rfl) (fun w hw => hw) ?_
   refine td 2 rfl (by kernel_rfl) (v_ld 1 rfl ld35 rfl rfl) (fun w hw => hw) ?_
   refine td 3 rfl (by kernel_rfl) (v_idxS (i := 0) hs5 rfl rfl rfl sl35 hb12) (fun w hw => hw) ?_
   refine td 4 rfl (by kernel_rfl) (v_ldA_agg 0 [.int .i64 x7.op, .int .i64 x7.n, .slice A13 x7.args.length d14] ha11 rfl ld37 rfl rfl) (fun w hw => hw) ?_
   refine td 6 rfl (by kernel_rfl) (v_ld_agg 2 [.iface (outT j_t) (.agg #[]), .map (some b_j_a), .map (some b_j_r), .pointer (some ⟨b_j_h, 0, none⟩)] rfl ld101 rfl rfl) (fun w hw => hw) ?_
   refine td 7 rfl (by kernel_rfl) (v_fieldAddr 2 rfl fo37_2 rfl) (fun w hw => hw) ?_
   refine td 8 rfl (by kernel_rfl) (v_ld 1 rfl ld35 rfl rfl) (fun w hw => hw) ?_
   refine td 9 rfl (by kernel_rfl) (v_idxS (i := 1) hs5 rfl rfl rfl sl35 hb24) (fun w hw => hw) ?_
   refine td 10 rfl (by kernel_rfl) (v_ldA_agg 0 [.int .i64 x19.op, .int .i64 x19.n, .slice A25 x19.args.length d26] ha23 rfl ld37 rfl rfl) (fun w hw => hw) ?_
   refine td_all [5, 12, 13] (by kernel_rfl) rfl ?_
   refine tds rfl ?_ ?_
   ·
    refine tl_callv ca55 rfl (fun w hw => hO.of _ (List.mem_of_getElem? hx8) j_t j_a j_r (.tail _ (.tail _ (.tail _ (hm_j_a)))) (.tail _ (.tail _ (.tail _ (hm_j_r)))) hh_j hr10 hw) rfl ?_
    refine tl_nil ?_
    refine tx_td (fun w hw => hw) ?_
    refine td_all [11, 12, 13] (by kernel_rfl) rfl ?_
    refine tds rfl ?_ ?_
    ·
     refine tl_callv ca55 rfl (fun w hw => hO.of _ (List.mem_of_getElem? hx20) j_t j_a j_r (.tail _ (.tail _ (.tail _ (hm_j_a)))) (.tail _ (.tail _ (.tail _ (hm_j_r)))) hh_j hr22 hw) rfl ?_
     refine tl_nil ?_
     refine tx_td (fun w hw => hw) ?_
     refine td_all [12, 13] (by kernel_rfl) rfl ?_
     refine tds rfl ?_ ?_
     ·
      refine tl_alloc zc112 rfl fun b38 => ?_
      refine tl_nil ?_
      refine tx_td (fun w hw => hw.drop 1) ?_
      refine td1 13 (by kernel_rfl) rfl ?_
      refine tl_alloc zc112 rfl fun b39 => ?_
      refine tl_nil ?_
      refine tx_td (fun w hw => hw.drop 2) ?_
      refine td1 14 (by kernel_rfl) rfl ?_
      refine tl_st 1 [.bool ((shapeC (Sig.mk j_a j_r) j_t x7).1), .bool ((shapeC (Sig.mk j_a j_r) j_t x7).2)] rfl rfl ld112 rfl rfl rfl rfl rfl rfl ?_
      refine tl_nil ?_
      refine tx_td (fun w hw => hw.drop 2) ?_
      refine td1 15 (by kernel_rfl) rfl ?_
      refine tl_st 0 [.bool ((shapeC (Sig.mk j_a j_r) j_t x19).1), .bool ((shapeC (Sig.mk j_a j_r) j_t x19).2)] rfl rfl ld112 rfl rfl rfl rfl rfl rfl ?_
      refine tl_nil ?_
      refine tx_tdz ?_
      refine td_done (by kernel_rfl) ?_
      exact tx_cutX hK36 (b38, b39) (.refl _) (trivial) ⟨rfl, rfl, rfl, trivial⟩ (fun w hw => hw)
     refine tds rfl ?_ ?_
     ·
      refine tl_alloc zc112 rfl fun b40 => ?_
      refine tl_nil ?_
      refine tx_td (fun w hw => hw.drop 1) ?_
      refine td1 12 (by kernel_rfl) rfl ?_
      refine tl_alloc zc112 rfl fun b41 => ?_
      refine tl_nil ?_
      refine tx_td (fun w hw => hw.drop 2) ?_
      refine td1 14 (by kernel_rfl) rfl ?_
      refine tl_st 0 [.bool ((shapeC (Sig.mk j_a j_r) j_t x7).1), .bool ((shapeC (Sig.mk j_a j_r) j_t x7).2)] rfl rfl ld112 rfl rfl rfl rfl rfl rfl ?_
      refine tl_nil ?_
      refine tx_td (fun w hw => hw.drop 2) ?_
      refine td1 15 (by kernel_rfl) rfl ?_
      refine tl_st 1 [.bool ((shapeC (Sig.mk j_a j_r) j_t x19).1), .bool ((shapeC (Sig.mk j_a j_r) j_t x19).2)] rfl rfl ld112 rfl rfl rfl rfl rfl rfl ?_
      refine tl_nil ?_
      refine tx_tdz ?_
      refine td_done (by kernel_rfl) ?_
      exact tx_cutX hK36 (b41, b40) (.refl _) (trivial) ⟨rfl, rfl, rfl, trivial⟩ (fun w hw => (((((hw.pick 4).pick 4).pick 4).pick 3).pick 4))
     exact tds_nil
    refine tds rfl ?_ ?_
    ·
     refine tl_alloc zc112 rfl fun b42 => ?_
     refine tl_nil ?_
     refine tx_td (fun w hw => hw.drop 1) ?_
     refine td_all [11, 13] (by kernel_rfl) rfl ?_
     refine tds rfl ?_ ?_
     ·
      refine tl_callv ca55 rfl (fun w hw => hO.of _ (List.mem_of_getElem? hx20) j_t j_a j_r (.tail _ (.tail _ (.tail _ (.tail _ (hm_j_a))))) (.tail _ (.tail _ (.tail _ (.tail _ (hm_j_r))))) hh_j hr22 hw) rfl ?_
      refine tl_nil ?_
      refine tx_td (fun w hw => hw.drop 1) ?_
      refine td1 13 (by kernel_rfl) rfl ?_
      refine tl_alloc zc112 rfl fun b43 => ?_
      refine tl_nil ?_
      refine tx_td (fun w hw => hw.drop 2) ?_
      refine td1 14 (by kernel_rfl) rfl ?_
      refine tl_st 1 [.bool ((shapeC (Sig.mk j_a j_r) j_t x7).1), .bool ((shapeC (Sig.mk j_a j_r) j_t x7).2)] rfl rfl ld112 rfl rfl rfl rfl rfl rfl ?_
      refine tl_nil ?_
      refine tx_td (fun w hw => hw.drop 2) ?_
      refine td1 15 (by kernel_rfl) rfl ?_
      refine tl_st 0 [.bool ((shapeC (Sig.mk j_a j_r) j_t x19).1), .bool ((shapeC (Sig.mk j_a j_r) j_t x19).2)] rfl rfl ld112 rfl rfl rfl rfl rfl rfl ?_
      refine tl_nil ?_
      refine tx_tdz ?_
      refine td_done (by kernel_rfl) ?_
      exact tx_cutX hK36 (b42, b43) (.refl _) (trivial) ⟨rfl, rfl, rfl, trivial⟩ (fun w hw => hw)
     refine tds rfl ?_ ?_
     ·
      refine tl_alloc zc112 rfl fun b44 => ?_
      refine tl_nil ?_
      refine tx_td (fun w hw => hw.drop 2) ?_
      refine td1 11 (by kernel_rfl) rfl ?_
      refine tl_callv ca55 rfl (fun w hw => hO.of _ (List.mem_of_getElem? hx20) j_t j_a j_r (.tail _ (.tail _ (.tail _ (.tail _ (.tail _ (hm_j_a)))))) (.tail _ (.tail _ (.tail _ (.tail _ (.tail _ (hm_j_r)))))) hh_j hr22 hw) rfl ?_
      refine tl_nil ?_
      refine tx_td (fun w hw => hw.drop 2) ?_
      refine td1 14 (by kernel_rfl) rfl ?_
      refine tl_st 1 [.bool ((shapeC (Sig.mk j_a j_r) j_t x7).1), .bool ((shapeC (Sig.mk j_a j_r) j_t x7).2)] rfl rfl ld112 rfl rfl rfl rfl rfl rfl ?_
      refine tl_nil ?_
      refine tx_td (fun w hw => hw.drop 2) ?_
      refine td1 15 (by kernel_rfl) rfl ?_
      refine tl_st 0 [.bool ((shapeC (Sig.mk j_a j_r) j_t x19).1), .bool ((shapeC (Sig.mk j_a j_r) j_t x19).2)] rfl rfl ld112 rfl rfl rfl rfl rfl rfl ?_
      refine tl_nil ?_
      refine tx_tdz ?_
      refine td_done (by kernel_rfl) ?_
      exact tx_cutX hK36 (b42, b44) (.refl _) (trivial) ⟨rfl, rfl, rfl, trivial⟩ (fun w hw => hw)
     exact tds_nil
    refine tds rfl ?_ ?_
    ·
     refine tl_alloc zc112 rfl fun b45 => ?_
     refine tl_nil ?_
     refine tx_td (fun w hw => hw.drop 1) ?_
     refine td_all [11, 12] (by kernel_rfl) rfl ?_
     refine tds rfl ?_ ?_
     ·
      refine tl_callv ca55 rfl (fun w hw => hO.of _ (List.mem_of_getElem? hx20) j_t j_a j_r (.tail _ (.tail _ (.tail _ (.tail _ (hm_j_a))))) (.tail _ (.tail _ (.tail _ (.tail _ (hm_j_r))))) hh_j hr22 hw) rfl ?_
      refine tl_nil ?_
      refine tx_td (fun w hw => hw.drop 1) ?_
      refine td1 12 (by kernel_rfl) rfl ?_
      refine tl_alloc zc112 rfl fun b46 => ?_
      refine tl_nil ?_
      refine tx_td (fun w hw => hw.drop 2) ?_
      refine td1 14 (by kernel_rfl) rfl ?_
      refine tl_st 0 [.bool ((shapeC (Sig.mk j_a j_r) j_t x7).1), .bool ((shapeC (Sig.mk j_a j_r) j_t x7).2)] rfl rfl ld112 rfl rfl rfl rfl rfl rfl ?_
      refine tl_nil ?_
      refine tx_td (fun w hw => hw.drop 2) ?_
      refine td1 15 (by kernel_rfl) rfl ?_
      refine tl_st 1 [.bool ((shapeC (Sig.mk j_a j_r) j_t x19).1), .bool ((shapeC (Sig.mk j_a j_r) j_t x19).2)] rfl rfl ld112 rfl rfl rfl rfl rfl rfl ?_
      refine tl_nil ?_
      refine tx_tdz ?_
      refine td_done (by kernel_rfl) ?_
      exact tx_cutX hK36 (b46, b45) (.refl _) (trivial) ⟨rfl, rfl, rfl, trivial⟩ (fun w hw => (((((hw.pick 4).pick 4).pick 4).pick 3).pick 4))
     refine tds rfl ?_ ?_
     ·
      refine tl_alloc zc112 rfl fun b47 => ?_
      refine tl_nil ?_
      refine tx_td (fun w hw => hw.drop 2) ?_
      refine td1 11 (by kernel_rfl) rfl ?_
      refine tl_callv ca55 rfl (fun w hw => hO.of _ (List.mem_of_getElem? hx20) j_t j_a j_r (.tail _ (.tail _ (.tail _ (.tail _ (.tail _ (hm_j_a)))))) (.tail _ (.tail _ (.tail _ (.tail _ (.tail _ (hm_j_r)))))) hh_j hr22 hw) rfl ?_
      refine tl_nil ?_
      refine tx_td (fun w hw => hw.drop 2) ?_
      refine td1 14 (by kernel_rfl) rfl ?_
      refine tl_st 0 [.bool ((shapeC (Sig.mk j_a j_r) j_t x7).1), .bool ((shapeC (Sig.mk j_a j_r) j_t x7).2)] rfl rfl ld112 rfl rfl rfl rfl rfl rfl ?_
      refine tl_nil ?_
      refine tx_td (fun w hw => hw.drop 2) ?_
      refine td1 15 (by kernel_rfl) rfl ?_
      refine tl_st 1 [.bool ((shapeC (Sig.mk j_a j_r) j_t x19).1), .bool ((shapeC (Sig.mk j_a j_r) j_t x19).2)] rfl rfl ld112 rfl rfl rfl rfl rfl rfl ?_
      refine tl_nil ?_
      refine tx_tdz ?_
      refine td_done (by kernel_rfl) ?_
      exact tx_cutX hK36 (b47, b45) (.refl _) (trivial) ⟨rfl, rfl, rfl, trivial⟩ (fun w hw => (((((hw.pick 4).pick 4).pick 4).pick 3).pick 4))
     exact tds_nil
    exact tds_nil
   refine tds rfl ?_ ?_
   ·
    refine tl_alloc zc112 rfl fun b48 => ?_
    refine tl_nil ?_
    refine tx_td (fun w hw => hw.drop 1) ?_
    refine td_all [5, 13] (by kernel_rfl) rfl ?_
    refine tds rfl ?_ ?_
    ·
     refine tl_callv ca55 rfl (fun w hw => hO.of _ (List.mem_of_getElem? hx8) j_t j_a j_r (.tail _ (.tail _ (.tail _ (.tail _ (hm_j_a))))) (.tail _ (.tail _ (.tail _ (.tail _ (hm_j_r))))) hh_j hr10 hw) rfl ?_
     refine tl_nil ?_
     refine tx_td (fun w hw => hw.drop 1) ?_
     refine td_all [11, 13] (by kernel_rfl) rfl ?_
     refine tds rfl ?_ ?_
     ·
      refine tl_callv ca55 rfl (fun w hw => hO.of _ (List.mem_of_getElem? hx20) j_t j_a j_r (.tail _ (.tail _ (.tail _ (.tail _ (hm_j_a))))) (.tail _ (.tail _ (.tail _ (.tail _ (hm_j_r))))) hh_j hr22 hw) rfl ?_
      refine tl_nil ?_
      refine tx_td (fun w hw => hw.drop 1) ?_
      refine td1 13 (by kernel_rfl) rfl ?_
      refine tl_alloc zc112 rfl fun b49 => ?_
      refine tl_nil ?_
      refine tx_td (fun w hw => hw.drop 2) ?_
      refine td1 14 (by kernel_rfl) rfl ?_
      refine tl_st 1 [.bool ((shapeC (Sig.mk j_a j_r) j_t x7).1), .bool ((shapeC (Sig.mk j_a j_r) j_t x7).2)] rfl rfl ld112 rfl rfl rfl rfl rfl rfl ?_
      refine tl_nil ?_
      refine tx_td (fun w hw => hw.drop 2) ?_
      refine td1 15 (by kernel_rfl) rfl ?_
      refine tl_st 0 [.bool ((shapeC (Sig.mk j_a j_r) j_t x19).1), .bool ((shapeC (Sig.mk j_a j_r) j_t x19).2)] rfl rfl ld112 rfl rfl rfl rfl rfl rfl ?_
      refine tl_nil ?_
      refine tx_tdz ?_
      refine td_done (by kernel_rfl) ?_
      exact tx_cutX hK36 (b48, b49) (.refl _) (trivial) ⟨rfl, rfl, rfl, trivial⟩ (fun w hw => hw)
     refine tds rfl ?_ ?_
     ·
      refine tl_alloc zc112 rfl fun b50 => ?_
      refine tl_nil ?_
      refine tx_td (fun w hw => hw.drop 2) ?_
      refine td1 11 (by kernel_rfl) rfl ?_
      refine tl_callv ca55 rfl (fun w hw => hO.of _ (List.mem_of_getElem? hx20) j_t j_a j_r (.tail _ (.tail _ (.tail _ (.tail _ (.tail _ (hm_j_a)))))) (.tail _ (.tail _ (.tail _ (.tail _ (.tail _ (hm_j_r)))))) hh_j hr22 hw) rfl ?_
      refine tl_nil ?_
      refine tx_td (fun w hw => hw.drop 2) ?_
      refine td1 14 (by kernel_rfl) rfl ?_
      refine tl_st 1 [.bool ((shapeC (Sig.mk j_a j_r) j_t x7).1), .bool ((shapeC (Sig.mk j_a j_r) j_t x7).2)] rfl rfl ld112 rfl rfl rfl rfl rfl rfl ?_
      refine tl_nil ?_
      refine tx_td (fun w hw => hw.drop 2) ?_
      refine td1 15 (by kernel_rfl) rfl ?_
      refine tl_st 0 [.bool ((shapeC (Sig.mk j_a j_r) j_t x19).1), .bool ((shapeC (Sig.mk j_a j_r) j_t x19).2)] rfl rfl ld112 rfl rfl rfl rfl rfl rfl ?_
      refine tl_nil ?_
      refine tx_tdz ?_
      refine td_done (by kernel_rfl) ?_
      exact tx_cutX hK36 (b48, b50) (.refl _) (trivial) ⟨rfl, rfl, rfl, trivial⟩ (fun w hw => hw)
     exact tds_nil
    refine tds rfl ?_ ?_
    ·
     refine tl_alloc zc112 rfl fun b51 => ?_
     refine tl_nil ?_
     refine tx_td (fun w hw => hw.drop 2) ?_
     refine td1 5 (by kernel_rfl) rfl ?_
     refine tl_callv ca55 rfl (fun w hw => hO.of _ (List.mem_of_getElem? hx8) j_t j_a j_r (.tail _ (.tail _ (.tail _ (.tail _ (.tail _ (hm_j_a)))))) (.tail _ (.tail _ (.tail _ (.tail _ (.tail _ (hm_j_r)))))) hh_j hr10 hw) rfl ?_
     refine tl_nil ?_
     refine tx_td (fun w hw => hw.drop 2) ?_
     refine td1 11 (by kernel_rfl) rfl ?_
     refine tl_callv ca55 rfl (fun w hw => hO.of _ (List.mem_of_getElem? hx20) j_t j_a j_r (.tail _ (.tail _ (.tail _ (.tail _ (.tail _ (hm_j_a)))))) (.tail _ (.tail _ (.tail _ (.tail _ (.tail _ (hm_j_r)))))) hh_j hr22 hw) rfl ?_
     refine tl_nil ?_
     refine tx_td (fun w hw => hw.drop 2) ?_
     refine td1 14 (by kernel_rfl) rfl ?_
     refine tl_st 1 [.bool ((shapeC (Sig.mk j_a j_r) j_t x7).1), .bool ((shapeC (Sig.mk j_a j_r) j_t x7).2)] rfl rfl ld112 rfl rfl rfl rfl rfl rfl ?_
     refine tl_nil ?_
     refine tx_td (fun w hw => hw.drop 2) ?_
     refine td1 15 (by kernel_rfl) rfl ?_
     refine tl_st 0 [.bool ((shapeC (Sig.mk j_a j_r) j_t x19).1), .bool ((shapeC (Sig.mk j_a j_r) j_t x19).2)] rfl rfl ld112 rfl rfl rfl rfl rfl rfl ?_
     refine tl_nil ?_
     refine tx_tdz ?_
     refine td_done (by kernel_rfl) ?_
     exact tx_cutX hK36 (b48, b51) (.refl _) (trivial) ⟨rfl, rfl, rfl, trivial⟩ (fun w hw => hw)
    exact tds_nil
   refine tds rfl ?_ ?_
   ·
    refine tl_alloc zc112 rfl fun b52 => ?_
    refine tl_nil ?_
    refine tx_td (fun w hw => hw.drop 1) ?_
    refine td_all [5, 12] (by kernel_rfl) rfl ?_
    refine tds rfl ?_ ?_
    ·
     refine tl_callv ca55 rfl (fun w hw => hO.of _ (List.mem_of_getElem? hx8) j_t j_a j_r (.tail _ (.tail _ (.tail _ (.tail _ (hm_j_a))))) (.tail _ (.tail _ (.tail _ (.tail _ (hm_j_r))))) hh_j hr10 hw) rfl ?_
     refine tl_nil ?_
     refine tx_td (fun w hw => hw.drop 1) ?_
     refine td_all [11, 12] (by kernel_rfl) rfl ?_
     refine tds rfl ?_ ?_
     ·
      refine tl_callv ca55 rfl (fun w hw => hO.of _ (List.mem_of_getElem? hx20) j_t j_a j_r (.tail _ (.tail _ (.tail _ (.tail _ (hm_j_a))))) (.tail _ (.tail _ (.tail _ (.tail _ (hm_j_r))))) hh_j hr22 hw) rfl ?_
      refine tl_nil ?_
      refine tx_td (fun w hw => hw.drop 1) ?_
      refine td1 12 (by kernel_rfl) rfl ?_
      refine tl_alloc zc112 rfl fun b53 => ?_
      refine tl_nil ?_
      refine tx_td (fun w hw => hw.drop 2) ?_
      refine td1 14 (by kernel_rfl) rfl ?_
      refine tl_st 0 [.bool ((shapeC (Sig.mk j_a j_r) j_t x7).1), .bool ((shapeC (Sig.mk j_a j_r) j_t x7).2)] rfl rfl ld112 rfl rfl rfl rfl rfl rfl ?_
      refine tl_nil ?_
      refine tx_td (fun w hw => hw.drop 2) ?_
      refine td1 15 (by kernel_rfl) rfl ?_
      refine tl_st 1 [.bool ((shapeC (Sig.mk j_a j_r) j_t x19).1), .bool ((shapeC (Sig.mk j_a j_r) j_t x19).2)] rfl rfl ld112 rfl rfl rfl rfl rfl rfl ?_
      refine tl_nil ?_
      refine tx_tdz ?_
      refine td_done (by kernel_rfl) ?_
      exact tx_cutX hK36 (b53, b52) (.refl _) (trivial) ⟨rfl, rfl, rfl, trivial⟩ (fun w hw => (((((hw.pick 4).pick 4).pick 4).pick 3).pick 4))
     refine tds rfl ?_ ?_
     ·
      refine tl_alloc zc112 rfl fun b54 => ?_
      refine tl_nil ?_
      refine tx_td (fun w hw => hw.drop 2) ?_
      refine td1 11 (by kernel_rfl) rfl ?_
      refine tl_callv ca55 rfl (fun w hw => hO.of _ (List.mem_of_getElem? hx20) j_t j_a j_r (.tail _ (.tail _ (.tail _ (.tail _ (.tail _ (hm_j_a)))))) (.tail _ (.tail _ (.tail _ (.tail _ (.tail _ (hm_j_r)))))) hh_j hr22 hw) rfl ?_
      refine tl_nil ?_
      refine tx_td (fun w hw => hw.drop 2) ?_
      refine td1 14 (by kernel_rfl) rfl ?_
      refine tl_st 0 [.bool ((shapeC (Sig.mk j_a j_r) j_t x7).1), .bool ((shapeC (Sig.mk j_a j_r) j_t x7).2)] rfl rfl ld112 rfl rfl rfl rfl rfl rfl ?_
      refine tl_nil ?_
      refine tx_td (fun w hw => hw.drop 2) ?_
      refine td1 15 (by kernel_rfl) rfl ?_
      refine tl_st 1 [.bool ((shapeC (Sig.mk j_a j_r) j_t x19).1), .bool ((shapeC (Sig.mk j_a j_r) j_t x19).2)] rfl rfl ld112 rfl rfl rfl rfl rfl rfl ?_
      refine tl_nil ?_
      refine tx_tdz ?_
      refine td_done (by kernel_rfl) ?_
      exact tx_cutX hK36 (b54, b52) (.refl _) (trivial) ⟨rfl, rfl, rfl, trivial⟩ (fun w hw => (((((hw.pick 4).pick 4).pick 4).pick 3).pick 4))
     exact tds_nil
    refine tds rfl ?_ ?_
    ·
     refine tl_alloc zc112 rfl fun b55 => ?_
     refine tl_nil ?_
     refine tx_td (fun w hw => hw.drop 2) ?_
     refine td1 5 (by kernel_rfl) rfl ?_
     refine tl_callv ca55 rfl (fun w hw => hO.of _ (List.mem_of_getElem? hx8) j_t j_a j_r (.tail _ (.tail _ (.tail _ (.tail _ (.tail _ (hm_j_a)))))) (.tail _ (.tail _ (.tail _ (.tail _ (.tail _ (hm_j_r)))))) hh_j hr10 hw) rfl ?_
     refine tl_nil ?_
     refine tx_td (fun w hw => hw.drop 2) ?_
     refine td1 11 (by kernel_rfl) rfl ?_
     refine tl_callv ca55 rfl (fun w hw => hO.of _ (List.mem_of_getElem? hx20) j_t j_a j_r (.tail _ (.tail _ (.tail _ (.tail _ (.tail _ (hm_j_a)))))) (.tail _ (.tail _ (.tail _ (.tail _ (.tail _ (hm_j_r)))))) hh_j hr22 hw) rfl ?_
     refine tl_nil ?_
     refine tx_td (fun w hw => hw.drop 2) ?_
     refine td1 14 (by kernel_rfl) rfl ?_
     refine tl_st 0 [.bool ((shapeC (Sig.mk j_a j_r) j_t x7).1), .bool ((shapeC (Sig.mk j_a j_r) j_t x7).2)] rfl rfl ld112 rfl rfl rfl rfl rfl rfl ?_
     refine tl_nil ?_
     refine tx_td (fun w hw => hw.drop 2) ?_
     refine td1 15 (by kernel_rfl) rfl ?_
     refine tl_st 1 [.bool ((shapeC (Sig.mk j_a j_r) j_t x19).1), .bool ((shapeC (Sig.mk j_a j_r) j_t x19).2)] rfl rfl ld112 rfl rfl rfl rfl rfl rfl ?_
     refine tl_nil ?_
     refine tx_tdz ?_
     refine td_done (by kernel_rfl) ?_
     exact tx_cutX hK36 (b55, b52) (.refl _) (trivial) ⟨rfl, rfl, rfl, trivial⟩ (fun w hw => (((((hw.pick 4).pick 4).pick 4).pick 3).pick 4))
    exact tds_nil
   exact tds_nil
  ·
   rintro ⟨b34, b35⟩ R57 hle58 hj56
   try replace hh_j := hh_j.mono hle58
   show TC Tryz.prog _ _ _ [] [(4, .pointer (some ⟨b33, 0, none⟩)), (5, .pointer (some ⟨b34, 0, none⟩)), (6, .pointer (some ⟨b35, 0, none⟩))] R57 (.blk b35 [.bool ((shapeC (Sig.mk j_a j_r) j_t x19).1), .bool ((shapeC (Sig.mk j_a j_r) j_t x19).2)] 112 :: .blk b34 [.bool ((shapeC (Sig.mk j_a j_r) j_t x7).1), .bool ((shapeC (Sig.mk j_a j_r) j_t x7).2)] 112 :: .blk b33 [.bool false, .bool false] 112 :: .blk b32 [.int .i64 c.op, .int .i64 c.n, .slice A1 c.args.length d2] 37 :: .blk b31 [.iface (outT j_t) (.agg #[]), .map (some b_j_a), .map (some b_j_r), .pointer (some ⟨b_j_h, 0, none⟩)] 101 :: G)
   refine tc_seq <| tc_region ?_
   refine tl (v_fieldAddr 0 rfl fo112_0 rfl) ?_
   refine tl (v_ld 1 rfl ld4 rfl rfl) ?_
   refine tl (v_move rfl) ?_
   refine tl_splitb 21 rfl (fun h59 => ?_) (fun h59 => ?_)
   ·
    refine tl_gskip 21 rfl rfl rfl ?_
    refine tl_gskip 21 rfl rfl rfl ?_
    refine tl (v_pick_t rfl rfl) ?_
    refine tl (v_fieldAddr 1 rfl fo112_1 rfl) ?_
    refine tl (v_ld 1 rfl ld4 rfl rfl) ?_
    refine tl (v_move rfl) ?_
    refine tl_splitb 27 rfl (fun h60 => ?_) (fun h60 => ?_)
    ·
     refine tl_grun 27 rfl rfl ?_
     refine tl (v_fieldAddr 1 rfl fo112_1 rfl) ?_
     refine tl_grun 27 rfl rfl ?_
     refine tl (v_ld 0 rfl ld4 rfl rfl) ?_
     refine tl (v_pick_t rfl rfl) ?_
     refine tl (v_build [.bool true, .bool ((shapeC (Sig.mk j_a j_r) j_t x19).2)] zc112 pl112 rfl rfl) ?_
     refine tl_st 2 [.bool true, .bool ((shapeC (Sig.mk j_a j_r) j_t x19).2)] rfl rfl ld112 rfl rfl rfl rfl rfl rfl ?_
     refine tl_nil <| tx_then <| tc_ret ?_
     refine tx_retc (cells := [.bool true, .bool ((shapeC (Sig.mk j_a j_r) j_t x19).2)]) 2 (.inl rfl) rfl rfl ld112 rfl ?_
     have e61 : ((true, (shapeC (Sig.mk j_a j_r) j_t x19).2) : Bool × Bool) = shapeC (Sig.mk j_a j_r) j_t c := by (have p0_ := shE_at (s := Sig.mk j_a j_r) (t := j_t) hx8; have p1_ := shE_at (s := Sig.mk j_a j_r) (t := j_t) hx20; rw [shapeC_eq (Sig.mk j_a j_r) j_t c, hop]; show _ = ((shE (shapeCs (Sig.mk j_a j_r) j_t c.args) 0 || shE (shapeCs (Sig.mk j_a j_r) j_t c.args) 1, shF (shapeCs (Sig.mk j_a j_r) j_t c.args) 0 && shF (shapeCs (Sig.mk j_a j_r) j_t c.args) 1) : Bool × Bool); rw [p0_.1, p0_.2, p1_.1, p1_.2] <;> (first | rfl | (cases j_t <;> grind [outB_eq]) | (rw [Prod.mk.injEq]; constructor <;> cases j_t <;> grind [outB_eq])))
     exact fun w hw => ⟨congrArg (fun (z : Bool × Bool) => Ending.returned (Value.agg #[.bool z.1, .bool z.2])) e61, (hw.drop 5).weaken hle58⟩
    ·
     refine tl_gskip 27 rfl rfl rfl ?_
     refine tl_gskip 27 rfl rfl rfl ?_
     refine tl (v_pick_f rfl rfl) ?_
     refine tl (v_build [.bool true, .bool false] zc112 pl112 rfl rfl) ?_
     refine tl_st 2 [.bool true, .bool false] rfl rfl ld112 rfl rfl rfl rfl rfl rfl ?_
     refine tl_nil <| tx_then <| tc_ret ?_
     refine tx_retc (cells := [.bool true, .bool false]) 2 (.inl rfl) rfl rfl ld112 rfl ?_
     have e62 : ((true, false) : Bool × Bool) = shapeC (Sig.mk j_a j_r) j_t c := by (have p0_ := shE_at (s := Sig.mk j_a j_r) (t := j_t) hx8; have p1_ := shE_at (s := Sig.mk j_a j_r) (t := j_t) hx20; rw [shapeC_eq (Sig.mk j_a j_r) j_t c, hop]; show _ = ((shE (shapeCs (Sig.mk j_a j_r) j_t c.args) 0 || shE (shapeCs (Sig.mk j_a j_r) j_t c.args) 1, shF (shapeCs (Sig.mk j_a j_r) j_t c.args) 0 && shF (shapeCs (Sig.mk j_a j_r) j_t c.args) 1) : Bool × Bool); rw [p0_.1, p0_.2, p1_.1, p1_.2] <;> (first | rfl | (cases j_t <;> grind [outB_eq]) | (rw [Prod.mk.injEq]; constructor <;> cases j_t <;> grind [outB_eq])))
     exact fun w hw => ⟨congrArg (fun (z : Bool × Bool) => Ending.returned (Value.agg #[.bool z.1, .bool z.2])) e62, (hw.drop 5).weaken hle58⟩
   ·
    refine tl_grun 21 rfl rfl ?_
    refine tl (v_fieldAddr 0 rfl fo112_0 rfl) ?_
    refine tl_grun 21 rfl rfl ?_
    refine tl (v_ld 0 rfl ld4 rfl rfl) ?_
    refine tl (v_pick_f rfl rfl) ?_
    refine tl (v_fieldAddr 1 rfl fo112_1 rfl) ?_
    refine tl (v_ld 1 rfl ld4 rfl rfl) ?_
    refine tl (v_move rfl) ?_
    refine tl_splitb 27 rfl (fun h63 => ?_) (fun h63 => ?_)
    ·
     refine tl_grun 27 rfl rfl ?_
     refine tl (v_fieldAddr 1 rfl fo112_1 rfl) ?_
     refine tl_grun 27 rfl rfl ?_
     refine tl (v_ld 0 rfl ld4 rfl rfl) ?_
     refine tl (v_pick_t rfl rfl) ?_
     refine tl (v_build [.bool ((shapeC (Sig.mk j_a j_r) j_t x19).1), .bool ((shapeC (Sig.mk j_a j_r) j_t x19).2)] zc112 pl112 rfl rfl) ?_
     refine tl_st 2 [.bool ((shapeC (Sig.mk j_a j_r) j_t x19).1), .bool ((shapeC (Sig.mk j_a j_r) j_t x19).2)] rfl rfl ld112 rfl rfl rfl rfl rfl rfl ?_
     refine tl_nil <| tx_then <| tc_ret ?_
     refine tx_retc (cells := [.bool ((shapeC (Sig.mk j_a j_r) j_t x19).1), .bool ((shapeC (Sig.mk j_a j_r) j_t x19).2)]) 2 (.inl rfl) rfl rfl ld112 rfl ?_
     have e64 : (((shapeC (Sig.mk j_a j_r) j_t x19).1, (shapeC (Sig.mk j_a j_r) j_t x19).2) : Bool × Bool) = shapeC (Sig.mk j_a j_r) j_t c := by (have p0_ := shE_at (s := Sig.mk j_a j_r) (t := j_t) hx8; have p1_ := shE_at (s := Sig.mk j_a j_r) (t := j_t) hx20; rw [shapeC_eq (Sig.mk j_a j_r) j_t c, hop]; show _ = ((shE (shapeCs (Sig.mk j_a j_r) j_t c.args) 0 || shE (shapeCs (Sig.mk j_a j_r) j_t c.args) 1, shF (shapeCs (Sig.mk j_a j_r) j_t c.args) 0 && shF (shapeCs (Sig.mk j_a j_r) j_t c.args) 1) : Bool × Bool); rw [p0_.1, p0_.2, p1_.1, p1_.2] <;> (first | rfl | (cases j_t <;> grind [outB_eq]) | (rw [Prod.mk.injEq]; constructor <;> cases j_t <;> grind [outB_eq])))
     exact fun w hw => ⟨congrArg (fun (z : Bool × Bool) => Ending.returned (Value.agg #[.bool z.1, .bool z.2])) e64, (hw.drop 5).weaken hle58⟩
    ·
     refine tl_gskip 27 rfl rfl rfl ?_
     refine tl_gskip 27 rfl rfl rfl ?_
     refine tl (v_pick_f rfl rfl) ?_
     refine tl (v_build [.bool ((shapeC (Sig.mk j_a j_r) j_t x19).1), .bool false] zc112 pl112 rfl rfl) ?_
     refine tl_st 2 [.bool ((shapeC (Sig.mk j_a j_r) j_t x19).1), .bool false] rfl rfl ld112 rfl rfl rfl rfl rfl rfl ?_
     refine tl_nil <| tx_then <| tc_ret ?_
     refine tx_retc (cells := [.bool ((shapeC (Sig.mk j_a j_r) j_t x19).1), .bool false]) 2 (.inl rfl) rfl rfl ld112 rfl ?_
     have e65 : (((shapeC (Sig.mk j_a j_r) j_t x19).1, false) : Bool × Bool) = shapeC (Sig.mk j_a j_r) j_t c := by (have p0_ := shE_at (s := Sig.mk j_a j_r) (t := j_t) hx8; have p1_ := shE_at (s := Sig.mk j_a j_r) (t := j_t) hx20; rw [shapeC_eq (Sig.mk j_a j_r) j_t c, hop]; show _ = ((shE (shapeCs (Sig.mk j_a j_r) j_t c.args) 0 || shE (shapeCs (Sig.mk j_a j_r) j_t c.args) 1, shF (shapeCs (Sig.mk j_a j_r) j_t c.args) 0 && shF (shapeCs (Sig.mk j_a j_r) j_t c.args) 1) : Bool × Bool); rw [p0_.1, p0_.2, p1_.1, p1_.2] <;> (first | rfl | (cases j_t <;> grind [outB_eq]) | (rw [Prod.mk.injEq]; constructor <;> cases j_t <;> grind [outB_eq])))
     exact fun w hw => ⟨congrArg (fun (z : Bool × Bool) => Ending.returned (Value.agg #[.bool z.1, .bool z.2])) e65, (hw.drop 5).weaken hle58⟩

set_option maxRecDepth 20000 in
set_option maxHeartbeats 8000000 in
theorem module_judge_or_ok {R : RO} {G : List Res} {w : World} (j_t : Bool) (j_a j_r : List Int) {b_j_a b_j_r b_j_h : Nat} {c_c : List Value} (c : Concept) (hm_j_a : Res.set keyI b_j_a j_a ∈ G) (hm_j_r : Res.set keyI b_j_r j_r ∈ G) (hh_j : R.at b_j_h 0 howL) (hr_c : kConcept.rep R c c_c) (hw_ : wfC c = true) (hop : c.op = 5) (hO : OfArgs c) (hw : Own w R (G)) :
    Calls Tryz.prog 90 [.agg #[.iface (outT j_t) (.agg #[]), .map (some b_j_a), .map (some b_j_r), .pointer (some ⟨b_j_h, 0, none⟩)], .agg c_c.toArray].toArray w (Gives R G (.agg #[.bool (shapeC (Sig.mk j_a j_r) j_t c).1, .bool (shapeC (Sig.mk j_a j_r) j_t c).2])) := by
  obtain ⟨A1, d2, rfl, i3, i4, hs5⟩ := kConcept_open hr_c
  unfold i64 at i3 i4
  have z6 := hs5.size
  unfold big at z6
  have hwf := (wfC_iff c).1 hw_
  have har := hwf.1.1
  unfold arityB at har
  have hn0 := hwf.1.2
  have hb12 : 0 < c.args.length := by (rw [hop] at har; simp at har; omega)
  obtain ⟨x7, hx8⟩ : ∃ x, c.args[0]? = some x := ⟨_, List.getElem?_eq_getElem hb12⟩
  obtain ⟨c9, hr10, ha11⟩ := hs5.get _ x7 hx8
  obtain ⟨A13, d14, rfl, i15, i16, hs17⟩ := kConcept_open hr10
  unfold i64 at i15 i16
  have z18 := hs17.size
  unfold big at z18
  have hb24 : 1 < c.args.length := by (rw [hop] at har; simp at har; omega)
  obtain ⟨x19, hx20⟩ : ∃ x, c.args[1]? = some x := ⟨_, List.getElem?_eq_getElem hb24⟩
  obtain ⟨c21, hr22, ha23⟩ := hs5.get _ x19 hx20
  obtain ⟨A25, d26, rfl, i27, i28, hs29⟩ := kConcept_open hr22
  unfold i64 at i27 i28
  have z30 := hs29.size
  unfold big at z30
  refine fn_enter (vs := [.agg #[.iface (outT j_t) (.agg #[]), .map (some b_j_a), .map (some b_j_r), .pointer (some ⟨b_j_h, 0, none⟩)], .agg #[.int .i64 c.op, .int .i64 c.n, .slice A1 c.args.length d2]]) Tryz.func90 rfl rfl rfl ?_ hw
  refine tc_seq <| tc_region ?_
  refine tl_box_agg (l := [.iface (outT j_t) (.agg #[]), .map (some b_j_a), .map (some b_j_r), .pointer (some ⟨b_j_h, 0, none⟩)]) rfl rfl fun b31 => ?_
  refine tl_box_agg (l := [.int .i64 c.op, .int .i64 c.n, .slice A1 c.args.length d2]) rfl rfl fun b32 => ?_
  refine tl_alloc zc112 rfl fun b33 => ?_
  refine tl_nil <| tx_then ?_
  refine tc_cutX (X := Nat × Nat) (fun (z_ : Nat × Nat) => match z_ with | (b34, b35) => [(4, .pointer (some ⟨b33, 0, none⟩)), (5, .pointer (some ⟨b34, 0, none⟩)), (6, .pointer (some ⟨b35, 0, none⟩))]) (fun (z_ : Nat × Nat) => match z_ with | (b34, b35) => (.blk b35 [.bool ((shapeC (Sig.mk j_a j_r) j_t x19).1), .bool ((shapeC (Sig.mk j_a j_r) j_t x19).2)] 112 :: .blk b34 [.bool ((shapeC (Sig.mk j_a j_r) j_t x7).1), .bool ((shapeC (Sig.mk j_a j_r) j_t x7).2)] 112 :: .blk b33 [.bool false, .bool false] 112 :: .blk b32 [.int .i64 c.op, .int .i64 c.n, .slice A1 c.args.length d2] 37 :: .blk b31 [.iface (outT j_t) (.agg #[]), .map (some b_j_a), .map (some b_j_r), .pointer (some ⟨b_j_h, 0, none⟩)] 101 :: G)) (fun (z_ : Nat × Nat) (R_ : RO) => match z_ with | (b34, b35) => True) (fun K hK36 hE37 => ?_) ?_
  ·
   refine tc_draw R (.blk b33 [.bool false, .bool false] 112 :: .blk b32 [.int .i64 c.op, .int .i64 c.n, .slice A1 c.args.length d2] 37 :: .blk b31 [.iface (outT j_t) (.agg #[]), .map (some b_j_a), .map (some b_j_r), .pointer (some ⟨b_j_h, 0, none⟩)] 101 :: G) 15 mixed ?_
   refine td 0 rfl (by kernel_rfl) (v_ld_agg 2 [.iface (outT j_t) (.agg #[]), .map (some b_j_a), .map (some b_j_r), .pointer (some ⟨b_j_h, 0, none⟩)] rfl ld101 rfl rfl) (fun w hw => hw) ?_
   refine td 1 rfl (by kernel_rfl) (v_fieldAddr 2 rfl fo37_2 rfl) (fun w hw => hw) ?_
   refine td 2 rfl (by kernel_rfl) (v_ld 1 rfl ld35 rfl rfl) (fun w hw => hw) ?_
   refine td 3 rfl (by kernel_rfl) (v_idxS (i := 0) hs5 rfl rfl rfl sl35 hb12) (fun w hw => hw) ?_
   refine td 4 rfl (by kernel_rfl) (v_ldA_agg 0 [.int .i64 x7.op, .int .i64 x7.n, .slice A13 x7.args.length d14] ha11 rfl ld37 rfl rfl) (fun w hw => hw) ?_
   refine td 6 rfl (by kernel_rfl) (v_ld_agg 2 [.iface (outT j_t) (.agg #[]), .map (some b_j_a), .map (some b_j_r), .pointer (some ⟨b_j_h, 0, none⟩)] rfl ld101 rfl rfl) (fun w hw => hw) ?_
   refine td 7 rfl (by kernel_rfl) (v_fieldAddr 2 rfl fo37_2 rfl) (fun w hw => hw) ?_
   refine td 8 rfl (by kernel_rfl) (v_ld 1 rfl ld35 rfl rfl) (fun w hw => hw) ?_
   refine td 9 rfl (by kernel_rfl) (v_idxS (i := 1) hs5 rfl rfl rfl sl35 hb24) (fun w hw => hw) ?_
   refine td 10 rfl (by kernel_rfl) (v_ldA_agg 0 [.int .i64 x19.op, .int .i64 x19.n, .slice A25 x19.args.length d26] ha23 rfl ld37 rfl rfl) (fun w hw => hw) ?_
   refine td_all [5, 12, 13] (by kernel_rfl) rfl ?_
   refine tds rfl ?_ ?_
   ·
    refine tl_callv ca55 rfl (fun w hw => hO.of _ (List.mem_of_getElem? hx8) j_t j_a j_r (.tail _ (.tail _ (.tail _ (hm_j_a)))) (.tail _ (.tail _ (.tail _ (hm_j_r)))) hh_j hr10 hw) rfl ?_
    refine tl_nil ?_
    refine tx_td (fun w hw => hw) ?_
    refine td_all [11, 12, 13] (by kernel_rfl) rfl ?_
    refine tds rfl ?_ ?_
    ·
     refine tl_callv ca55 rfl (fun w hw => hO.of _ (List.mem_of_getElem? hx20) j_t j_a j_r (.tail _ (.tail _ (.tail _ (hm_j_a)))) (.tail _ (.tail _ (.tail _ (hm_j_r)))) hh_j hr22 hw) rfl ?_
     refine tl_nil ?_
     refine tx_td (fun w hw => hw) ?_
     refine td_all [12, 13] (by kernel_rfl) rfl ?_
     refine tds rfl ?_ ?_
     ·
      refine tl_alloc zc112 rfl fun b38 => ?_
      refine tl_nil ?_
      refine tx_td (fun w hw => hw.drop 1) ?_
      refine td1 13 (by kernel_rfl) rfl ?_
      refine tl_alloc zc112 rfl fun b39 => ?_
      refine tl_nil ?_
      refine tx_td (fun w hw => hw.drop 2) ?_
      refine td1 14 (by kernel_rfl) rfl ?_
      refine tl_st 1 [.bool ((shapeC (Sig.mk j_a j_r) j_t x7).1), .bool ((shapeC (Sig.mk j_a j_r) j_t x7).2)] rfl rfl ld112 rfl rfl rfl rfl rfl rfl ?_
      refine tl_nil ?_
      refine tx_td (fun w hw => hw.drop 2) ?_
      refine td1 15 (by kernel_rfl) rfl ?_
      refine tl_st 0 [.bool ((shapeC (Sig.mk j_a j_r) j_t x19).1), .bool ((shapeC (Sig.mk j_a j_r) j_t x19).2)] rfl rfl ld112 rfl rfl rfl rfl rfl rfl ?_
      refine tl_nil ?_
      refine tx_tdz ?_
      refine td_done (by kernel_rfl) ?_
      exact tx_cutX hK36 (b38, b39) (.refl _) (trivial) ⟨rfl, rfl, rfl, trivial⟩ (fun w hw => hw)
     refine tds rfl ?_ ?_
     ·
      refine tl_alloc zc112 rfl fun b40 => ?_
      refine tl_nil ?_
      refine tx_td (fun w hw => hw.drop 1) ?_
      refine td1 12 (by kernel_rfl) rfl ?_
      refine tl_alloc zc112 rfl fun b41 => ?_
      refine tl_nil ?_
      refine tx_td (fun w hw => hw.drop 2) ?_
      refine td1 14 (by kernel_rfl) rfl ?_
      refine tl_st 0 [.bool ((shapeC (Sig.mk j_a j_r) j_t x7).1), .bool ((shapeC (Sig.mk j_a j_r) j_t x7).2)] rfl rfl ld112 rfl rfl rfl rfl rfl rfl ?_
      refine tl_nil ?_
      refine tx_td (fun w hw => hw.drop 2) ?_
      refine td1 15 (by kernel_rfl) rfl ?_
      refine tl_st 1 [.bool ((shapeC (Sig.mk j_a j_r) j_t x19).1), .bool ((shapeC (Sig.mk j_a j_r) j_t x19).2)] rfl rfl ld112 rfl rfl rfl rfl rfl rfl ?_
      refine tl_nil ?_
      refine tx_tdz ?_
      refine td_done (by kernel_rfl) ?_
      exact tx_cutX hK36 (b41, b40) (.refl _) (trivial) ⟨rfl, rfl, rfl, trivial⟩ (fun w hw => (((((hw.pick 4).pick 4).pick 4).pick 3).pick 4))
     exact tds_nil
    refine tds rfl ?_ ?_
    ·
     refine tl_alloc zc112 rfl fun b42 => ?_
     refine tl_nil ?_
     refine tx_td (fun w hw => hw.drop 1) ?_
     refine td_all [11, 13] (by kernel_rfl) rfl ?_
     refine tds rfl ?_ ?_
     ·
      refine tl_callv ca55 rfl (fun w hw => hO.of _ (List.mem_of_getElem? hx20) j_t j_a j_r (.tail _ (.tail _ (.tail _ (.tail _ (hm_j_a))))) (.tail _ (.tail _ (.tail _ (.tail _ (hm_j_r))))) hh_j hr22 hw) rfl ?_
      refine tl_nil ?_
      refine tx_td (fun w hw => hw.drop 1) ?_
      refine td1 13 (by kernel_rfl) rfl ?_
      refine tl_alloc zc112 rfl fun b43 => ?_
      refine tl_nil ?_
      refine tx_td (fun w hw => hw.drop 2) ?_
      refine td1 14 (by kernel_rfl) rfl ?_
      refine tl_st 1 [.bool ((shapeC (Sig.mk j_a j_r) j_t x7).1), .bool ((shapeC (Sig.mk j_a j_r) j_t x7).2)] rfl rfl ld112 rfl rfl rfl rfl rfl rfl ?_
      refine tl_nil ?_
      refine tx_td (fun w hw => hw.drop 2) ?_
      refine td1 15 (by kernel_rfl) rfl ?_
      refine tl_st 0 [.bool ((shapeC (Sig.mk j_a j_r) j_t x19).1), .bool ((shapeC (Sig.mk j_a j_r) j_t x19).2)] rfl rfl ld112 rfl rfl rfl rfl rfl rfl ?_
      refine tl_nil ?_
      refine tx_tdz ?_
      refine td_done (by kernel_rfl) ?_
      exact tx_cutX hK36 (b42, b43) (.refl _) (trivial) ⟨rfl, rfl, rfl, trivial⟩ (fun w hw => hw)
     refine tds rfl ?_ ?_
     ·
      refine tl_alloc zc112 rfl fun b44 => ?_
      refine tl_nil ?_
      refine tx_td (fun w hw => hw.drop 2) ?_
      refine td1 11 (by kernel_rfl) rfl ?_
      refine tl_callv ca55 rfl (fun w hw => hO.of _ (List.mem_of_getElem? hx20) j_t j_a j_r (.tail _ (.tail _ (.tail _ (.tail _ (.tail _ (hm_j_a)))))) (.tail _ (.tail _ (.tail _ (.tail _ (.tail _ (hm_j_r)))))) hh_j hr22 hw) rfl ?_
      refine tl_nil ?_
      refine tx_td (fun w hw => hw.drop 2) ?_
      refine td1 14 (by kernel_rfl) rfl ?_
      refine tl_st 1 [.bool ((shapeC (Sig.mk j_a j_r) j_t x7).1), .bool ((shapeC (Sig.mk j_a j_r) j_t x7).2)] rfl rfl ld112 rfl rfl rfl rfl rfl rfl ?_
      refine tl_nil ?_
      refine tx_td (fun w hw => hw.drop 2) ?_
      refine td1 15 (by kernel_rfl) rfl ?_
      refine tl_st 0 [.bool ((shapeC (Sig.mk j_a j_r) j_t x19).1), .bool ((shapeC (Sig.mk j_a j_r) j_t x19).2)] rfl rfl ld112 rfl rfl rfl rfl rfl rfl ?_
      refine tl_nil ?_
      refine tx_tdz ?_
      refine td_done (by kernel_rfl) ?_
      exact tx_cutX hK36 (b42, b44) (.refl _) (trivial) ⟨rfl, rfl, rfl, trivial⟩ (fun w hw => hw)
     exact tds_nil
    refine tds rfl ?_ ?_
    ·
     refine tl_alloc zc112 rfl fun b45 => ?_
     refine tl_nil ?_
     refine tx_td (fun w hw => hw.drop 1) ?_
     refine td_all [11, 12] (by kernel_rfl) rfl ?_
     refine tds rfl ?_ ?_
     ·
      refine tl_callv ca55 rfl (fun w hw => hO.of _ (List.mem_of_getElem? hx20) j_t j_a j_r (.tail _ (.tail _ (.tail _ (.tail _ (hm_j_a))))) (.tail _ (.tail _ (.tail _ (.tail _ (hm_j_r))))) hh_j hr22 hw) rfl ?_
      refine tl_nil ?_
      refine tx_td (fun w hw => hw.drop 1) ?_
      refine td1 12 (by kernel_rfl) rfl ?_
      refine tl_alloc zc112 rfl fun b46 => ?_
      refine tl_nil ?_
      refine tx_td (fun w hw => hw.drop 2) ?_
      refine td1 14 (by kernel_rfl) rfl ?_
      refine tl_st 0 [.bool ((shapeC (Sig.mk j_a j_r) j_t x7).1), .bool ((shapeC (Sig.mk j_a j_r) j_t x7).2)] rfl rfl ld112 rfl rfl rfl rfl rfl rfl ?_
      refine tl_nil ?_
      refine tx_td (fun w hw => hw.drop 2) ?_
      refine td1 15 (by kernel_rfl) rfl ?_
      refine tl_st 1 [.bool ((shapeC (Sig.mk j_a j_r) j_t x19).1), .bool ((shapeC (Sig.mk j_a j_r) j_t x19).2)] rfl rfl ld112 rfl rfl rfl rfl rfl rfl ?_
      refine tl_nil ?_
      refine tx_tdz ?_
      refine td_done (by kernel_rfl) ?_
      exact tx_cutX hK36 (b46, b45) (.refl _) (trivial) ⟨rfl, rfl, rfl, trivial⟩ (fun w hw => (((((hw.pick 4).pick 4).pick 4).pick 3).pick 4))
     refine tds rfl ?_ ?_
     ·
      refine tl_alloc zc112 rfl fun b47 => ?_
      refine tl_nil ?_
      refine tx_td (fun w hw => hw.drop 2) ?_
      refine td1 11 (by kernel_rfl) rfl ?_
      refine tl_callv ca55 rfl (fun w hw => hO.of _ (List.mem_of_getElem? hx20) j_t j_a j_r (.tail _ (.tail _ (.tail _ (.tail _ (.tail _ (hm_j_a)))))) (.tail _ (.tail _ (.tail _ (.tail _ (.tail _ (hm_j_r)))))) hh_j hr22 hw) rfl ?_
      refine tl_nil ?_
      refine tx_td (fun w hw => hw.drop 2) ?_
      refine td1 14 (by kernel_rfl) rfl ?_
      refine tl_st 0 [.bool ((shapeC (Sig.mk j_a j_r) j_t x7).1), .bool ((shapeC (Sig.mk j_a j_r) j_t x7).2)] rfl rfl ld112 rfl rfl rfl rfl rfl rfl ?_
      refine tl_nil ?_
      refine tx_td (fun w hw => hw.drop 2) ?_
      refine td1 15 (by kernel_rfl) rfl ?_
      refine tl_st 1 [.bool ((shapeC (Sig.mk j_a j_r) j_t x19).1), .bool ((shapeC (Sig.mk j_a j_r) j_t x19).2)] rfl rfl ld112 rfl rfl rfl rfl rfl rfl ?_
      refine tl_nil ?_
      refine tx_tdz ?_
      refine td_done (by kernel_rfl) ?_
      exact tx_cutX hK36 (b47, b45) (.refl _) (trivial) ⟨rfl, rfl, rfl, trivial⟩ (fun w hw => (((((hw.pick 4).pick 4).pick 4).pick 3).pick 4))
     exact tds_nil
    exact tds_nil
   refine tds rfl ?_ ?_
   ·
    refine tl_alloc zc112 rfl fun b48 => ?_
    refine tl_nil ?_
    refine tx_td (fun w hw => hw.drop 1) ?_
    refine td_all [5, 13] (by kernel_rfl) rfl ?_
    refine tds rfl ?_ ?_
    ·
     refine tl_callv ca55 rfl (fun w hw => hO.of _ (List.mem_of_getElem? hx8) j_t j_a j_r (.tail _ (.tail _ (.tail _ (.tail _ (hm_j_a))))) (.tail _ (.tail _ (.tail _ (.tail _ (hm_j_r))))) hh_j hr10 hw) rfl ?_
     refine tl_nil ?_
     refine tx_td (fun w hw => hw.drop 1) ?_
     refine td_all [11, 13] (by kernel_rfl) rfl ?_
     refine tds rfl ?_ ?_
     ·
      refine tl_callv ca55 rfl (fun w hw => hO.of _ (List.mem_of_getElem? hx20) j_t j_a j_r (.tail _ (.tail _ (.tail _ (.tail _ (hm_j_a))))) (.tail _ (.tail _ (.tail _ (.tail _ (hm_j_r))))) hh_j hr22 hw) rfl ?_
      refine tl_nil ?_
      refine tx_td (fun w hw => hw.drop 1) ?_
      refine td1 13 (by kernel_rfl) rfl ?_
      refine tl_alloc zc112 rfl fun b49 => ?_
      refine tl_nil ?_
      refine tx_td (fun w hw => hw.drop 2) ?_
      refine td1 14 (by kernel_rfl) rfl ?_
      refine tl_st 1 [.bool ((shapeC (Sig.mk j_a j_r) j_t x7).1), .bool ((shapeC (Sig.mk j_a j_r) j_t x7).2)] rfl rfl ld112 rfl rfl rfl rfl rfl rfl ?_
      refine tl_nil ?_
      refine tx_td (fun w hw => hw.drop 2) ?_
      refine td1 15 (by kernel_rfl) rfl ?_
      refine tl_st 0 [.bool ((shapeC (Sig.mk j_a j_r) j_t x19).1), .bool ((shapeC (Sig.mk j_a j_r) j_t x19).2)] rfl rfl ld112 rfl rfl rfl rfl rfl rfl ?_
      refine tl_nil ?_
      refine tx_tdz ?_
      refine td_done (by kernel_rfl) ?_
      exact tx_cutX hK36 (b48, b49) (.refl _) (trivial) ⟨rfl, rfl, rfl, trivial⟩ (fun w hw => hw)
     refine tds rfl ?_ ?_
     ·
      refine tl_alloc zc112 rfl fun b50 => ?_
      refine tl_nil ?_
      refine tx_td (fun w hw => hw.drop 2) ?_
      refine td1 11 (by kernel_rfl) rfl ?_
      refine tl_callv ca55 rfl (fun w hw => hO.of _ (List.mem_of_getElem? hx20) j_t j_a j_r (.tail _ (.tail _ (.tail _ (.tail _ (.tail _ (hm_j_a)))))) (.tail _ (.tail _ (.tail _ (.tail _ (.tail _ (hm_j_r)))))) hh_j hr22 hw) rfl ?_
      refine tl_nil ?_
      refine tx_td (fun w hw => hw.drop 2) ?_
      refine td1 14 (by kernel_rfl) rfl ?_
      refine tl_st 1 [.bool ((shapeC (Sig.mk j_a j_r) j_t x7).1), .bool ((shapeC (Sig.mk j_a j_r) j_t x7).2)] rfl rfl ld112 rfl rfl rfl rfl rfl rfl ?_
      refine tl_nil ?_
      refine tx_td (fun w hw => hw.drop 2) ?_
      refine td1 15 (by kernel_rfl) rfl ?_
      refine tl_st 0 [.bool ((shapeC (Sig.mk j_a j_r) j_t x19).1), .bool ((shapeC (Sig.mk j_a j_r) j_t x19).2)] rfl rfl ld112 rfl rfl rfl rfl rfl rfl ?_
      refine tl_nil ?_
      refine tx_tdz ?_
      refine td_done (by kernel_rfl) ?_
      exact tx_cutX hK36 (b48, b50) (.refl _) (trivial) ⟨rfl, rfl, rfl, trivial⟩ (fun w hw => hw)
     exact tds_nil
    refine tds rfl ?_ ?_
    ·
     refine tl_alloc zc112 rfl fun b51 => ?_
     refine tl_nil ?_
     refine tx_td (fun w hw => hw.drop 2) ?_
     refine td1 5 (by kernel_rfl) rfl ?_
     refine tl_callv ca55 rfl (fun w hw => hO.of _ (List.mem_of_getElem? hx8) j_t j_a j_r (.tail _ (.tail _ (.tail _ (.tail _ (.tail _ (hm_j_a)))))) (.tail _ (.tail _ (.tail _ (.tail _ (.tail _ (hm_j_r)))))) hh_j hr10 hw) rfl ?_
     refine tl_nil ?_
     refine tx_td (fun w hw => hw.drop 2) ?_
     refine td1 11 (by kernel_rfl) rfl ?_
     refine tl_callv ca55 rfl (fun w hw => hO.of _ (List.mem_of_getElem? hx20) j_t j_a j_r (.tail _ (.tail _ (.tail _ (.tail _ (.tail _ (hm_j_a)))))) (.tail _ (.tail _ (.tail _ (.tail _ (.tail _ (hm_j_r)))))) hh_j hr22 hw) rfl ?_
     refine tl_nil ?_
     refine tx_td (fun w hw => hw.drop 2) ?_
     refine td1 14 (by kernel_rfl) rfl ?_
     refine tl_st 1 [.bool ((shapeC (Sig.mk j_a j_r) j_t x7).1), .bool ((shapeC (Sig.mk j_a j_r) j_t x7).2)] rfl rfl ld112 rfl rfl rfl rfl rfl rfl ?_
     refine tl_nil ?_
     refine tx_td (fun w hw => hw.drop 2) ?_
     refine td1 15 (by kernel_rfl) rfl ?_
     refine tl_st 0 [.bool ((shapeC (Sig.mk j_a j_r) j_t x19).1), .bool ((shapeC (Sig.mk j_a j_r) j_t x19).2)] rfl rfl ld112 rfl rfl rfl rfl rfl rfl ?_
     refine tl_nil ?_
     refine tx_tdz ?_
     refine td_done (by kernel_rfl) ?_
     exact tx_cutX hK36 (b48, b51) (.refl _) (trivial) ⟨rfl, rfl, rfl, trivial⟩ (fun w hw => hw)
    exact tds_nil
   refine tds rfl ?_ ?_
   ·
    refine tl_alloc zc112 rfl fun b52 => ?_
    refine tl_nil ?_
    refine tx_td (fun w hw => hw.drop 1) ?_
    refine td_all [5, 12] (by kernel_rfl) rfl ?_
    refine tds rfl ?_ ?_
    ·
     refine tl_callv ca55 rfl (fun w hw => hO.of _ (List.mem_of_getElem? hx8) j_t j_a j_r (.tail _ (.tail _ (.tail _ (.tail _ (hm_j_a))))) (.tail _ (.tail _ (.tail _ (.tail _ (hm_j_r))))) hh_j hr10 hw) rfl ?_
     refine tl_nil ?_
     refine tx_td (fun w hw => hw.drop 1) ?_
     refine td_all [11, 12] (by kernel_rfl) rfl ?_
     refine tds rfl ?_ ?_
     ·
      refine tl_callv ca55 rfl (fun w hw => hO.of _ (List.mem_of_getElem? hx20) j_t j_a j_r (.tail _ (.tail _ (.tail _ (.tail _ (hm_j_a))))) (.tail _ (.tail _ (.tail _ (.tail _ (hm_j_r))))) hh_j hr22 hw) rfl ?_
      refine tl_nil ?_
      refine tx_td (fun w hw => hw.drop 1) ?_
      refine td1 12 (by kernel_rfl) rfl ?_
      refine tl_alloc zc112 rfl fun b53 => ?_
      refine tl_nil ?_
      refine tx_td (fun w hw => hw.drop 2) ?_
      refine td1 14 (by kernel_rfl) rfl ?_
      refine tl_st 0 [.bool ((shapeC (Sig.mk j_a j_r) j_t x7).1), .bool ((shapeC (Sig.mk j_a j_r) j_t x7).2)] rfl rfl ld112 rfl rfl rfl rfl rfl rfl ?_
      refine tl_nil ?_
      refine tx_td (fun w hw => hw.drop 2) ?_
      refine td1 15 (by kernel_rfl) rfl ?_
      refine tl_st 1 [.bool ((shapeC (Sig.mk j_a j_r) j_t x19).1), .bool ((shapeC (Sig.mk j_a j_r) j_t x19).2)] rfl rfl ld112 rfl rfl rfl rfl rfl rfl ?_
      refine tl_nil ?_
      refine tx_tdz ?_
      refine td_done (by kernel_rfl) ?_
      exact tx_cutX hK36 (b53, b52) (.refl _) (trivial) ⟨rfl, rfl, rfl, trivial⟩ (fun w hw => (((((hw.pick 4).pick 4).pick 4).pick 3).pick 4))
     refine tds rfl ?_ ?_
     ·
      refine tl_alloc zc112 rfl fun b54 => ?_
      refine tl_nil ?_
      refine tx_td (fun w hw => hw.drop 2) ?_
      refine td1 11 (by kernel_rfl) rfl ?_
      refine tl_callv ca55 rfl (fun w hw => hO.of _ (List.mem_of_getElem? hx20) j_t j_a j_r (.tail _ (.tail _ (.tail _ (.tail _ (.tail _ (hm_j_a)))))) (.tail _ (.tail _ (.tail _ (.tail _ (.tail _ (hm_j_r)))))) hh_j hr22 hw) rfl ?_
      refine tl_nil ?_
      refine tx_td (fun w hw => hw.drop 2) ?_
      refine td1 14 (by kernel_rfl) rfl ?_
      refine tl_st 0 [.bool ((shapeC (Sig.mk j_a j_r) j_t x7).1), .bool ((shapeC (Sig.mk j_a j_r) j_t x7).2)] rfl rfl ld112 rfl rfl rfl rfl rfl rfl ?_
      refine tl_nil ?_
      refine tx_td (fun w hw => hw.drop 2) ?_
      refine td1 15 (by kernel_rfl) rfl ?_
      refine tl_st 1 [.bool ((shapeC (Sig.mk j_a j_r) j_t x19).1), .bool ((shapeC (Sig.mk j_a j_r) j_t x19).2)] rfl rfl ld112 rfl rfl rfl rfl rfl rfl ?_
      refine tl_nil ?_
      refine tx_tdz ?_
      refine td_done (by kernel_rfl) ?_
      exact tx_cutX hK36 (b54, b52) (.refl _) (trivial) ⟨rfl, rfl, rfl, trivial⟩ (fun w hw => (((((hw.pick 4).pick 4).pick 4).pick 3).pick 4))
     exact tds_nil
    refine tds rfl ?_ ?_
    ·
     refine tl_alloc zc112 rfl fun b55 => ?_
     refine tl_nil ?_
     refine tx_td (fun w hw => hw.drop 2) ?_
     refine td1 5 (by kernel_rfl) rfl ?_
     refine tl_callv ca55 rfl (fun w hw => hO.of _ (List.mem_of_getElem? hx8) j_t j_a j_r (.tail _ (.tail _ (.tail _ (.tail _ (.tail _ (hm_j_a)))))) (.tail _ (.tail _ (.tail _ (.tail _ (.tail _ (hm_j_r)))))) hh_j hr10 hw) rfl ?_
     refine tl_nil ?_
     refine tx_td (fun w hw => hw.drop 2) ?_
     refine td1 11 (by kernel_rfl) rfl ?_
     refine tl_callv ca55 rfl (fun w hw => hO.of _ (List.mem_of_getElem? hx20) j_t j_a j_r (.tail _ (.tail _ (.tail _ (.tail _ (.tail _ (hm_j_a)))))) (.tail _ (.tail _ (.tail _ (.tail _ (.tail _ (hm_j_r)))))) hh_j hr22 hw) rfl ?_
     refine tl_nil ?_
     refine tx_td (fun w hw => hw.drop 2) ?_
     refine td1 14 (by kernel_rfl) rfl ?_
     refine tl_st 0 [.bool ((shapeC (Sig.mk j_a j_r) j_t x7).1), .bool ((shapeC (Sig.mk j_a j_r) j_t x7).2)] rfl rfl ld112 rfl rfl rfl rfl rfl rfl ?_
     refine tl_nil ?_
     refine tx_td (fun w hw => hw.drop 2) ?_
     refine td1 15 (by kernel_rfl) rfl ?_
     refine tl_st 1 [.bool ((shapeC (Sig.mk j_a j_r) j_t x19).1), .bool ((shapeC (Sig.mk j_a j_r) j_t x19).2)] rfl rfl ld112 rfl rfl rfl rfl rfl rfl ?_
     refine tl_nil ?_
     refine tx_tdz ?_
     refine td_done (by kernel_rfl) ?_
     exact tx_cutX hK36 (b55, b52) (.refl _) (trivial) ⟨rfl, rfl, rfl, trivial⟩ (fun w hw => (((((hw.pick 4).pick 4).pick 4).pick 3).pick 4))
    exact tds_nil
   exact tds_nil
  ·
   rintro ⟨b34, b35⟩ R57 hle58 hj56
   try replace hh_j := hh_j.mono hle58
   show TC Tryz.prog _ _ _ [] [(4, .pointer (some ⟨b33, 0, none⟩)), (5, .pointer (some ⟨b34, 0, none⟩)), (6, .pointer (some ⟨b35, 0, none⟩))] R57 (.blk b35 [.bool ((shapeC (Sig.mk j_a j_r) j_t x19).1), .bool ((shapeC (Sig.mk j_a j_r) j_t x19).2)] 112 :: .blk b34 [.bool ((shapeC (Sig.mk j_a j_r) j_t x7).1), .bool ((shapeC (Sig.mk j_a j_r) j_t x7).2)] 112 :: .blk b33 [.bool false, .bool false] 112 :: .blk b32 [.int .i64 c.op, .int .i64 c.n, .slice A1 c.args.length d2] 37 :: .blk b31 [.iface (outT j_t) (.agg #[]), .map (some b_j_a), .map (some b_j_r), .pointer (some ⟨b_j_h, 0, none⟩)] 101 :: G)
   refine tc_seq <| tc_region ?_
   refine tl (v_fieldAddr 0 rfl fo112_0 rfl) ?_
   refine tl (v_ld 1 rfl ld4 rfl rfl) ?_
   refine tl (v_move rfl) ?_
   refine tl_splitb 21 rfl (fun h59 => ?_) (fun h59 => ?_)
   ·
    refine tl_grun 21 rfl rfl ?_
    refine tl (v_fieldAddr 0 rfl fo112_0 rfl) ?_
    refine tl_grun 21 rfl rfl ?_
    refine tl (v_ld 0 rfl ld4 rfl rfl) ?_
    refine tl (v_pick_t rfl rfl) ?_
    refine tl (v_fieldAddr 1 rfl fo112_1 rfl) ?_
    refine tl (v_ld 1 rfl ld4 rfl rfl) ?_
    refine tl (v_move rfl) ?_
    refine tl_splitb 27 rfl (fun h60 => ?_) (fun h60 => ?_)
    ·
     refine tl_gskip 27 rfl rfl rfl ?_
     refine tl_gskip 27 rfl rfl rfl ?_
     refine tl (v_pick_t rfl rfl) ?_
     refine tl (v_build [.bool ((shapeC (Sig.mk j_a j_r) j_t x19).1), .bool true] zc112 pl112 rfl rfl) ?_
     refine tl_st 2 [.bool ((shapeC (Sig.mk j_a j_r) j_t x19).1), .bool true] rfl rfl ld112 rfl rfl rfl rfl rfl rfl ?_
     refine tl_nil <| tx_then <| tc_ret ?_
     refine tx_retc (cells := [.bool ((shapeC (Sig.mk j_a j_r) j_t x19).1), .bool true]) 2 (.inl rfl) rfl rfl ld112 rfl ?_
     have e61 : (((shapeC (Sig.mk j_a j_r) j_t x19).1, true) : Bool × Bool) = shapeC (Sig.mk j_a j_r) j_t c := by (have p0_ := shE_at (s := Sig.mk j_a j_r) (t := j_t) hx8; have p1_ := shE_at (s := Sig.mk j_a j_r) (t := j_t) hx20; rw [shapeC_eq (Sig.mk j_a j_r) j_t c, hop]; show _ = ((shE (shapeCs (Sig.mk j_a j_r) j_t c.args) 0 && shE (shapeCs (Sig.mk j_a j_r) j_t c.args) 1, shF (shapeCs (Sig.mk j_a j_r) j_t c.args) 0 || shF (shapeCs (Sig.mk j_a j_r) j_t c.args) 1) : Bool × Bool); rw [p0_.1, p0_.2, p1_.1, p1_.2] <;> (first | rfl | (cases j_t <;> grind [outB_eq]) | (rw [Prod.mk.injEq]; constructor <;> cases j_t <;> grind [outB_eq])))
     exact fun w hw => ⟨congrArg (fun (z : Bool × Bool) => Ending.returned (Value.agg #[.bool z.1, .bool z.2])) e61, (hw.drop 5).weaken hle58⟩
    ·
     refine tl_grun 27 rfl rfl ?_
     refine tl (v_fieldAddr 1 rfl fo112_1 rfl) ?_
     refine tl_grun 27 rfl rfl ?_
     refine tl (v_ld 0 rfl ld4 rfl rfl) ?_
     refine tl (v_pick_f rfl rfl) ?_
     refine tl (v_build [.bool ((shapeC (Sig.mk j_a j_r) j_t x19).1), .bool ((shapeC (Sig.mk j_a j_r) j_t x19).2)] zc112 pl112 rfl rfl) ?_
     refine tl_st 2 [.bool ((shapeC (Sig.mk j_a j_r) j_t x19).1), .bool ((shapeC (Sig.mk j_a j_r) j_t x19).2)] rfl rfl ld112 rfl rfl rfl rfl rfl rfl ?_
     refine tl_nil <| tx_then <| tc_ret ?_
     refine tx_retc (cells := [.bool ((shapeC (Sig.mk j_a j_r) j_t x19).1), .bool ((shapeC (Sig.mk j_a j_r) j_t x19).2)]) 2 (.inl rfl) rfl rfl ld112 rfl ?_
     have e62 : (((shapeC (Sig.mk j_a j_r) j_t x19).1, (shapeC (Sig.mk j_a j_r) j_t x19).2) : Bool × Bool) = shapeC (Sig.mk j_a j_r) j_t c := by (have p0_ := shE_at (s := Sig.mk j_a j_r) (t := j_t) hx8; have p1_ := shE_at (s := Sig.mk j_a j_r) (t := j_t) hx20; rw [shapeC_eq (Sig.mk j_a j_r) j_t c, hop]; show _ = ((shE (shapeCs (Sig.mk j_a j_r) j_t c.args) 0 && shE (shapeCs (Sig.mk j_a j_r) j_t c.args) 1, shF (shapeCs (Sig.mk j_a j_r) j_t c.args) 0 || shF (shapeCs (Sig.mk j_a j_r) j_t c.args) 1) : Bool × Bool); rw [p0_.1, p0_.2, p1_.1, p1_.2] <;> (first | rfl | (cases j_t <;> grind [outB_eq]) | (rw [Prod.mk.injEq]; constructor <;> cases j_t <;> grind [outB_eq])))
     exact fun w hw => ⟨congrArg (fun (z : Bool × Bool) => Ending.returned (Value.agg #[.bool z.1, .bool z.2])) e62, (hw.drop 5).weaken hle58⟩
   ·
    refine tl_gskip 21 rfl rfl rfl ?_
    refine tl_gskip 21 rfl rfl rfl ?_
    refine tl (v_pick_f rfl rfl) ?_
    refine tl (v_fieldAddr 1 rfl fo112_1 rfl) ?_
    refine tl (v_ld 1 rfl ld4 rfl rfl) ?_
    refine tl (v_move rfl) ?_
    refine tl_splitb 27 rfl (fun h63 => ?_) (fun h63 => ?_)
    ·
     refine tl_gskip 27 rfl rfl rfl ?_
     refine tl_gskip 27 rfl rfl rfl ?_
     refine tl (v_pick_t rfl rfl) ?_
     refine tl (v_build [.bool false, .bool true] zc112 pl112 rfl rfl) ?_
     refine tl_st 2 [.bool false, .bool true] rfl rfl ld112 rfl rfl rfl rfl rfl rfl ?_
     refine tl_nil <| tx_then <| tc_ret ?_
     refine tx_retc (cells := [.bool false, .bool true]) 2 (.inl rfl) rfl rfl ld112 rfl ?_
     have e64 : ((false, true) : Bool × Bool) = shapeC (Sig.mk j_a j_r) j_t c := by (have p0_ := shE_at (s := Sig.mk j_a j_r) (t := j_t) hx8; have p1_ := shE_at (s := Sig.mk j_a j_r) (t := j_t) hx20; rw [shapeC_eq (Sig.mk j_a j_r) j_t c, hop]; show _ = ((shE (shapeCs (Sig.mk j_a j_r) j_t c.args) 0 && shE (shapeCs (Sig.mk j_a j_r) j_t c.args) 1, shF (shapeCs (Sig.mk j_a j_r) j_t c.args) 0 || shF (shapeCs (Sig.mk j_a j_r) j_t c.args) 1) : Bool × Bool); rw [p0_.1, p0_.2, p1_.1, p1_.2] <;> (first | rfl | (cases j_t <;> grind [outB_eq]) | (rw [Prod.mk.injEq]; constructor <;> cases j_t <;> grind [outB_eq])))
     exact fun w hw => ⟨congrArg (fun (z : Bool × Bool) => Ending.returned (Value.agg #[.bool z.1, .bool z.2])) e64, (hw.drop 5).weaken hle58⟩
    ·
     refine tl_grun 27 rfl rfl ?_
     refine tl (v_fieldAddr 1 rfl fo112_1 rfl) ?_
     refine tl_grun 27 rfl rfl ?_
     refine tl (v_ld 0 rfl ld4 rfl rfl) ?_
     refine tl (v_pick_f rfl rfl) ?_
     refine tl (v_build [.bool false, .bool ((shapeC (Sig.mk j_a j_r) j_t x19).2)] zc112 pl112 rfl rfl) ?_
     refine tl_st 2 [.bool false, .bool ((shapeC (Sig.mk j_a j_r) j_t x19).2)] rfl rfl ld112 rfl rfl rfl rfl rfl rfl ?_
     refine tl_nil <| tx_then <| tc_ret ?_
     refine tx_retc (cells := [.bool false, .bool ((shapeC (Sig.mk j_a j_r) j_t x19).2)]) 2 (.inl rfl) rfl rfl ld112 rfl ?_
     have e65 : ((false, (shapeC (Sig.mk j_a j_r) j_t x19).2) : Bool × Bool) = shapeC (Sig.mk j_a j_r) j_t c := by (have p0_ := shE_at (s := Sig.mk j_a j_r) (t := j_t) hx8; have p1_ := shE_at (s := Sig.mk j_a j_r) (t := j_t) hx20; rw [shapeC_eq (Sig.mk j_a j_r) j_t c, hop]; show _ = ((shE (shapeCs (Sig.mk j_a j_r) j_t c.args) 0 && shE (shapeCs (Sig.mk j_a j_r) j_t c.args) 1, shF (shapeCs (Sig.mk j_a j_r) j_t c.args) 0 || shF (shapeCs (Sig.mk j_a j_r) j_t c.args) 1) : Bool × Bool); rw [p0_.1, p0_.2, p1_.1, p1_.2] <;> (first | rfl | (cases j_t <;> grind [outB_eq]) | (rw [Prod.mk.injEq]; constructor <;> cases j_t <;> grind [outB_eq])))
     exact fun w hw => ⟨congrArg (fun (z : Bool × Bool) => Ending.returned (Value.agg #[.bool z.1, .bool z.2])) e65, (hw.drop 5).weaken hle58⟩

set_option maxRecDepth 20000 in
set_option maxHeartbeats 8000000 in
theorem module_judge_quantified_ok {R : RO} {G : List Res} {w : World} (j_t : Bool) (j_a j_r : List Int) {b_j_a b_j_r b_j_h : Nat} {c_c : List Value} (c : Concept) (hm_j_a : Res.set keyI b_j_a j_a ∈ G) (hm_j_r : Res.set keyI b_j_r j_r ∈ G) (hh_j : R.at b_j_h 0 howL) (hr_c : kConcept.rep R c c_c) (hw_ : wfC c = true) (hop : c.op = 6) (hO : OfArgs c) (hw : Own w R (G)) :
    Calls Tryz.prog 91 [.agg #[.iface (outT j_t) (.agg #[]), .map (some b_j_a), .map (some b_j_r), .pointer (some ⟨b_j_h, 0, none⟩)], .agg c_c.toArray].toArray w (Gives R G (.agg #[.bool (shapeC (Sig.mk j_a j_r) j_t c).1, .bool (shapeC (Sig.mk j_a j_r) j_t c).2])) := by
  obtain ⟨A1, d2, rfl, i3, i4, hs5⟩ := kConcept_open hr_c
  unfold i64 at i3 i4
  have z6 := hs5.size
  unfold big at z6
  have hwf := (wfC_iff c).1 hw_
  have har := hwf.1.1
  unfold arityB at har
  have hn0 := hwf.1.2
  have hb12 : 0 < c.args.length := by (rw [hop] at har; simp at har; omega)
  obtain ⟨x7, hx8⟩ : ∃ x, c.args[0]? = some x := ⟨_, List.getElem?_eq_getElem hb12⟩
  obtain ⟨c9, hr10, ha11⟩ := hs5.get _ x7 hx8
  obtain ⟨A13, d14, rfl, i15, i16, hs17⟩ := kConcept_open hr10
  unfold i64 at i15 i16
  have z18 := hs17.size
  unfold big at z18
  refine fn_enter (vs := [.agg #[.iface (outT j_t) (.agg #[]), .map (some b_j_a), .map (some b_j_r), .pointer (some ⟨b_j_h, 0, none⟩)], .agg #[.int .i64 c.op, .int .i64 c.n, .slice A1 c.args.length d2]]) Tryz.func91 rfl rfl rfl ?_ hw
  refine tc_seq <| tc_region ?_
  refine tl_box_agg (l := [.iface (outT j_t) (.agg #[]), .map (some b_j_a), .map (some b_j_r), .pointer (some ⟨b_j_h, 0, none⟩)]) rfl rfl fun b19 => ?_
  refine tl_box_agg (l := [.int .i64 c.op, .int .i64 c.n, .slice A1 c.args.length d2]) rfl rfl fun b20 => ?_
  refine tl_alloc zc112 rfl fun b21 => ?_
  refine tl_nil <| tx_then ?_
  refine tc_cutX (X := Nat) (fun (b22 : Nat) => [(2, .pointer (some ⟨b19, 0, none⟩)), (3, .pointer (some ⟨b20, 0, none⟩)), (4, .pointer (some ⟨b21, 0, none⟩)), (5, .pointer (some ⟨b22, 0, none⟩))]) (fun (b22 : Nat) => (.blk b22 [.bool ((shapeC (Sig.mk j_a j_r) j_t x7).1), .bool ((shapeC (Sig.mk j_a j_r) j_t x7).2)] 112 :: .blk b21 [.bool false, .bool false] 112 :: .blk b20 [.int .i64 c.op, .int .i64 c.n, .slice A1 c.args.length d2] 37 :: .blk b19 [.iface (outT j_t) (.agg #[]), .map (some b_j_a), .map (some b_j_r), .pointer (some ⟨b_j_h, 0, none⟩)] 101 :: G)) (fun (b22 : Nat) (R_ : RO) => True) (fun K hK23 hE24 => ?_) ?_
  ·
   refine tc_draw R (.blk b21 [.bool false, .bool false] 112 :: .blk b20 [.int .i64 c.op, .int .i64 c.n, .slice A1 c.args.length d2] 37 :: .blk b19 [.iface (outT j_t) (.agg #[]), .map (some b_j_a), .map (some b_j_r), .pointer (some ⟨b_j_h, 0, none⟩)] 101 :: G) 7 mixed ?_
   refine td 0 rfl (by kernel_rfl) (v_ld_agg 2 [.iface (outT j_t) (.agg #[]), .map (some b_j_a), .map (some b_j_r), .pointer (some ⟨b_j_h, 0, none⟩)] rfl ld101 rfl rfl) (fun w hw => hw) ?_
   refine td 1 rfl (by kernel_rfl) (v_fieldAddr 2 rfl fo37_2 rfl) (fun w hw => hw) ?_
   refine td 2 rfl (by kernel_rfl) (v_ld 1 rfl ld35 rfl rfl) (fun w hw => hw) ?_
   refine td 3 rfl (by kernel_rfl) (v_idxS (i := 0) hs5 rfl rfl rfl sl35 hb12) (fun w hw => hw) ?_
   refine td 4 rfl (by kernel_rfl) (v_ldA_agg 0 [.int .i64 x7.op, .int .i64 x7.n, .slice A13 x7.args.length d14] ha11 rfl ld37 rfl rfl) (fun w hw => hw) ?_
   refine td_all [5, 6] (by kernel_rfl) rfl ?_
   refine tds rfl ?_ ?_
   ·
    refine tl_callv ca55 rfl (fun w hw => hO.of _ (List.mem_of_getElem? hx8) j_t j_a j_r (.tail _ (.tail _ (.tail _ (hm_j_a)))) (.tail _ (.tail _ (.tail _ (hm_j_r)))) hh_j hr10 hw) rfl ?_
    refine tl_nil ?_
    refine tx_td (fun w hw => hw) ?_
    refine td1 6 (by kernel_rfl) rfl ?_
    refine tl_alloc zc112 rfl fun b25 => ?_
    refine tl_nil ?_
    refine tx_td (fun w hw => hw.drop 1) ?_
    refine td1 7 (by kernel_rfl) rfl ?_
    refine tl_st 0 [.bool ((shapeC (Sig.mk j_a j_r) j_t x7).1), .bool ((shapeC (Sig.mk j_a j_r) j_t x7).2)] rfl rfl ld112 rfl rfl rfl rfl rfl rfl ?_
    refine tl_nil ?_
    refine tx_tdz ?_
    refine td_done (by kernel_rfl) ?_
    exact tx_cutX hK23 (b25) (.refl _) (trivial) ⟨rfl, rfl, rfl, rfl, trivial⟩ (fun w hw => hw)
   refine tds rfl ?_ ?_
   ·
    refine tl_alloc zc112 rfl fun b26 => ?_
    refine tl_nil ?_
    refine tx_td (fun w hw => hw.drop 1) ?_
    refine td1 5 (by kernel_rfl) rfl ?_
    refine tl_callv ca55 rfl (fun w hw => hO.of _ (List.mem_of_getElem? hx8) j_t j_a j_r (.tail _ (.tail _ (.tail _ (.tail _ (hm_j_a))))) (.tail _ (.tail _ (.tail _ (.tail _ (hm_j_r))))) hh_j hr10 hw) rfl ?_
    refine tl_nil ?_
    refine tx_td (fun w hw => hw.drop 1) ?_
    refine td1 7 (by kernel_rfl) rfl ?_
    refine tl_st 0 [.bool ((shapeC (Sig.mk j_a j_r) j_t x7).1), .bool ((shapeC (Sig.mk j_a j_r) j_t x7).2)] rfl rfl ld112 rfl rfl rfl rfl rfl rfl ?_
    refine tl_nil ?_
    refine tx_tdz ?_
    refine td_done (by kernel_rfl) ?_
    exact tx_cutX hK23 (b26) (.refl _) (trivial) ⟨rfl, rfl, rfl, rfl, trivial⟩ (fun w hw => hw)
   exact tds_nil
  ·
   rintro b22 R28 hle29 hj27
   try replace hh_j := hh_j.mono hle29
   show TC Tryz.prog _ _ _ [] [(2, .pointer (some ⟨b19, 0, none⟩)), (3, .pointer (some ⟨b20, 0, none⟩)), (4, .pointer (some ⟨b21, 0, none⟩)), (5, .pointer (some ⟨b22, 0, none⟩))] R28 (.blk b22 [.bool ((shapeC (Sig.mk j_a j_r) j_t x7).1), .bool ((shapeC (Sig.mk j_a j_r) j_t x7).2)] 112 :: .blk b21 [.bool false, .bool false] 112 :: .blk b20 [.int .i64 c.op, .int .i64 c.n, .slice A1 c.args.length d2] 37 :: .blk b19 [.iface (outT j_t) (.agg #[]), .map (some b_j_a), .map (some b_j_r), .pointer (some ⟨b_j_h, 0, none⟩)] 101 :: G)
   refine tc_seq <| tc_seq <| tc_region ?_
   refine tl (v_fieldAddr 2 rfl fo101_2 rfl) ?_
   refine tl (v_ld 3 rfl ld98 rfl rfl) ?_
   refine tl (v_fieldAddr 1 rfl fo37_1 rfl) ?_
   refine tl (v_ld 2 rfl ld3 rfl rfl) ?_
   refine tl (v_quo rfl rfl (by omega) (by omega)) ?_
   refine tl (mem_lookup (K := keyI) (ks := j_r) (k := (c.n / 2)) mi98 (.tail _ (.tail _ (.tail _ (.tail _ (hm_j_r))))) rfl rfl) ?_
   refine tl_nil <| tx_then ?_
   refine tc_split 17 rfl (fun h30 => ?_) (fun h30 => ?_)
   ·
    refine tc_yes rfl ?_
    refine tc_seq <| tc_region ?_
    refine tl (v_fieldAddr 0 rfl fo112_0 rfl) ?_
    refine tl (v_ld 0 rfl ld4 rfl rfl) ?_
    refine tl (v_build [.bool ((shapeC (Sig.mk j_a j_r) j_t x7).1), .bool false] zc112 pl112 rfl rfl) ?_
    refine tl_st 1 [.bool ((shapeC (Sig.mk j_a j_r) j_t x7).1), .bool false] rfl rfl ld112 rfl rfl rfl rfl rfl rfl ?_
    refine tl_nil <| tx_then <| tc_ret <| tx_then_ret ?_
    refine tx_retc (cells := [.bool ((shapeC (Sig.mk j_a j_r) j_t x7).1), .bool false]) 1 (.inl rfl) rfl rfl ld112 rfl ?_
    have e31 : (((shapeC (Sig.mk j_a j_r) j_t x7).1, false) : Bool × Bool) = shapeC (Sig.mk j_a j_r) j_t c := by (have p0_ := shE_at (s := Sig.mk j_a j_r) (t := j_t) hx8; rw [shapeC_eq (Sig.mk j_a j_r) j_t c, hop]; show _ = ((shE (shapeCs (Sig.mk j_a j_r) j_t c.args) 0 || (outB (Sig.mk j_a j_r) 6 c.n && !j_t), outB (Sig.mk j_a j_r) 6 c.n && j_t && shF (shapeCs (Sig.mk j_a j_r) j_t c.args) 0) : Bool × Bool); rw [p0_.1, p0_.2] <;> (first | rfl | (cases j_t <;> grind [outB_eq]) | (rw [Prod.mk.injEq]; constructor <;> cases j_t <;> grind [outB_eq])))
    exact fun w hw => ⟨congrArg (fun (z : Bool × Bool) => Ending.returned (Value.agg #[.bool z.1, .bool z.2])) e31, (hw.drop 4).weaken hle29⟩
   ·
    refine tc_no rfl ?_
    refine tc_skip <| tx_then <| tc_seq <| tc_region ?_
    refine tl (v_fieldAddr 0 rfl fo101_0 rfl) ?_
    refine tl (v_ld 3 rfl ld97 rfl rfl) ?_
    refine tl (v_ld_agg 0 [.bool ((shapeC (Sig.mk j_a j_r) j_t x7).1), .bool ((shapeC (Sig.mk j_a j_r) j_t x7).2)] rfl ld112 rfl rfl) ?_
    refine tl_callvG (goes_inv (mr_some j_t) (ca_some j_t) rfl rfl) (fun w hw => out_some_ok j_t ((shapeC (Sig.mk j_a j_r) j_t x7).1, (shapeC (Sig.mk j_a j_r) j_t x7).2) hw) rfl ?_
    refine tl_st 1 [.bool ((if j_t = true then ((shapeC (Sig.mk j_a j_r) j_t x7).1, (shapeC (Sig.mk j_a j_r) j_t x7).2) else (true, false)).1), .bool ((if j_t = true then ((shapeC (Sig.mk j_a j_r) j_t x7).1, (shapeC (Sig.mk j_a j_r) j_t x7).2) else (true, false)).2)] rfl rfl ld112 rfl rfl rfl rfl rfl rfl ?_
    refine tl_nil <| tx_then <| tc_ret ?_
    refine tx_retc (cells := [.bool ((if j_t = true then ((shapeC (Sig.mk j_a j_r) j_t x7).1, (shapeC (Sig.mk j_a j_r) j_t x7).2) else (true, false)).1), .bool ((if j_t = true then ((shapeC (Sig.mk j_a j_r) j_t x7).1, (shapeC (Sig.mk j_a j_r) j_t x7).2) else (true, false)).2)]) 1 (.inl rfl) rfl rfl ld112 rfl ?_
    have e32 : (((if j_t = true then ((shapeC (Sig.mk j_a j_r) j_t x7).1, (shapeC (Sig.mk j_a j_r) j_t x7).2) else (true, false)).1, (if j_t = true then ((shapeC (Sig.mk j_a j_r) j_t x7).1, (shapeC (Sig.mk j_a j_r) j_t x7).2) else (true, false)).2) : Bool × Bool) = shapeC (Sig.mk j_a j_r) j_t c := by (have p0_ := shE_at (s := Sig.mk j_a j_r) (t := j_t) hx8; rw [shapeC_eq (Sig.mk j_a j_r) j_t c, hop]; show _ = ((shE (shapeCs (Sig.mk j_a j_r) j_t c.args) 0 || (outB (Sig.mk j_a j_r) 6 c.n && !j_t), outB (Sig.mk j_a j_r) 6 c.n && j_t && shF (shapeCs (Sig.mk j_a j_r) j_t c.args) 0) : Bool × Bool); rw [p0_.1, p0_.2] <;> (first | rfl | (cases j_t <;> grind [outB_eq]) | (rw [Prod.mk.injEq]; constructor <;> cases j_t <;> grind [outB_eq])))
    exact fun w hw => ⟨congrArg (fun (z : Bool × Bool) => Ending.returned (Value.agg #[.bool z.1, .bool z.2])) e32, (hw.drop 4).weaken hle29⟩

set_option maxRecDepth 20000 in
set_option maxHeartbeats 8000000 in
theorem module_judge_universal_ok {R : RO} {G : List Res} {w : World} (j_t : Bool) (j_a j_r : List Int) {b_j_a b_j_r b_j_h : Nat} {c_c : List Value} (c : Concept) (hm_j_a : Res.set keyI b_j_a j_a ∈ G) (hm_j_r : Res.set keyI b_j_r j_r ∈ G) (hh_j : R.at b_j_h 0 howL) (hr_c : kConcept.rep R c c_c) (hw_ : wfC c = true) (hop : c.op = 7) (hO : OfArgs c) (hw : Own w R (G)) :
    Calls Tryz.prog 92 [.agg #[.iface (outT j_t) (.agg #[]), .map (some b_j_a), .map (some b_j_r), .pointer (some ⟨b_j_h, 0, none⟩)], .agg c_c.toArray].toArray w (Gives R G (.agg #[.bool (shapeC (Sig.mk j_a j_r) j_t c).1, .bool (shapeC (Sig.mk j_a j_r) j_t c).2])) := by
  obtain ⟨A1, d2, rfl, i3, i4, hs5⟩ := kConcept_open hr_c
  unfold i64 at i3 i4
  have z6 := hs5.size
  unfold big at z6
  have hwf := (wfC_iff c).1 hw_
  have har := hwf.1.1
  unfold arityB at har
  have hn0 := hwf.1.2
  have hb12 : 0 < c.args.length := by (rw [hop] at har; simp at har; omega)
  obtain ⟨x7, hx8⟩ : ∃ x, c.args[0]? = some x := ⟨_, List.getElem?_eq_getElem hb12⟩
  obtain ⟨c9, hr10, ha11⟩ := hs5.get _ x7 hx8
  obtain ⟨A13, d14, rfl, i15, i16, hs17⟩ := kConcept_open hr10
  unfold i64 at i15 i16
  have z18 := hs17.size
  unfold big at z18
  refine fn_enter (vs := [.agg #[.iface (outT j_t) (.agg #[]), .map (some b_j_a), .map (some b_j_r), .pointer (some ⟨b_j_h, 0, none⟩)], .agg #[.int .i64 c.op, .int .i64 c.n, .slice A1 c.args.length d2]]) Tryz.func92 rfl rfl rfl ?_ hw
  refine tc_seq <| tc_region ?_
  refine tl_box_agg (l := [.iface (outT j_t) (.agg #[]), .map (some b_j_a), .map (some b_j_r), .pointer (some ⟨b_j_h, 0, none⟩)]) rfl rfl fun b19 => ?_
  refine tl_box_agg (l := [.int .i64 c.op, .int .i64 c.n, .slice A1 c.args.length d2]) rfl rfl fun b20 => ?_
  refine tl_alloc zc112 rfl fun b21 => ?_
  refine tl_nil <| tx_then ?_
  refine tc_cutX (X := Nat) (fun (b22 : Nat) => [(2, .pointer (some ⟨b19, 0, none⟩)), (3, .pointer (some ⟨b20, 0, none⟩)), (4, .pointer (some ⟨b21, 0, none⟩)), (5, .pointer (some ⟨b22, 0, none⟩))]) (fun (b22 : Nat) => (.blk b22 [.bool ((shapeC (Sig.mk j_a j_r) j_t x7).1), .bool ((shapeC (Sig.mk j_a j_r) j_t x7).2)] 112 :: .blk b21 [.bool false, .bool false] 112 :: .blk b20 [.int .i64 c.op, .int .i64 c.n, .slice A1 c.args.length d2] 37 :: .blk b19 [.iface (outT j_t) (.agg #[]), .map (some b_j_a), .map (some b_j_r), .pointer (some ⟨b_j_h, 0, none⟩)] 101 :: G)) (fun (b22 : Nat) (R_ : RO) => True) (fun K hK23 hE24 => ?_) ?_
  ·
   refine tc_draw R (.blk b21 [.bool false, .bool false] 112 :: .blk b20 [.int .i64 c.op, .int .i64 c.n, .slice A1 c.args.length d2] 37 :: .blk b19 [.iface (outT j_t) (.agg #[]), .map (some b_j_a), .map (some b_j_r), .pointer (some ⟨b_j_h, 0, none⟩)] 101 :: G) 7 mixed ?_
   refine td 0 rfl (by kernel_rfl) (v_ld_agg 2 [.iface (outT j_t) (.agg #[]), .map (some b_j_a), .map (some b_j_r), .pointer (some ⟨b_j_h, 0, none⟩)] rfl ld101 rfl rfl) (fun w hw => hw) ?_
   refine td 1 rfl (by kernel_rfl) (v_fieldAddr 2 rfl fo37_2 rfl) (fun w hw => hw) ?_
   refine td 2 rfl (by kernel_rfl) (v_ld 1 rfl ld35 rfl rfl) (fun w hw => hw) ?_
   refine td 3 rfl (by kernel_rfl) (v_idxS (i := 0) hs5 rfl rfl rfl sl35 hb12) (fun w hw => hw) ?_
   refine td 4 rfl (by kernel_rfl) (v_ldA_agg 0 [.int .i64 x7.op, .int .i64 x7.n, .slice A13 x7.args.length d14] ha11 rfl ld37 rfl rfl) (fun w hw => hw) ?_
   refine td_all [5, 6] (by kernel_rfl) rfl ?_
   refine tds rfl ?_ ?_
   ·
    refine tl_callv ca55 rfl (fun w hw => hO.of _ (List.mem_of_getElem? hx8) j_t j_a j_r (.tail _ (.tail _ (.tail _ (hm_j_a)))) (.tail _ (.tail _ (.tail _ (hm_j_r)))) hh_j hr10 hw) rfl ?_
    refine tl_nil ?_
    refine tx_td (fun w hw => hw) ?_
    refine td1 6 (by kernel_rfl) rfl ?_
    refine tl_alloc zc112 rfl fun b25 => ?_
    refine tl_nil ?_
    refine tx_td (fun w hw => hw.drop 1) ?_
    refine td1 7 (by kernel_rfl) rfl ?_
    refine tl_st 0 [.bool ((shapeC (Sig.mk j_a j_r) j_t x7).1), .bool ((shapeC (Sig.mk j_a j_r) j_t x7).2)] rfl rfl ld112 rfl rfl rfl rfl rfl rfl ?_
    refine tl_nil ?_
    refine tx_tdz ?_
    refine td_done (by kernel_rfl) ?_
    exact tx_cutX hK23 (b25) (.refl _) (trivial) ⟨rfl, rfl, rfl, rfl, trivial⟩ (fun w hw => hw)
   refine tds rfl ?_ ?_
   ·
    refine tl_alloc zc112 rfl fun b26 => ?_
    refine tl_nil ?_
    refine tx_td (fun w hw => hw.drop 1) ?_
    refine td1 5 (by kernel_rfl) rfl ?_
    refine tl_callv ca55 rfl (fun w hw => hO.of _ (List.mem_of_getElem? hx8) j_t j_a j_r (.tail _ (.tail _ (.tail _ (.tail _ (hm_j_a))))) (.tail _ (.tail _ (.tail _ (.tail _ (hm_j_r))))) hh_j hr10 hw) rfl ?_
    refine tl_nil ?_
    refine tx_td (fun w hw => hw.drop 1) ?_
    refine td1 7 (by kernel_rfl) rfl ?_
    refine tl_st 0 [.bool ((shapeC (Sig.mk j_a j_r) j_t x7).1), .bool ((shapeC (Sig.mk j_a j_r) j_t x7).2)] rfl rfl ld112 rfl rfl rfl rfl rfl rfl ?_
    refine tl_nil ?_
    refine tx_tdz ?_
    refine td_done (by kernel_rfl) ?_
    exact tx_cutX hK23 (b26) (.refl _) (trivial) ⟨rfl, rfl, rfl, rfl, trivial⟩ (fun w hw => hw)
   exact tds_nil
  ·
   rintro b22 R28 hle29 hj27
   try replace hh_j := hh_j.mono hle29
   show TC Tryz.prog _ _ _ [] [(2, .pointer (some ⟨b19, 0, none⟩)), (3, .pointer (some ⟨b20, 0, none⟩)), (4, .pointer (some ⟨b21, 0, none⟩)), (5, .pointer (some ⟨b22, 0, none⟩))] R28 (.blk b22 [.bool ((shapeC (Sig.mk j_a j_r) j_t x7).1), .bool ((shapeC (Sig.mk j_a j_r) j_t x7).2)] 112 :: .blk b21 [.bool false, .bool false] 112 :: .blk b20 [.int .i64 c.op, .int .i64 c.n, .slice A1 c.args.length d2] 37 :: .blk b19 [.iface (outT j_t) (.agg #[]), .map (some b_j_a), .map (some b_j_r), .pointer (some ⟨b_j_h, 0, none⟩)] 101 :: G)
   refine tc_seq <| tc_seq <| tc_region ?_
   refine tl (v_fieldAddr 2 rfl fo101_2 rfl) ?_
   refine tl (v_ld 3 rfl ld98 rfl rfl) ?_
   refine tl (v_fieldAddr 1 rfl fo37_1 rfl) ?_
   refine tl (v_ld 2 rfl ld3 rfl rfl) ?_
   refine tl (v_quo rfl rfl (by omega) (by omega)) ?_
   refine tl (mem_lookup (K := keyI) (ks := j_r) (k := (c.n / 2)) mi98 (.tail _ (.tail _ (.tail _ (.tail _ (hm_j_r))))) rfl rfl) ?_
   refine tl_nil <| tx_then ?_
   refine tc_split 17 rfl (fun h30 => ?_) (fun h30 => ?_)
   ·
    refine tc_yes rfl ?_
    refine tc_seq <| tc_region ?_
    refine tl (v_fieldAddr 1 rfl fo112_1 rfl) ?_
    refine tl (v_ld 0 rfl ld4 rfl rfl) ?_
    refine tl (v_build [.bool false, .bool ((shapeC (Sig.mk j_a j_r) j_t x7).2)] zc112 pl112 rfl rfl) ?_
    refine tl_st 1 [.bool false, .bool ((shapeC (Sig.mk j_a j_r) j_t x7).2)] rfl rfl ld112 rfl rfl rfl rfl rfl rfl ?_
    refine tl_nil <| tx_then <| tc_ret <| tx_then_ret ?_
    refine tx_retc (cells := [.bool false, .bool ((shapeC (Sig.mk j_a j_r) j_t x7).2)]) 1 (.inl rfl) rfl rfl ld112 rfl ?_
    have e31 : ((false, (shapeC (Sig.mk j_a j_r) j_t x7).2) : Bool × Bool) = shapeC (Sig.mk j_a j_r) j_t c := by (have p0_ := shE_at (s := Sig.mk j_a j_r) (t := j_t) hx8; rw [shapeC_eq (Sig.mk j_a j_r) j_t c, hop]; show _ = ((outB (Sig.mk j_a j_r) 7 c.n && j_t && shE (shapeCs (Sig.mk j_a j_r) j_t c.args) 0, shF (shapeCs (Sig.mk j_a j_r) j_t c.args) 0 || (outB (Sig.mk j_a j_r) 7 c.n && !j_t)) : Bool × Bool); rw [p0_.1, p0_.2] <;> (first | rfl | (cases j_t <;> grind [outB_eq]) | (rw [Prod.mk.injEq]; constructor <;> cases j_t <;> grind [outB_eq])))
    exact fun w hw => ⟨congrArg (fun (z : Bool × Bool) => Ending.returned (Value.agg #[.bool z.1, .bool z.2])) e31, (hw.drop 4).weaken hle29⟩
   ·
    refine tc_no rfl ?_
    refine tc_skip <| tx_then <| tc_seq <| tc_region ?_
    refine tl (v_fieldAddr 0 rfl fo101_0 rfl) ?_
    refine tl (v_ld 3 rfl ld97 rfl rfl) ?_
    refine tl (v_ld_agg 0 [.bool ((shapeC (Sig.mk j_a j_r) j_t x7).1), .bool ((shapeC (Sig.mk j_a j_r) j_t x7).2)] rfl ld112 rfl rfl) ?_
    refine tl_callvG (goes_inv (mr_all j_t) (ca_all j_t) rfl rfl) (fun w hw => out_all_ok j_t ((shapeC (Sig.mk j_a j_r) j_t x7).1, (shapeC (Sig.mk j_a j_r) j_t x7).2) hw) rfl ?_
    refine tl_st 1 [.bool ((if j_t = true then ((shapeC (Sig.mk j_a j_r) j_t x7).1, (shapeC (Sig.mk j_a j_r) j_t x7).2) else (false, true)).1), .bool ((if j_t = true then ((shapeC (Sig.mk j_a j_r) j_t x7).1, (shapeC (Sig.mk j_a j_r) j_t x7).2) else (false, true)).2)] rfl rfl ld112 rfl rfl rfl rfl rfl rfl ?_
    refine tl_nil <| tx_then <| tc_ret ?_
    refine tx_retc (cells := [.bool ((if j_t = true then ((shapeC (Sig.mk j_a j_r) j_t x7).1, (shapeC (Sig.mk j_a j_r) j_t x7).2) else (false, true)).1), .bool ((if j_t = true then ((shapeC (Sig.mk j_a j_r) j_t x7).1, (shapeC (Sig.mk j_a j_r) j_t x7).2) else (false, true)).2)]) 1 (.inl rfl) rfl rfl ld112 rfl ?_
    have e32 : (((if j_t = true then ((shapeC (Sig.mk j_a j_r) j_t x7).1, (shapeC (Sig.mk j_a j_r) j_t x7).2) else (false, true)).1, (if j_t = true then ((shapeC (Sig.mk j_a j_r) j_t x7).1, (shapeC (Sig.mk j_a j_r) j_t x7).2) else (false, true)).2) : Bool × Bool) = shapeC (Sig.mk j_a j_r) j_t c := by (have p0_ := shE_at (s := Sig.mk j_a j_r) (t := j_t) hx8; rw [shapeC_eq (Sig.mk j_a j_r) j_t c, hop]; show _ = ((outB (Sig.mk j_a j_r) 7 c.n && j_t && shE (shapeCs (Sig.mk j_a j_r) j_t c.args) 0, shF (shapeCs (Sig.mk j_a j_r) j_t c.args) 0 || (outB (Sig.mk j_a j_r) 7 c.n && !j_t)) : Bool × Bool); rw [p0_.1, p0_.2] <;> (first | rfl | (cases j_t <;> grind [outB_eq]) | (rw [Prod.mk.injEq]; constructor <;> cases j_t <;> grind [outB_eq])))
    exact fun w hw => ⟨congrArg (fun (z : Bool × Bool) => Ending.returned (Value.agg #[.bool z.1, .bool z.2])) e32, (hw.drop 4).weaken hle29⟩

end Go.Proofs.YtcbcdlajnmkioaaGreatDoor
