/- A part of the proof of the statement ModuleGrows of isagogelaw19: functions walked, and plain laws on what they answer. -/
import Derived.Test.YtcbcdlajnmkioaaGreatDoorW
namespace Go.Proofs.YtcbcdlajnmkioaaGreatDoor
open Go Go.Proofs
set_option linter.unusedSimpArgs false
set_option linter.unusedVariables false
theorem ca103 : Callable Tryz.prog 103 := ⟨by kernel_rfl⟩
theorem ca110 : Callable Tryz.prog 110 := ⟨by kernel_rfl⟩
theorem ca111 : Callable Tryz.prog 111 := ⟨by kernel_rfl⟩
theorem ld98 : ldInfo Tryz.prog 98 = some (false, 1) := by kernel_rfl

mutual
def walkC {σ : Type} (visit : Concept → σ → σ) : Concept → σ → σ
  | .mk op n args, s => walkL visit args (visit (.mk op n args) s)
def walkL {σ : Type} (visit : Concept → σ → σ) : List Concept → σ → σ
  | [], s => s
  | x :: xs, s => walkL visit xs (walkC visit x s)
end
theorem walkC_eq {σ : Type} (visit : Concept → σ → σ) (c : Concept) (s : σ) : walkC visit c s = walkL visit c.args (visit c s) := by cases c; rw [walkC]; rfl
theorem walkL_at {σ : Type} {visit : Concept → σ → σ} {l : List Concept} {i : Nat} {x : Concept} (h : l[i]? = some x) (s : σ) : walkL visit (l.drop i) s = walkL visit (l.drop (i + 1)) (walkC visit x s) := by
  obtain ⟨hi, rfl⟩ := List.getElem?_eq_some_iff.1 h
  rw [List.drop_eq_getElem_cons hi, walkL]
theorem walkL_end {σ : Type} {visit : Concept → σ → σ} {l : List Concept} {i : Nat} (h : ¬ ((i : Int) < (l.length : Int))) (s : σ) : walkL visit (l.drop i) s = s := by
  rw [List.drop_of_length_le (by omega), walkL]

set_option maxRecDepth 20000 in
set_option maxHeartbeats 8000000 in
theorem concept_each_ok_ (m : Nat) : ∀ {R : RO} {G : List Res} {w : World} {c_c : List Value} (c : Concept) {σ_y : Type} {St_y : σ_y → Res} {L_y : Nat} {visit_y : Concept → σ_y → σ_y} (y : σ_y) (hr_c : kConcept.rep R c c_c) (hY_y : YieldOk Tryz.prog R L_y kConcept St_y visit_y), SizeOf.sizeOf c = m → Own w R (St_y y :: G) →
    Calls Tryz.prog 111 [.agg c_c.toArray, .func (.yield L_y) #[] #[]].toArray w (RetO R G (fun v_ R' L_ => v_ = (.bool true : Value) ∧ L_ = ([St_y (walkC visit_y c y)] : List Res))) := by
  induction m using Nat.strongRecOn with
  | _ m ih =>
  intro R G w c_c c σ_y St_y L_y visit_y y hr_c hY_y hm hw
  subst hm
  replace ih := Aside.mk ih
  obtain ⟨A1, d2, rfl, i3, i4, hs5⟩ := kConcept_open hr_c
  unfold i64 at i3 i4
  have z6 := hs5.size
  unfold big at z6
  refine fn_enter (vs := [.agg #[.int .i64 c.op, .int .i64 c.n, .slice A1 c.args.length d2], .func (.yield L_y) #[] #[]]) Tryz.func111 rfl rfl rfl ?_ hw
  refine tc_seq <| tc_region ?_
  refine tl_box_agg (l := [.int .i64 c.op, .int .i64 c.n, .slice A1 c.args.length d2]) rfl rfl fun b7 => ?_
  refine tl (v_assign rfl) ?_
  refine tl_nil <| tx_then <| tc_seq <| tc_seq ?_
  refine tc_of_tcr (tcr_region ?_)
  refine tlr_step rfl rfl ?_
  refine tl (v_move rfl) ?_
  refine tl_nil ?_
  refine tx_onr ?_
  refine tlr_step rfl rfl ?_
  refine tl (v_ld_agg 0 [.int .i64 c.op, .int .i64 c.n, .slice A1 c.args.length d2] rfl ld37 rfl rfl) ?_
  refine tl_nil ?_
  refine tx_onr ?_
  refine tlr_G (St_y y :: .blk b7 [.int .i64 c.op, .int .i64 c.n, .slice A1 c.args.length d2] 37 :: G) (fun w hw => (hw.pick 1)) ?_
  refine tlr_yield rfl rfl (fun w hw => hY_y.run y (.refl _) hr_c hw) rfl ?_
  rintro _ R8 _ hle9 ⟨rfl, rfl⟩
  try replace hs5 := hs5.mono hle9
  try replace hr_c := kConcept.mono _ _ _ _ hle9 hr_c
  try replace hY_y := hY_y.mono hle9
  refine tlr_step rfl rfl ?_
  refine tl (v_neg rfl) ?_
  refine tl_nil ?_
  refine tx_onr ?_
  refine tlr_nil ?_
  refine tx_then ?_
  refine tc_no rfl ?_
  refine tc_skip <| tx_then <| tc_seq <| tc_seq <| tc_region ?_
  refine tl (v_fieldAddr 2 rfl fo37_2 rfl) ?_
  refine tl (v_ld 1 rfl ld35 rfl rfl) ?_
  refine tl (v_len rfl sl35) ?_
  refine tl (v_move rfl) ?_
  refine tl_nil <| tx_then <| tc_block ?_
  refine tc_loop ?_
  refine th_loop (fun b_ : Nat × σ_y => match b_ with | (i, sv) => c.args.length - i) (fun b_ : Nat × σ_y => match b_ with | (i, sv) => [(1, .func (.yield L_y) #[] #[]), (12, .slice A1 c.args.length d2), (13, .int .i64 (c.args.length : Int)), (14, .int .i64 (i : Int))]) (fun b_ : Nat × σ_y => match b_ with | (i, sv) => (St_y sv :: .blk b7 [.int .i64 c.op, .int .i64 c.n, .slice A1 c.args.length d2] 37 :: G)) (fun (b_ : Nat × σ_y) (R_ : RO) => match b_ with | (i, sv) => i ≤ c.args.length ∧ walkL visit_y (c.args.drop i) sv = walkC visit_y c y) (0, (visit_y c y)) ⟨rfl, rfl, rfl, rfl, trivial⟩ (by exact ⟨by omega, by rw [walkC_eq, List.drop_zero]⟩) (fun w hw => hw) ?_
  rintro ⟨i, sv⟩ R12 hle13 hI10 ih11
  try replace hs5 := hs5.mono hle13
  try replace hr_c := kConcept.mono _ _ _ _ hle13 hr_c
  try replace hY_y := hY_y.mono hle13
  have hle14 := hle9.trans hle13
  show TC Tryz.prog _ _ _ [] [(1, .func (.yield L_y) #[] #[]), (12, .slice A1 c.args.length d2), (13, .int .i64 (c.args.length : Int)), (14, .int .i64 (i : Int))] R12 (St_y sv :: .blk b7 [.int .i64 c.op, .int .i64 c.n, .slice A1 c.args.length d2] 37 :: G)
  obtain ⟨hi1, hi2⟩ := hI10
  refine tc_seq <| tc_region ?_
  refine tl (v_ib rfl rfl rfl) ?_
  refine tl_nil <| tx_then <| tc_seq ?_
  refine tc_split 15 rfl (fun h15 => ?_) (fun h15 => ?_)
  ·
   refine tc_yes rfl ?_
   refine tc_skip <| tx_then <| tc_seq <| tc_block <| tc_seq <| tc_region ?_
   have hb21 : i < c.args.length := by omega
   obtain ⟨x16, hx17⟩ : ∃ x, c.args[i]? = some x := ⟨_, List.getElem?_eq_getElem hb21⟩
   obtain ⟨c18, hr19, ha20⟩ := hs5.get _ x16 hx17
   obtain ⟨A22, d23, rfl, i24, i25, hs26⟩ := kConcept_open hr19
   unfold i64 at i24 i25
   have z27 := hs26.size
   unfold big at z27
   refine tl (v_idxS (i := i) hs5 rfl rfl rfl sl35 hb21) ?_
   refine tl (v_ldA_agg 0 [.int .i64 x16.op, .int .i64 x16.n, .slice A22 x16.args.length d23] ha20 rfl ld37 rfl rfl) ?_
   refine tl_alloc zc37 rfl fun b28 => ?_
   refine tl_st 0 [.int .i64 x16.op, .int .i64 x16.n, .slice A22 x16.args.length d23] rfl rfl ld37 rfl rfl rfl rfl rfl rfl ?_
   refine tl_nil <| tx_then <| tc_seq <| tc_region ?_
   refine tl (v_ld_agg 0 [.int .i64 x16.op, .int .i64 x16.n, .slice A22 x16.args.length d23] rfl ld37 rfl rfl) ?_
   refine tl (v_move rfl) ?_
   refine tl_G (St_y sv :: .blk b28 [.int .i64 x16.op, .int .i64 x16.n, .slice A22 x16.args.length d23] 37 :: .blk b7 [.int .i64 c.op, .int .i64 c.n, .slice A1 c.args.length d2] 37 :: G) (fun w hw => (hw.pick 1)) ?_
   refine tl_callo ca111 rfl (fun w hw => ih.out (SizeOf.sizeOf x16) (by exact Concept.sizeOf_arg hx17) x16 sv hr19 hY_y rfl hw) rfl ?_
   rintro _ R30 _ hle31 ⟨rfl, rfl⟩
   try replace hr_c := kConcept.mono _ _ _ _ hle31 hr_c
   try replace hY_y := hY_y.mono hle31
   have hle32 := hle14.trans hle31
   have hle33 := hle13.trans hle31
   refine tl (v_neg rfl) ?_
   refine tl_nil <| tx_then ?_
   refine tc_no rfl ?_
   refine tc_skip <| tx_blk <| tx_then <| tc_region ?_
   refine tl (v_add rfl rfl (by omega) (by omega)) ?_
   refine tl (v_move rfl) ?_
   refine tl_nil ?_
   refine tx_round ?_
   exact fun a w ha hw => ih11.out (i + 1, (walkC visit_y x16 sv)) _ (hle31) (by exact ⟨by omega, by rw [← hi2, walkL_at hx17]⟩) (by (try dsimp only); omega) a w (ha.sub (lkAll_lk ⟨rfl, rfl, rfl, rfl, trivial⟩)) ((((hw.pick 1).tail.pick 1).pick 1))
  ·
   refine tc_no rfl ?_
   refine tc_exit <| tx_then_exit <| tx_then_exit <| tx_blk_exit <| tx_then <| tc_seq <| tc_region ?_
   refine tl (v_assign rfl) ?_
   refine tl_nil <| tx_then <| tc_ret ?_
   refine tx_ret1 (.inl rfl) rfl rfl ?_
   have e34 : (true : Bool) = true := by rfl
   have e35 : (sv : σ_y) = walkC visit_y c y := by (rw [← hi2, walkL_end (by assumption)])
   intro w hw
   exact ⟨_, _, [St_y sv], rfl, hle14, (hw.pick 1).tail, (congrArg (fun (z0_ : Bool) => (.bool z0_ : Value)) e34), (congrArg (fun (z1_ : σ_y) => ([St_y z1_] : List Res)) e35)⟩
theorem concept_each_ok {R : RO} {G : List Res} {w : World} {c_c : List Value} (c : Concept) {σ_y : Type} {St_y : σ_y → Res} {L_y : Nat} {visit_y : Concept → σ_y → σ_y} (y : σ_y) (hr_c : kConcept.rep R c c_c) (hY_y : YieldOk Tryz.prog R L_y kConcept St_y visit_y) (hw : Own w R (St_y y :: G)) :
    Calls Tryz.prog 111 [.agg c_c.toArray, .func (.yield L_y) #[] #[]].toArray w (RetO R G (fun v_ R' L_ => v_ = (.bool true : Value) ∧ L_ = ([St_y (walkC visit_y c y)] : List Res))) := concept_each_ok_ _ c y hr_c hY_y rfl hw

set_option maxRecDepth 20000 in
set_option maxHeartbeats 8000000 in
theorem concept_All_1_ok {R : RO} {G : List Res} {w : World} {σ_y : Type} {St_y : σ_y → Res} {L_y : Nat} {visit_y : Concept → σ_y → σ_y} (y : σ_y) {b_c : Nat} {c_c : List Value} (c : Concept) (hY_y : YieldOk Tryz.prog R L_y kConcept St_y visit_y) (hr_c : kConcept.rep R c c_c) (hm_c : Res.blk b_c c_c 37 ∈ G) (hw : Own w R (St_y y :: G)) :
    Calls Tryz.prog 110 [.func (.yield L_y) #[] #[], .pointer (some ⟨b_c, 0, none⟩)].toArray w (RetO R G (fun v_ R' L_ => v_ = (.tuple #[] : Value) ∧ L_ = ([St_y (walkC visit_y c y)] : List Res))) := by
  obtain ⟨A1, d2, rfl, i3, i4, hs5⟩ := kConcept_open hr_c
  unfold i64 at i3 i4
  have z6 := hs5.size
  unfold big at z6
  refine fn_enter (vs := [.func (.yield L_y) #[] #[], .pointer (some ⟨b_c, 0, none⟩)]) Tryz.func110 rfl rfl rfl ?_ hw
  refine tc_region ?_
  refine tl (mem_ld_agg [.int .i64 c.op, .int .i64 c.n, .slice A1 c.args.length d2] (.tail _ (hm_c)) rfl ld37 rfl) ?_
  refine tl (v_move rfl) ?_
  refine tl_callo ca111 rfl (fun w hw => concept_each_ok c y hr_c hY_y hw) rfl ?_
  rintro _ R8 _ hle9 ⟨rfl, rfl⟩
  refine tl_nil ?_
  refine tx_ret0 (.inr rfl) rfl ?_
  have e10 : ((walkC visit_y c y) : σ_y) = walkC visit_y c y := by rfl
  intro w hw
  exact ⟨_, _, [St_y (walkC visit_y c y)], rfl, hle9, hw, rfl, (congrArg (fun (z0_ : σ_y) => ([St_y z0_] : List Res)) e10)⟩

theorem v_quoT {P : Program} {n : Nat} {D : List Deferred} {env : List (Nat × Value)} {R : RO} {G : List Res} {t x y yt d a ty pos af} (hx : ev env x = some (.int .i64 a)) (hy : ev env y = some (.int .i64 2)) (h0 : i64 a) : VAL P n D env R G ⟨some d, .binOp .quo t x y yt, ty, pos, af, none⟩ (.int .i64 (a.tdiv 2)) :=
  v_bin hx hy fun w => by
    rw [eqGuard_at_int, binOp_quo]
    unfold Op.intDiv
    rw [if_neg (by omega)]
    unfold i64 at h0
    show Result.ok (Value.int .i64 (IntKind.i64.wrap (a.tdiv 2))) w = _
    have hb : -9223372036854775808 ≤ a.tdiv 2 ∧ a.tdiv 2 ≤ 9223372036854775807 := by
      rcases Int.le_total 0 a with h | h
      · rw [Int.tdiv_eq_ediv_of_nonneg h]; omega
      · obtain ⟨b, rfl⟩ : ∃ b, a = -b := ⟨-a, by omega⟩
        rw [Int.neg_tdiv, Int.tdiv_eq_ediv_of_nonneg (by omega)]; omega
    rw [wrap_in hb.1 hb.2]

set_option maxRecDepth 20000 in
set_option maxHeartbeats 8000000 in
theorem concept_All_ok {R : RO} {G : List Res} {w : World} {c_c : List Value} (c : Concept) (hr_c : kConcept.rep R c c_c) (hw : Own w R (G)) :
    Calls Tryz.prog 103 [.agg c_c.toArray].toArray w (RetO R G (fun v_ R' L_ => ∃ (b_ : Nat), v_ = (.func (.func 110) #[] #[.pointer (some ⟨b_, 0, none⟩)] : Value) ∧ L_ = ([.blk b_ c_c 37] : List Res))) := by
  obtain ⟨A1, d2, rfl, i3, i4, hs5⟩ := kConcept_open hr_c
  unfold i64 at i3 i4
  have z6 := hs5.size
  unfold big at z6
  refine fn_enter (vs := [.agg #[.int .i64 c.op, .int .i64 c.n, .slice A1 c.args.length d2]]) Tryz.func103 rfl rfl rfl ?_ hw
  refine tc_seq <| tc_region ?_
  refine tl_box_agg (l := [.int .i64 c.op, .int .i64 c.n, .slice A1 c.args.length d2]) rfl rfl fun b7 => ?_
  refine tl (v_assign rfl) ?_
  refine tl_nil <| tx_then <| tc_seq <| tc_region ?_
  refine tl (v_mkF rfl) ?_
  refine tl (v_assign rfl) ?_
  refine tl_nil <| tx_then <| tc_ret ?_
  refine tx_ret1 (.inl rfl) rfl rfl ?_
  exact fun w hw => ⟨_, _, _, rfl, .refl _, hw, _, rfl, rfl⟩

def visitM (d : Concept) (s : List Int × List Int) : List Int × List Int := if d.op = 0 then (insK s.1 d.n, s.2) else if d.op = 6 ∨ d.op = 7 then (s.1, insK s.2 (d.n.tdiv 2)) else s

set_option maxRecDepth 20000 in
set_option maxHeartbeats 8000000 in
theorem concept_Mark_ok {R : RO} {G : List Res} {w : World} {c_c : List Value} (c : Concept) (a : List Int) {b_a : Nat} (r : List Int) {b_r : Nat} (hr_c : kConcept.rep R c c_c) (hw : Own w R (.set keyI b_a a :: .set keyI b_r r :: G)) :
    Calls Tryz.prog 93 [.agg c_c.toArray, .map (some b_a), .map (some b_r)].toArray w (RetO R G (fun v_ R' L_ => v_ = (.tuple #[] : Value) ∧ L_ = ([.set keyI b_a ((walkC visitM c (a, r)).1), .set keyI b_r ((walkC visitM c (a, r)).2)] : List Res))) := by
  obtain ⟨A1, d2, rfl, i3, i4, hs5⟩ := kConcept_open hr_c
  unfold i64 at i3 i4
  have z6 := hs5.size
  unfold big at z6
  refine fn_enterM (vs := [.agg #[.int .i64 c.op, .int .i64 c.n, .slice A1 c.args.length d2], .map (some b_a), .map (some b_r)]) Tryz.func93 rfl rfl rfl ?_ hw
  refine tc_seq <| tc_region ?_
  refine tl_box_agg (l := [.int .i64 c.op, .int .i64 c.n, .slice A1 c.args.length d2]) rfl rfl fun b7 => ?_
  refine tl_box rfl rfl rfl fun b8 => ?_
  refine tl_box rfl rfl rfl fun b9 => ?_
  refine tl_nil <| tx_then <| tc_seq <| tc_region ?_
  refine tl (v_ld_agg 2 [.int .i64 c.op, .int .i64 c.n, .slice A1 c.args.length d2] rfl ld37 rfl rfl) ?_
  refine tl_callo ca103 rfl (fun w hw => concept_All_ok c hr_c hw) rfl ?_
  rintro _ R11 _ hle12 ⟨b10, rfl, rfl⟩
  try replace hr_c := kConcept.mono _ _ _ _ hle12 hr_c
  refine tl_nil <| tx_then <| tc_block ?_
  refine tc_env [(4, .pointer (some ⟨b8, 0, none⟩)), (5, .pointer (some ⟨b9, 0, none⟩)), (8, .func (.func 110) #[] #[.pointer (some ⟨b10, 0, none⟩)])] ⟨rfl, rfl, rfl, trivial⟩ ?_
  refine tc_range (κ := kConcept) (σ := List Int × List Int) (Z := Nat) (fun s_ => [.blk b8 [.map (some b_a)] 98, .blk b9 [.map (some b_r)] 98, .set keyI b_a s_.1, .set keyI b_r s_.2]) visitM (walkC visitM c) (a, r) (.blk b10 [.int .i64 c.op, .int .i64 c.n, .slice A1 c.args.length d2] 37 :: .blk b7 [.int .i64 c.op, .int .i64 c.n, .slice A1 c.args.length d2] 37 :: G) (fun b_ cs_ => [(6, .pointer (some ⟨b_, 0, none⟩)), (4, .pointer (some ⟨b8, 0, none⟩)), (5, .pointer (some ⟨b9, 0, none⟩))]) (fun b_ cs_ s_ => .blk b_ cs_ 37 :: [.blk b8 [.map (some b_a)] 98, .blk b9 [.map (some b_r)] 98, .set keyI b_a s_.1, .set keyI b_r s_.2]) rfl ca110 rfl (fun w hw => ((((((hw.pick 3).pick 1).pick 5).pick 5).pick 4).pick 5)) ?_ ?_ ?_ ?_
  · intro l_ R_ s_ x_ cs_ G1_ K_ hle_ hr_ hK_
    obtain ⟨A_, d_, rfl, i1_, i2_, hs_⟩ := kConcept_open hr_
    refine tcr_region (tlr_step rfl rfl ?_)
    refine tl_alloc zc37 rfl fun b_ => ?_
    refine tl_nil (tx_onr (tlr_step rfl rfl ?_))
    refine tl_st 0 [.int .i64 x_.op, .int .i64 x_.n, .slice A_ x_.args.length d_] rfl rfl ld37 rfl rfl rfl rfl rfl rfl ?_
    refine tl_nil (tx_onr (tlr_nil ?_))
    exact fun a_ w_ ha_ hw_ => hK_ b_ a_ w_ R_ (.refl _) (ha_.sub (lkAll_lk ⟨rfl, rfl, rfl, trivial⟩)) hw_
  · intro b_ l_ R_ s_ x_ cs_ G1_ K_ hle_ hr_ hK_
    obtain ⟨A_, d_, rfl, i1_, i2_, hs_⟩ := kConcept_open hr_
    have hend_ : ∀ (e_ : List (Nat × Value)) (G_ : List Res), (∀ w, Own w R_ G_ → Own w R_ ([.blk b8 [.map (some b_a)] 98, .blk b9 [.map (some b_r)] 98, .set keyI b_a (visitM x_ s_).1, .set keyI b_r (visitM x_ s_).2] ++ G1_)) → TX K_ .normal Tryz.f93.ntmps [] e_ R_ G_ := fun e_ G_ h_ a_ w_ ha_ hw_ => hK_ a_ w_ R_ (.refl _) (h_ w_ hw_)
    refine tcr_block (tcr_seq (tcr_region ?_))
    refine tlr_step rfl rfl ?_
    refine tl (v_fieldAddr 0 rfl fo37_0 rfl) ?_
    refine tl_nil (tx_onr ?_)
    refine tlr_step rfl rfl ?_
    refine tl (v_ld 0 rfl ld3 rfl rfl) ?_
    refine tl_nil (tx_onr ?_)
    refine tlr_nil (txr_then (tcr_block (tcr_seq (tcr_region ?_))))
    refine tlr_step rfl rfl ?_
    refine tl (v_ib rfl rfl rfl) ?_
    refine tl_nil (tx_onr ?_)
    refine tlr_step rfl rfl ?_
    refine tl (v_assign rfl) ?_
    refine tl_nil (tx_onr ?_)
    refine tlr_nil (txr_then (tcr_cond rfl (fun h_ => ?_) fun h_ => ?_))
    · have q_ : visitM x_ s_ = (insK s_.1 x_.n, s_.2) := by unfold visitM; rw [if_pos (by simpa using h_)]
      rw [q_] at hend_
      refine tcr_region ?_
      refine tlr_step rfl rfl ?_
      refine tl (v_ld 1 rfl ld98 rfl rfl) ?_
      refine tl_nil (tx_onr ?_)
      refine tlr_step rfl rfl ?_
      refine tl (v_fieldAddr 1 rfl fo37_1 rfl) ?_
      refine tl_nil (tx_onr ?_)
      refine tlr_step rfl rfl ?_
      refine tl (v_ld 0 rfl ld3 rfl rfl) ?_
      refine tl_nil (tx_onr ?_)
      refine tlr_step rfl rfl ?_
      refine tl_mapset (K := keyI) (ks := s_.1) (k := x_.n) 3 mi98 rfl rfl rfl ?_
      refine tl_nil (tx_onr ?_)
      refine tlr_nil (tx_blk (tx_blk ?_))
      exact hend_ _ _ fun w hw => hw.tail
    · have h0_ : ¬ x_.op = 0 := by simpa using h_
      refine tcr_seq (tcr_seq (tcr_region ?_))
      refine tlr_step rfl rfl ?_
      refine tl (v_ib rfl rfl rfl) ?_
      refine tl_nil (tx_onr ?_)
      refine tlr_step rfl rfl ?_
      refine tl (v_assign rfl) ?_
      refine tl_nil (tx_onr ?_)
      refine tlr_nil (txr_then (tcr_cond rfl (fun h6_ => ?_) fun h6_ => ?_))
      · have q_ : visitM x_ s_ = (s_.1, insK s_.2 (x_.n.tdiv 2)) := by unfold visitM; rw [if_neg h0_, if_pos (.inl (by simpa using h6_))]
        rw [q_] at hend_
        rw [h6_]
        refine tcr_skip (txr_then (tcr_cond rfl (fun _ => ?_) fun h_ => by cases h_))
        refine tcr_region ?_
        refine tlr_step rfl rfl ?_
        refine tl (v_ld 2 rfl ld98 rfl rfl) ?_
        refine tl_nil (tx_onr ?_)
        refine tlr_step rfl rfl ?_
        refine tl (v_fieldAddr 1 rfl fo37_1 rfl) ?_
        refine tl_nil (tx_onr ?_)
        refine tlr_step rfl rfl ?_
        refine tl (v_ld 0 rfl ld3 rfl rfl) ?_
        refine tl_nil (tx_onr ?_)
        refine tlr_step rfl rfl ?_
        refine tl (v_quoT rfl rfl i2_) ?_
        refine tl_nil (tx_onr ?_)
        refine tlr_step rfl rfl ?_
        refine tl_mapset (K := keyI) (ks := s_.2) (k := x_.n.tdiv 2) 4 mi98 rfl rfl rfl ?_
        refine tl_nil (tx_onr ?_)
        refine tlr_nil (tx_blk (tx_blk ?_))
        exact hend_ _ _ fun w hw => hw.tail
      · have h6_ : ¬ x_.op = 6 := by simpa using h6_
        refine tcr_region ?_
        refine tlr_step rfl rfl ?_
        refine tl (v_ib rfl rfl rfl) ?_
        refine tl_nil (tx_onr ?_)
        refine tlr_step rfl rfl ?_
        refine tl (v_assign rfl) ?_
        refine tl_nil (tx_onr ?_)
        refine tlr_nil (txr_then (tcr_cond rfl (fun h7_ => ?_) fun h7_ => ?_))
        · have q_ : visitM x_ s_ = (s_.1, insK s_.2 (x_.n.tdiv 2)) := by unfold visitM; rw [if_neg h0_, if_pos (.inr (by simpa using h7_))]
          rw [q_] at hend_
          refine tcr_region ?_
          refine tlr_step rfl rfl ?_
          refine tl (v_ld 2 rfl ld98 rfl rfl) ?_
          refine tl_nil (tx_onr ?_)
          refine tlr_step rfl rfl ?_
          refine tl (v_fieldAddr 1 rfl fo37_1 rfl) ?_
          refine tl_nil (tx_onr ?_)
          refine tlr_step rfl rfl ?_
          refine tl (v_ld 0 rfl ld3 rfl rfl) ?_
          refine tl_nil (tx_onr ?_)
          refine tlr_step rfl rfl ?_
          refine tl (v_quoT rfl rfl i2_) ?_
          refine tl_nil (tx_onr ?_)
          refine tlr_step rfl rfl ?_
          refine tl_mapset (K := keyI) (ks := s_.2) (k := x_.n.tdiv 2) 4 mi98 rfl rfl rfl ?_
          refine tl_nil (tx_onr ?_)
          refine tlr_nil (tx_blk (tx_blk ?_))
          exact hend_ _ _ fun w hw => hw.tail
        · have h7_ : ¬ x_.op = 7 := by simpa using h7_
          have q_ : visitM x_ s_ = s_ := by unfold visitM; rw [if_neg h0_, if_neg (by omega)]
          rw [q_] at hend_
          refine tcr_skip (tx_blk (tx_blk ?_))
          exact hend_ _ _ fun w hw => hw.tail
  · intro L_ St_ hY_ w_ hw_
    have h_ := concept_All_1_ok (St_y := St_) (a, r) c hY_ hr_c (.head _) hw_
    refine h_.mono ?_
    rintro e_ w1_ ⟨v_, R1_, L1_, rfl, hle_, ho_, rfl, rfl⟩
    exact ⟨_, R1_, _, rfl, hle_, ho_, rfl⟩
  · intro B_ R1_ hle_
    refine tx_blk (tx_ret0M (.inr rfl) rfl fun w hw => ?_)
    exact ⟨_, _, [_, _], rfl, hle12.trans hle_, ((hw.tail.tail.pick 2).tail.pick 2).tail, rfl, rfl⟩

end Go.Proofs.YtcbcdlajnmkioaaGreatDoor
