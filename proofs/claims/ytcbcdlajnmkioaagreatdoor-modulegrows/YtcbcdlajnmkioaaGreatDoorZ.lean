/- A part of the proof of the statement ModuleGrows of isagogelaw19: functions walked, and plain laws on what they answer. -/
import Derived.Test.YtcbcdlajnmkioaaGreatDoorY
namespace Go.Proofs.YtcbcdlajnmkioaaGreatDoor
open Go Go.Proofs
set_option linter.unusedSimpArgs false
set_option linter.unusedVariables false
theorem ca156 : Callable Tryz.prog 156 := ⟨by kernel_rfl⟩
theorem ca157 : Callable Tryz.prog 157 := ⟨by kernel_rfl⟩
theorem ca158 : Callable Tryz.prog 158 := ⟨by kernel_rfl⟩
theorem ca159 : Callable Tryz.prog 159 := ⟨by kernel_rfl⟩
theorem ca160 : Callable Tryz.prog 160 := ⟨by kernel_rfl⟩
theorem ca161 : Callable Tryz.prog 161 := ⟨by kernel_rfl⟩
theorem ca162 : Callable Tryz.prog 162 := ⟨by kernel_rfl⟩
theorem ca163 : Callable Tryz.prog 163 := ⟨by kernel_rfl⟩
theorem ca164 : Callable Tryz.prog 164 := ⟨by kernel_rfl⟩
theorem ca165 : Callable Tryz.prog 165 := ⟨by kernel_rfl⟩
theorem ca52 : Callable Tryz.prog 52 := ⟨by kernel_rfl⟩
theorem ca73 : Callable Tryz.prog 73 := ⟨by kernel_rfl⟩
theorem ca74 : Callable Tryz.prog 74 := ⟨by kernel_rfl⟩
theorem ld112 : ldInfo Tryz.prog 112 = some (true, 2) := by kernel_rfl
theorem mr141_156 : mrow Tryz.prog 141 "isagoge/module.all" = some 156 := by kernel_rfl
theorem mr141_157 : mrow Tryz.prog 141 "isagoge/module.empty" = some 157 := by kernel_rfl
theorem mr141_158 : mrow Tryz.prog 141 "isagoge/module.link" = some 158 := by kernel_rfl
theorem mr141_159 : mrow Tryz.prog 141 "isagoge/module.role" = some 159 := by kernel_rfl
theorem mr141_160 : mrow Tryz.prog 141 "isagoge/module.some" = some 160 := by kernel_rfl
theorem mr142_161 : mrow Tryz.prog 142 "isagoge/module.all" = some 161 := by kernel_rfl
theorem mr142_162 : mrow Tryz.prog 142 "isagoge/module.empty" = some 162 := by kernel_rfl
theorem mr142_163 : mrow Tryz.prog 142 "isagoge/module.link" = some 163 := by kernel_rfl
theorem mr142_164 : mrow Tryz.prog 142 "isagoge/module.role" = some 164 := by kernel_rfl
theorem mr142_165 : mrow Tryz.prog 142 "isagoge/module.some" = some 165 := by kernel_rfl
theorem pl112 : places Tryz.prog 112 = some (true, [(0, 1), (1, 1)], 0) := by kernel_rfl
theorem zc112 : zcells Tryz.prog 112 = some [.bool false, .bool false] := by kernel_rfl

theorem useI_good {n : Names} : ∀ (l : List Incl) (s : List Int × List Int), (∀ x ∈ l, shapedB n x.sub = true ∧ shapedB n x.sup = true) → GoodS n s → GoodS n (useI l s)
  | [], s, _, h => h
  | x :: xs, s, hl, h => useI_good xs _ (fun y hy => hl y (by simp [hy])) (walk_good _ _ (hl x (by simp)).2 (walk_good _ _ (hl x (by simp)).1 h))
theorem useR_good {n : Names} : ∀ (l : List RoleIncl) (r : List Int), (∀ x ∈ l, okR n x.sub ∧ okR n x.sup) → GoodI n.roles.length r → GoodI n.roles.length (useR l r)
  | [], r, _, h => h
  | x :: xs, r, hl, h => by
    have q := hl x (by simp)
    unfold okR at q
    exact useR_good xs _ (fun y hy => hl y (by simp [hy])) ((h.ins (by omega)).ins (by omega))
theorem useF_good {n : Names} : ∀ (l : List Fact) (s : List Int × List Int), (∀ x ∈ l, shapedB n x.con = true) → GoodS n s → GoodS n (useF l s)
  | [], s, _, h => h
  | x :: xs, s, hl, h => useF_good xs _ (fun y hy => hl y (by simp [hy])) (walk_good _ _ (hl x (by simp)) h)
theorem useL_good {n : Names} : ∀ (l : List Link) (r : List Int), (∀ x ∈ l, okL n x) → GoodI n.roles.length r → GoodI n.roles.length (useL l r)
  | [], r, _, h => h
  | x :: xs, r, hl, h => by
    have q := hl x (by simp)
    unfold okL at q
    exact useL_good xs _ (fun y hy => hl y (by simp [hy])) (h.ins (by omega))
theorem usesRaw_good {b : Base} (h : BaseOk b) : GoodI b.names.concepts.length (usesRaw b).1.1 ∧ GoodI b.names.roles.length (usesRaw b).1.2 := by
  have h1 : GoodS b.names (useI b.incls ([], [])) := useI_good _ _ (fun x hx => by obtain ⟨i, hi⟩ := List.mem_iff_getElem?.1 hx; exact h.sh_incl hi) ⟨List.nodup_nil, List.nodup_nil, by simp, by simp⟩
  have h2 := useR_good b.roles _ h.roles h1.r
  have h3 := useF_good b.facts _ (fun x hx => by obtain ⟨i, hi⟩ := List.mem_iff_getElem?.1 hx; exact h.sh_fact hi) (h1.set2 h2)
  exact ⟨h3.c, useL_good b.links _ h.links h3.r⟩
theorem kuses_len (b : Base) : (kuses b).1.length ≤ 1000 ∧ (kuses b).2.1.length ≤ 1000 := by
  unfold kuses
  split
  · rename_i h
    have hb : BaseOk b := of_decide_eq_true h
    have hn := hb.namesLen
    have ⟨h1, h2⟩ := usesRaw_good hb
    have := in_range_len h1.nd h1.inr
    have := in_range_len h2.nd h2.inr
    simp only [sortI_len]
    exact ⟨by omega, by omega⟩
  · exact ⟨Nat.zero_le _, Nat.zero_le _⟩
def namesP (b : Base) (l : List Int) : Sig := ⟨(kuses (pickB b l)).1, (kuses (pickB b l)).2.1⟩

set_option maxRecDepth 20000 in
set_option maxHeartbeats 8000000 in
theorem module_names_ok {R : RO} {G : List Res} {w : World} {c_b : List Value} (b : Base) {A_l : Option Addr} {d_l : Nat} (l : List (Int)) (hr_b : kBase.rep R b c_b) (hs_l : SlAt kInt R A_l l) (hG : Glob R) (hB : BaseOk b) (hl : l.length ≤ 100 ∧ ∀ k ∈ l, 0 ≤ k ∧ k < axiomsN b) (hw : Own w R (G)) :
    Calls Tryz.prog 53 [.agg c_b.toArray, .slice A_l l.length d_l].toArray w (RetO R G (fun v_ R' L_ => ∃ (cs_0 : List Value), v_ = (.agg cs_0.toArray : Value) ∧ L_ = ([] : List Res) ∧ kSig.rep R' (namesP b l) cs_0)) := by
  obtain ⟨c1, A3, d4, A6, d7, A9, d10, A12, d13, rfl, hr2, hs5, hs8, hs11, hs14⟩ := id hr_b
  have z27 := hs5.size
  unfold big at z27
  have z28 := hs8.size
  unfold big at z28
  have z29 := hs11.size
  unfold big at z29
  have z30 := hs14.size
  unfold big at z30
  obtain ⟨A15, d16, A19, d20, A23, d24, rfl, hs17, hs21, hs25⟩ := id hr2
  have z18 := hs17.size
  unfold big at z18
  have z22 := hs21.size
  unfold big at z22
  have z26 := hs25.size
  unfold big at z26
  have hz_l := hs_l.size
  unfold big at hz_l
  refine fn_enter (vs := [.agg #[.slice A15 b.names.concepts.length d16, .slice A19 b.names.roles.length d20, .slice A23 b.names.inds.length d24, .slice A3 b.incls.length d4, .slice A6 b.roles.length d7, .slice A9 b.facts.length d10, .slice A12 b.links.length d13], .slice A_l l.length d_l]) Tryz.func53 rfl rfl rfl ?_ hw
  refine tc_seq <| tc_region ?_
  refine tl_box_agg (l := [.slice A15 b.names.concepts.length d16, .slice A19 b.names.roles.length d20, .slice A23 b.names.inds.length d24, .slice A3 b.incls.length d4, .slice A6 b.roles.length d7, .slice A9 b.facts.length d10, .slice A12 b.links.length d13]) rfl rfl fun b31 => ?_
  refine tl_alloc zc33 rfl fun b32 => ?_
  refine tl_nil <| tx_then <| tc_seq <| tc_region ?_
  refine tl (v_ld_agg 1 [.slice A15 b.names.concepts.length d16, .slice A19 b.names.roles.length d20, .slice A23 b.names.inds.length d24, .slice A3 b.incls.length d4, .slice A6 b.roles.length d7, .slice A9 b.facts.length d10, .slice A12 b.links.length d13] rfl ld30 rfl rfl) ?_
  refine tl (v_move rfl) ?_
  refine tl_callo ca74 rfl (fun w hw => kb_Pick_ok b l hr_b hs_l (by first | assumption | omega) (by first | assumption | omega) hw) rfl ?_
  rintro _ R34 _ hle35 ⟨cs_z33_0, rfl, rfl, hr_z33_0⟩
  try replace hG := hG.mono hle35
  obtain ⟨c36, A38, d39, A41, d42, A44, d45, A47, d48, rfl, hr37, hs40, hs43, hs46, hs49⟩ := id hr_z33_0
  have z62 := hs40.size
  unfold big at z62
  have z63 := hs43.size
  unfold big at z63
  have z64 := hs46.size
  unfold big at z64
  have z65 := hs49.size
  unfold big at z65
  obtain ⟨A50, d51, A54, d55, A58, d59, rfl, hs52, hs56, hs60⟩ := id hr37
  have z53 := hs52.size
  unfold big at z53
  have z57 := hs56.size
  unfold big at z57
  have z61 := hs60.size
  unfold big at z61
  refine tl_callo ca73 rfl (fun w hw => kb_Uses_ok (pickB b l) hr_z33_0 (by first | assumption | omega) hw) rfl ?_
  rintro _ R67 _ hle68 ⟨A_z66_0, c_z66_0, l_z66_0, A_z66_1, c_z66_1, l_z66_1, A_z66_2, c_z66_2, l_z66_2, rfl, rfl, hv_z66_0, hv_z66_1, hv_z66_2⟩
  try replace hG := hG.mono hle68
  have hle69 := hle35.trans hle68
  refine tl (v_move rfl) ?_
  refine tl (v_extract rfl rfl) ?_
  refine tl (v_extract rfl rfl) ?_
  refine tl (v_extract rfl rfl) ?_
  refine tl (v_extract rfl rfl) ?_
  refine tl (v_assign rfl) ?_
  refine tl (v_assign rfl) ?_
  refine tl (v_assign rfl) ?_
  refine tl (v_assign rfl) ?_
  refine tl_nil <| tx_then <| tc_seq <| tc_region ?_
  refine tl (v_move rfl) ?_
  refine tl (v_move rfl) ?_
  refine tl (v_build [.slice A_z66_0 (((kuses (pickB b l)).1).length) c_z66_0, .slice A_z66_1 (((kuses (pickB b l)).2.1).length) c_z66_1] zc33 pl33 rfl rfl) ?_
  refine tl_st 3 [.slice A_z66_0 (((kuses (pickB b l)).1).length) c_z66_0, .slice A_z66_1 (((kuses (pickB b l)).2.1).length) c_z66_1] rfl rfl ld33 rfl rfl rfl rfl rfl rfl ?_
  refine tl_nil <| tx_then <| tc_ret ?_
  refine tx_retireV (k := kInt) (l := ((kuses (pickB b l)).1)) 0 rfl hv_z66_0 rfl (by (unfold big; have q_ := kuses_len (pickB b l); omega)) fun R71 hle72 hs70 => ?_
  try replace hG := hG.mono hle72
  try replace hv_z66_1 := Kd.reps_mono hle72 hv_z66_1
  have hle73 := hle69.trans hle72
  have hle74 := hle68.trans hle72
  have z75 := hs70.size
  unfold big at z75
  refine tx_retireV (k := kInt) (l := ((kuses (pickB b l)).2.1)) 0 rfl hv_z66_1 rfl (by (unfold big; have q_ := kuses_len (pickB b l); omega)) fun R77 hle78 hs76 => ?_
  try replace hG := hG.mono hle78
  try replace hs70 := hs70.mono hle78
  have hle79 := hle73.trans hle78
  have hle80 := hle74.trans hle78
  have hle81 := hle72.trans hle78
  have z82 := hs76.size
  unfold big at z82
  refine tx_retc (cells := [.slice A_z66_0 (((kuses (pickB b l)).1).length) c_z66_0, .slice A_z66_1 (((kuses (pickB b l)).2.1).length) c_z66_1]) 1 (.inl rfl) rfl rfl ld33 rfl ?_
  have e83 : ((Sig.mk ((kuses (pickB b l)).1) ((kuses (pickB b l)).2.1)) : Sig) = namesP b l := by rfl
  intro w hw
  exact ⟨_, _, [], rfl, hle79, hw.drop 3, ([.slice A_z66_0 (((kuses (pickB b l)).1).length) c_z66_0, .slice A_z66_1 (((kuses (pickB b l)).2.1).length) c_z66_1]), rfl, rfl, (Eq.mp (congrArg (fun z => kSig.rep R77 z [.slice A_z66_0 (((kuses (pickB b l)).1).length) c_z66_0, .slice A_z66_1 (((kuses (pickB b l)).2.1).length) c_z66_1]) e83) ⟨_, _, _, _, rfl, hs70, hs76⟩)⟩

def outT (t : Bool) : Nat := if t then 142 else 141
def howL : List Value := [.func (.func 85) #[] #[], .func (.func 86) #[] #[], .func (.func 87) #[] #[], .func (.func 88) #[] #[], .func (.func 89) #[] #[], .func (.func 90) #[] #[], .func (.func 91) #[] #[], .func (.func 92) #[] #[]]
theorem how_at {R : RO} {b : Nat} (h : R.at b 0 howL) {i : Int} (h0 : 0 ≤ i) (h1 : i ≤ 7) : R.at b i.toNat [.func (.func (85 + i.toNat)) #[] #[]] := by
  intro j v hj
  obtain ⟨k, rfl⟩ := Int.eq_ofNat_of_zero_le h0
  have : k = 0 ∨ k = 1 ∨ k = 2 ∨ k = 3 ∨ k = 4 ∨ k = 5 ∨ k = 6 ∨ k = 7 := by omega
  have hj0 : j = 0 := by
    have := (List.getElem?_eq_some_iff.1 hj).1
    simpa using this
  subst hj0
  simp only [List.getElem?_cons_zero, Option.some.injEq] at hj
  subst hj
  rcases this with rfl | rfl | rfl | rfl | rfl | rfl | rfl | rfl
  · exact h 0 _ rfl
  · exact h 1 _ rfl
  · exact h 2 _ rfl
  · exact h 3 _ rfl
  · exact h 4 _ rfl
  · exact h 5 _ rfl
  · exact h 6 _ rfl
  · exact h 7 _ rfl

set_option maxRecDepth 20000 in
set_option maxHeartbeats 8000000 in
theorem module_right_ok {R : RO} {G : List Res} {w : World} {c_n : List Value} (n : Names) {c_s : List Value} (s : Sig) (hr_n : kNames.rep R n c_n) (hr_s : kSig.rep R s c_s) (hw : Own w R (G)) :
    Calls Tryz.prog 35 [.agg c_n.toArray, .agg c_s.toArray].toArray w (Gives R G (.bool (sigB n s))) := by
  obtain ⟨A1, d2, A5, d6, A9, d10, rfl, hs3, hs7, hs11⟩ := id hr_n
  have z4 := hs3.size
  unfold big at z4
  have z8 := hs7.size
  unfold big at z8
  have z12 := hs11.size
  unfold big at z12
  obtain ⟨A13, d14, A17, d18, rfl, hs15, hs19⟩ := id hr_s
  have z16 := hs15.size
  unfold big at z16
  have z20 := hs19.size
  unfold big at z20
  refine fn_enter (vs := [.agg #[.slice A1 n.concepts.length d2, .slice A5 n.roles.length d6, .slice A9 n.inds.length d10], .agg #[.slice A13 s.concepts.length d14, .slice A17 s.roles.length d18]]) Tryz.func35 rfl rfl rfl ?_ hw
  refine tc_seq <| tc_region ?_
  refine tl_box_agg (l := [.slice A1 n.concepts.length d2, .slice A5 n.roles.length d6, .slice A9 n.inds.length d10]) rfl rfl fun b21 => ?_
  refine tl_box_agg (l := [.slice A13 s.concepts.length d14, .slice A17 s.roles.length d18]) rfl rfl fun b22 => ?_
  refine tl (v_assign rfl) ?_
  refine tl_nil <| tx_then ?_
  refine tc_cut [(0, .agg #[.slice A1 n.concepts.length d2, .slice A5 n.roles.length d6, .slice A9 n.inds.length d10]), (1, .agg #[.slice A13 s.concepts.length d14, .slice A17 s.roles.length d18]), (4, .bool (decide (((risingB s.concepts (n.concepts.length : Int)) = true) ∧ ((risingB s.roles (n.roles.length : Int)) = true))))] (.blk b22 [.slice A13 s.concepts.length d14, .slice A17 s.roles.length d18] 33 :: .blk b21 [.slice A1 n.concepts.length d2, .slice A5 n.roles.length d6, .slice A9 n.inds.length d10] 24 :: G) (fun _ => True) (fun K hK23 hE24 => ?_) ?_
  ·
   refine tc_region ?_
   refine tl (v_fieldAddr 0 rfl fo33_0 rfl) ?_
   refine tl (v_ld 0 rfl ld31 rfl rfl) ?_
   refine tl (v_fieldAddr 0 rfl fo24_0 rfl) ?_
   refine tl (v_ld 1 rfl ld22 rfl rfl) ?_
   refine tl (v_len rfl sl22) ?_
   refine tl_callv ca52 rfl (fun w hw => kb_Rising_ok s.concepts (n.concepts.length : Int) hs15 (by unfold i64; omega) hw) rfl ?_
   refine tl (v_move rfl) ?_
   refine tl_splitb 11 rfl (fun h25 => ?_) (fun h25 => ?_)
   ·
    refine tl_grun 11 rfl rfl ?_
    refine tl (v_fieldAddr 1 rfl fo33_1 rfl) ?_
    refine tl_grun 11 rfl rfl ?_
    refine tl (v_ld 0 rfl ld31 rfl rfl) ?_
    refine tl_grun 11 rfl rfl ?_
    refine tl (v_fieldAddr 1 rfl fo24_1 rfl) ?_
    refine tl_grun 11 rfl rfl ?_
    refine tl (v_ld 1 rfl ld22 rfl rfl) ?_
    refine tl_grun 11 rfl rfl ?_
    refine tl (v_len rfl sl22) ?_
    refine tl_grun 11 rfl rfl ?_
    refine tl_callv ca52 rfl (fun w hw => kb_Rising_ok s.roles (n.roles.length : Int) hs19 (by unfold i64; omega) hw) rfl ?_
    refine tl (v_pick_t rfl rfl) ?_
    refine tl (v_assign rfl) ?_
    refine tl_nil ?_
    exact tx_cut hK23 (.refl _) (trivial) ⟨rfl, rfl, show some (Value.bool (risingB s.roles (n.roles.length : Int))) = some (Value.bool (decide (((risingB s.concepts (n.concepts.length : Int)) = true) ∧ ((risingB s.roles (n.roles.length : Int)) = true)))) by first | (simp [h25]; done) | grind | (simp [h25] <;> omega), trivial⟩ (fun w hw => hw)
   ·
    refine tl_gskip 11 rfl rfl rfl ?_
    refine tl_gskip 11 rfl rfl rfl ?_
    refine tl_gskip 11 rfl rfl rfl ?_
    refine tl_gskip 11 rfl rfl rfl ?_
    refine tl_gskip 11 rfl rfl rfl ?_
    refine tl_gskip 11 rfl rfl rfl ?_
    refine tl (v_pick_f rfl rfl) ?_
    refine tl (v_assign rfl) ?_
    refine tl_nil ?_
    exact tx_cut hK23 (.refl _) (trivial) ⟨rfl, rfl, show some (Value.bool false) = some (Value.bool (decide (((risingB s.concepts (n.concepts.length : Int)) = true) ∧ ((risingB s.roles (n.roles.length : Int)) = true)))) by first | (simp [h25]; done) | grind | (simp [h25] <;> omega), trivial⟩ (fun w hw => hw)
  ·
   refine fun R27 hle28 hj26 => tc_weaken hle28 ?_
   refine tc_ret ?_
   refine tx_ret1 (.inl rfl) rfl rfl ?_
   have e29 : (decide (((risingB s.concepts (n.concepts.length : Int)) = true) ∧ ((risingB s.roles (n.roles.length : Int)) = true)) : Bool) = sigB n s := by (simp only [sigB]; grind)
   exact fun w hw => ⟨congrArg Ending.returned (congrArg (fun x0 => Value.bool x0) e29), hw.drop 2⟩

set_option maxRecDepth 20000 in
set_option maxHeartbeats 8000000 in
theorem module_nothing_empty_ok {R : RO} {G : List Res} {w : World}  (hw : Own w R (G)) :
    Calls Tryz.prog 157 [.agg #[]].toArray w (Gives R G (.bool true)) := by
  refine fn_enter (vs := [.agg #[]]) Tryz.func157 rfl rfl rfl ?_ hw
  refine tc_seq <| tc_region ?_
  refine tl_box_agg (l := []) rfl rfl fun b1 => ?_
  refine tl (v_assign rfl) ?_
  refine tl_nil <| tx_then <| tc_seq <| tc_region ?_
  refine tl (v_assign rfl) ?_
  refine tl_nil <| tx_then <| tc_ret ?_
  refine tx_ret1 (.inl rfl) rfl rfl ?_
  have e2 : (true : Bool) = true := by rfl
  exact fun w hw => ⟨congrArg Ending.returned (congrArg (fun x0 => Value.bool x0) e2), hw.drop 1⟩

set_option maxRecDepth 20000 in
set_option maxHeartbeats 8000000 in
theorem module_nothing_some_ok {R : RO} {G : List Res} {w : World} (c : Bool × Bool) (hw : Own w R (G)) :
    Calls Tryz.prog 160 [.agg #[], .agg #[.bool c.1, .bool c.2]].toArray w (Gives R G (.agg #[.bool (true, false).1, .bool (true, false).2])) := by
  refine fn_enter (vs := [.agg #[], .agg #[.bool c.1, .bool c.2]]) Tryz.func160 rfl rfl rfl ?_ hw
  refine tc_seq <| tc_region ?_
  refine tl_box_agg (l := []) rfl rfl fun b1 => ?_
  refine tl_box_agg (l := [.bool c.1, .bool c.2]) rfl rfl fun b2 => ?_
  refine tl_alloc zc112 rfl fun b3 => ?_
  refine tl_nil <| tx_then <| tc_seq <| tc_region ?_
  refine tl (v_build [.bool true, .bool false] zc112 pl112 rfl rfl) ?_
  refine tl_st 0 [.bool true, .bool false] rfl rfl ld112 rfl rfl rfl rfl rfl rfl ?_
  refine tl_nil <| tx_then <| tc_ret ?_
  refine tx_retc (cells := [.bool true, .bool false]) 0 (.inl rfl) rfl rfl ld112 rfl ?_
  have e4 : ((true, false) : Bool × Bool) = (true, false) := by rfl
  exact fun w hw => ⟨congrArg (fun (z : Bool × Bool) => Ending.returned (Value.agg #[.bool z.1, .bool z.2])) e4, hw.drop 3⟩

set_option maxRecDepth 20000 in
set_option maxHeartbeats 8000000 in
theorem module_nothing_all_ok {R : RO} {G : List Res} {w : World} (c : Bool × Bool) (hw : Own w R (G)) :
    Calls Tryz.prog 156 [.agg #[], .agg #[.bool c.1, .bool c.2]].toArray w (Gives R G (.agg #[.bool (false, true).1, .bool (false, true).2])) := by
  refine fn_enter (vs := [.agg #[], .agg #[.bool c.1, .bool c.2]]) Tryz.func156 rfl rfl rfl ?_ hw
  refine tc_seq <| tc_region ?_
  refine tl_box_agg (l := []) rfl rfl fun b1 => ?_
  refine tl_box_agg (l := [.bool c.1, .bool c.2]) rfl rfl fun b2 => ?_
  refine tl_alloc zc112 rfl fun b3 => ?_
  refine tl_nil <| tx_then <| tc_seq <| tc_region ?_
  refine tl (v_build [.bool false, .bool true] zc112 pl112 rfl rfl) ?_
  refine tl_st 0 [.bool false, .bool true] rfl rfl ld112 rfl rfl rfl rfl rfl rfl ?_
  refine tl_nil <| tx_then <| tc_ret ?_
  refine tx_retc (cells := [.bool false, .bool true]) 0 (.inl rfl) rfl rfl ld112 rfl ?_
  have e4 : ((false, true) : Bool × Bool) = (false, true) := by rfl
  exact fun w hw => ⟨congrArg (fun (z : Bool × Bool) => Ending.returned (Value.agg #[.bool z.1, .bool z.2])) e4, hw.drop 3⟩

set_option maxRecDepth 20000 in
set_option maxHeartbeats 8000000 in
theorem module_nothing_role_ok {R : RO} {G : List Res} {w : World} (x : Bool) (y : Bool) (hw : Own w R (G)) :
    Calls Tryz.prog 159 [.agg #[], .bool x, .bool y].toArray w (Gives R G (.bool (!x))) := by
  refine fn_enter (vs := [.agg #[], .bool x, .bool y]) Tryz.func159 rfl rfl rfl ?_ hw
  refine tc_seq <| tc_region ?_
  refine tl_box_agg (l := []) rfl rfl fun b1 => ?_
  refine tl (v_assign rfl) ?_
  refine tl_nil <| tx_then <| tc_seq <| tc_region ?_
  refine tl (v_move rfl) ?_
  refine tl (v_neg rfl) ?_
  refine tl (v_assign rfl) ?_
  refine tl_nil <| tx_then <| tc_ret ?_
  refine tx_ret1 (.inl rfl) rfl rfl ?_
  have e2 : (!x : Bool) = !x := by rfl
  exact fun w hw => ⟨congrArg Ending.returned (congrArg (fun x0 => Value.bool x0) e2), hw.drop 1⟩

set_option maxRecDepth 20000 in
set_option maxHeartbeats 8000000 in
theorem module_nothing_link_ok {R : RO} {G : List Res} {w : World} (x : Bool) (hw : Own w R (G)) :
    Calls Tryz.prog 158 [.agg #[], .bool x].toArray w (Gives R G (.bool false)) := by
  refine fn_enter (vs := [.agg #[], .bool x]) Tryz.func158 rfl rfl rfl ?_ hw
  refine tc_seq <| tc_region ?_
  refine tl_box_agg (l := []) rfl rfl fun b1 => ?_
  refine tl (v_assign rfl) ?_
  refine tl_nil <| tx_then <| tc_seq <| tc_region ?_
  refine tl (v_assign rfl) ?_
  refine tl_nil <| tx_then <| tc_ret ?_
  refine tx_ret1 (.inl rfl) rfl rfl ?_
  have e2 : (false : Bool) = false := by rfl
  exact fun w hw => ⟨congrArg Ending.returned (congrArg (fun x0 => Value.bool x0) e2), hw.drop 1⟩

set_option maxRecDepth 20000 in
set_option maxHeartbeats 8000000 in
theorem module_everything_empty_ok {R : RO} {G : List Res} {w : World}  (hw : Own w R (G)) :
    Calls Tryz.prog 162 [.agg #[]].toArray w (Gives R G (.bool false)) := by
  refine fn_enter (vs := [.agg #[]]) Tryz.func162 rfl rfl rfl ?_ hw
  refine tc_seq <| tc_region ?_
  refine tl_box_agg (l := []) rfl rfl fun b1 => ?_
  refine tl (v_assign rfl) ?_
  refine tl_nil <| tx_then <| tc_seq <| tc_region ?_
  refine tl (v_assign rfl) ?_
  refine tl_nil <| tx_then <| tc_ret ?_
  refine tx_ret1 (.inl rfl) rfl rfl ?_
  have e2 : (false : Bool) = false := by rfl
  exact fun w hw => ⟨congrArg Ending.returned (congrArg (fun x0 => Value.bool x0) e2), hw.drop 1⟩

set_option maxRecDepth 20000 in
set_option maxHeartbeats 8000000 in
theorem module_everything_some_ok {R : RO} {G : List Res} {w : World} (c : Bool × Bool) (hw : Own w R (G)) :
    Calls Tryz.prog 165 [.agg #[], .agg #[.bool c.1, .bool c.2]].toArray w (Gives R G (.agg #[.bool c.1, .bool c.2])) := by
  refine fn_enter (vs := [.agg #[], .agg #[.bool c.1, .bool c.2]]) Tryz.func165 rfl rfl rfl ?_ hw
  refine tc_seq <| tc_region ?_
  refine tl_box_agg (l := []) rfl rfl fun b1 => ?_
  refine tl_box_agg (l := [.bool c.1, .bool c.2]) rfl rfl fun b2 => ?_
  refine tl_alloc zc112 rfl fun b3 => ?_
  refine tl_nil <| tx_then <| tc_seq <| tc_region ?_
  refine tl (v_ld_agg 1 [.bool c.1, .bool c.2] rfl ld112 rfl rfl) ?_
  refine tl_st 0 [.bool c.1, .bool c.2] rfl rfl ld112 rfl rfl rfl rfl rfl rfl ?_
  refine tl_nil <| tx_then <| tc_ret ?_
  refine tx_retc (cells := [.bool c.1, .bool c.2]) 0 (.inl rfl) rfl rfl ld112 rfl ?_
  have e4 : ((c.1, c.2) : Bool × Bool) = c := by rfl
  exact fun w hw => ⟨congrArg (fun (z : Bool × Bool) => Ending.returned (Value.agg #[.bool z.1, .bool z.2])) e4, hw.drop 3⟩

set_option maxRecDepth 20000 in
set_option maxHeartbeats 8000000 in
theorem module_everything_all_ok {R : RO} {G : List Res} {w : World} (c : Bool × Bool) (hw : Own w R (G)) :
    Calls Tryz.prog 161 [.agg #[], .agg #[.bool c.1, .bool c.2]].toArray w (Gives R G (.agg #[.bool c.1, .bool c.2])) := by
  refine fn_enter (vs := [.agg #[], .agg #[.bool c.1, .bool c.2]]) Tryz.func161 rfl rfl rfl ?_ hw
  refine tc_seq <| tc_region ?_
  refine tl_box_agg (l := []) rfl rfl fun b1 => ?_
  refine tl_box_agg (l := [.bool c.1, .bool c.2]) rfl rfl fun b2 => ?_
  refine tl_alloc zc112 rfl fun b3 => ?_
  refine tl_nil <| tx_then <| tc_seq <| tc_region ?_
  refine tl (v_ld_agg 1 [.bool c.1, .bool c.2] rfl ld112 rfl rfl) ?_
  refine tl_st 0 [.bool c.1, .bool c.2] rfl rfl ld112 rfl rfl rfl rfl rfl rfl ?_
  refine tl_nil <| tx_then <| tc_ret ?_
  refine tx_retc (cells := [.bool c.1, .bool c.2]) 0 (.inl rfl) rfl rfl ld112 rfl ?_
  have e4 : ((c.1, c.2) : Bool × Bool) = c := by rfl
  exact fun w hw => ⟨congrArg (fun (z : Bool × Bool) => Ending.returned (Value.agg #[.bool z.1, .bool z.2])) e4, hw.drop 3⟩

set_option maxRecDepth 20000 in
set_option maxHeartbeats 8000000 in
theorem module_everything_role_ok {R : RO} {G : List Res} {w : World} (x : Bool) (y : Bool) (hw : Own w R (G)) :
    Calls Tryz.prog 164 [.agg #[], .bool x, .bool y].toArray w (Gives R G (.bool (!y))) := by
  refine fn_enter (vs := [.agg #[], .bool x, .bool y]) Tryz.func164 rfl rfl rfl ?_ hw
  refine tc_seq <| tc_region ?_
  refine tl_box_agg (l := []) rfl rfl fun b1 => ?_
  refine tl (v_assign rfl) ?_
  refine tl_nil <| tx_then <| tc_seq <| tc_region ?_
  refine tl (v_move rfl) ?_
  refine tl (v_neg rfl) ?_
  refine tl (v_assign rfl) ?_
  refine tl_nil <| tx_then <| tc_ret ?_
  refine tx_ret1 (.inl rfl) rfl rfl ?_
  have e2 : (!y : Bool) = !y := by rfl
  exact fun w hw => ⟨congrArg Ending.returned (congrArg (fun x0 => Value.bool x0) e2), hw.drop 1⟩

set_option maxRecDepth 20000 in
set_option maxHeartbeats 8000000 in
theorem module_everything_link_ok {R : RO} {G : List Res} {w : World} (x : Bool) (hw : Own w R (G)) :
    Calls Tryz.prog 163 [.agg #[], .bool x].toArray w (Gives R G (.bool (!x))) := by
  refine fn_enter (vs := [.agg #[], .bool x]) Tryz.func163 rfl rfl rfl ?_ hw
  refine tc_seq <| tc_region ?_
  refine tl_box_agg (l := []) rfl rfl fun b1 => ?_
  refine tl (v_assign rfl) ?_
  refine tl_nil <| tx_then <| tc_seq <| tc_region ?_
  refine tl (v_move rfl) ?_
  refine tl (v_neg rfl) ?_
  refine tl (v_assign rfl) ?_
  refine tl_nil <| tx_then <| tc_ret ?_
  refine tx_ret1 (.inl rfl) rfl rfl ?_
  have e2 : (!x : Bool) = !x := by rfl
  exact fun w hw => ⟨congrArg Ending.returned (congrArg (fun x0 => Value.bool x0) e2), hw.drop 1⟩

def o_empty (t : Bool) : Nat := if t then 162 else 157
theorem ca_empty (t : Bool) : Callable Tryz.prog (o_empty t) := by cases t; exact ca157; exact ca162
theorem mr_empty (t : Bool) : mrow Tryz.prog (outT t) "isagoge/module.empty" = some (o_empty t) := by cases t; exact mr141_157; exact mr142_162
theorem out_empty_ok {R : RO} {G : List Res} {w : World} (t : Bool)  (hw : Own w R G) : Calls Tryz.prog (o_empty t) [.agg #[]].toArray w (Gives R G (.bool (!t))) := by
  cases t
  · exact by simpa [o_empty] using (module_nothing_empty_ok  hw)
  · exact by simpa [o_empty] using (module_everything_empty_ok  hw)

def o_some (t : Bool) : Nat := if t then 165 else 160
theorem ca_some (t : Bool) : Callable Tryz.prog (o_some t) := by cases t; exact ca160; exact ca165
theorem mr_some (t : Bool) : mrow Tryz.prog (outT t) "isagoge/module.some" = some (o_some t) := by cases t; exact mr141_160; exact mr142_165
theorem out_some_ok {R : RO} {G : List Res} {w : World} (t : Bool) (c : Bool × Bool) (hw : Own w R G) : Calls Tryz.prog (o_some t) [.agg #[], .agg #[.bool c.1, .bool c.2]].toArray w (Gives R G (.agg #[.bool (if t = true then c else (true, false)).1, .bool (if t = true then c else (true, false)).2])) := by
  cases t
  · exact by simpa [o_some] using (module_nothing_some_ok c hw)
  · exact by simpa [o_some] using (module_everything_some_ok c hw)

def o_all (t : Bool) : Nat := if t then 161 else 156
theorem ca_all (t : Bool) : Callable Tryz.prog (o_all t) := by cases t; exact ca156; exact ca161
theorem mr_all (t : Bool) : mrow Tryz.prog (outT t) "isagoge/module.all" = some (o_all t) := by cases t; exact mr141_156; exact mr142_161
theorem out_all_ok {R : RO} {G : List Res} {w : World} (t : Bool) (c : Bool × Bool) (hw : Own w R G) : Calls Tryz.prog (o_all t) [.agg #[], .agg #[.bool c.1, .bool c.2]].toArray w (Gives R G (.agg #[.bool (if t = true then c else (false, true)).1, .bool (if t = true then c else (false, true)).2])) := by
  cases t
  · exact by simpa [o_all] using (module_nothing_all_ok c hw)
  · exact by simpa [o_all] using (module_everything_all_ok c hw)

def o_role (t : Bool) : Nat := if t then 164 else 159
theorem ca_role (t : Bool) : Callable Tryz.prog (o_role t) := by cases t; exact ca159; exact ca164
theorem mr_role (t : Bool) : mrow Tryz.prog (outT t) "isagoge/module.role" = some (o_role t) := by cases t; exact mr141_159; exact mr142_164
theorem out_role_ok {R : RO} {G : List Res} {w : World} (t : Bool) (x : Bool) (y : Bool) (hw : Own w R G) : Calls Tryz.prog (o_role t) [.agg #[], .bool x, .bool y].toArray w (Gives R G (.bool (if t = true then !y else !x))) := by
  cases t
  · exact by simpa [o_role] using (module_nothing_role_ok x y hw)
  · exact by simpa [o_role] using (module_everything_role_ok x y hw)

def o_link (t : Bool) : Nat := if t then 163 else 158
theorem ca_link (t : Bool) : Callable Tryz.prog (o_link t) := by cases t; exact ca158; exact ca163
theorem mr_link (t : Bool) : mrow Tryz.prog (outT t) "isagoge/module.link" = some (o_link t) := by cases t; exact mr141_158; exact mr142_163
theorem out_link_ok {R : RO} {G : List Res} {w : World} (t : Bool) (x : Bool) (hw : Own w R G) : Calls Tryz.prog (o_link t) [.agg #[], .bool x].toArray w (Gives R G (.bool (t && !x))) := by
  cases t
  · exact by simpa [o_link] using (module_nothing_link_ok x hw)
  · exact by simpa [o_link] using (module_everything_link_ok x hw)

end Go.Proofs.YtcbcdlajnmkioaaGreatDoor
