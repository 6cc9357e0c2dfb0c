/- A part of the proof of the statement ModuleGrows of isagogelaw19: functions walked, and plain laws on what they answer. -/
import Derived.Test.YtcbcdlajnmkioaaGreatDoorI
namespace Go.Proofs.YtcbcdlajnmkioaaGreatDoor
open Go Go.Proofs
set_option linter.unusedSimpArgs false
set_option linter.unusedVariables false
theorem ca24 : Callable Tryz.prog 24 := ⟨by kernel_rfl⟩
theorem ca76 : Callable Tryz.prog 76 := ⟨by kernel_rfl⟩
theorem fo33_0 : fieldOff Tryz.prog 33 0 = some 0 := by kernel_rfl
theorem fo33_1 : fieldOff Tryz.prog 33 1 = some 1 := by kernel_rfl
theorem ld31 : ldInfo Tryz.prog 31 = some (false, 1) := by kernel_rfl
theorem ld33 : ldInfo Tryz.prog 33 = some (true, 2) := by kernel_rfl
theorem zc33 : zcells Tryz.prog 33 = some [.slice none 0 0, .slice none 0 0] := by kernel_rfl

def sigB (n : Names) (s : Sig) : Bool := risingB s.concepts n.concepts.length && risingB s.roles n.roles.length
def subB (a b : List Int) : Bool := decide (∀ x ∈ a, x ∈ b)
def addS (s : Sig) (c : Concept) : Sig := ⟨(usesC c (s.concepts, s.roles)).1, (usesC c (s.concepts, s.roles)).2⟩
theorem addS_len (s : Sig) (c : Concept) : (addS s c).concepts.length ≤ s.concepts.length + nodesC c ∧ (addS s c).roles.length ≤ s.roles.length + nodesC c := usesC_len c _
theorem mem_concepts_incl {b : Base} {i : Nat} {x : Incl} (hx : b.incls[i]? = some x) : x.sub ∈ conceptsB b ∧ x.sup ∈ conceptsB b := by
  have := List.mem_of_getElem? hx
  simp only [conceptsB, inclsC, List.mem_append, List.mem_flatMap]
  exact ⟨.inl ⟨x, this, by simp⟩, .inl ⟨x, this, by simp⟩⟩
theorem mem_concepts_fact {b : Base} {i : Nat} {x : Fact} (hx : b.facts[i]? = some x) : x.con ∈ conceptsB b := by
  have := List.mem_of_getElem? hx
  simp only [conceptsB, factsC, List.mem_append, List.mem_map]
  exact .inr ⟨x, this, rfl⟩
theorem BaseOk.incl {b : Base} (h : BaseOk b) {i : Nat} {x : Incl} (hx : b.incls[i]? = some x) : (nnC x.sub = true ∧ nodesC x.sub ≤ 400) ∧ (nnC x.sup = true ∧ nodesC x.sup ≤ 400) := by
  have h1 := h.concepts _ (mem_concepts_incl hx).1
  have h2 := h.concepts _ (mem_concepts_incl hx).2
  exact ⟨⟨shaped_nn _ _ _ rfl h1.2.2, h1.1⟩, ⟨shaped_nn _ _ _ rfl h2.2.2, h2.1⟩⟩
theorem BaseOk.fact {b : Base} (h : BaseOk b) {i : Nat} {x : Fact} (hx : b.facts[i]? = some x) : nnC x.con = true ∧ nodesC x.con ≤ 400 := by
  have h1 := h.concepts _ (mem_concepts_fact hx)
  exact ⟨shaped_nn _ _ _ rfl h1.2.2, h1.1⟩
theorem BaseOk.role {b : Base} (h : BaseOk b) {i : Nat} {x : RoleIncl} (hx : b.roles[i]? = some x) : 0 ≤ x.sub ∧ 0 ≤ x.sup := by
  have := h.roles _ (List.mem_of_getElem? hx)
  exact ⟨this.1.1, this.2.1⟩
theorem BaseOk.link {b : Base} (h : BaseOk b) {i : Nat} {x : Link} (hx : b.links[i]? = some x) : 0 ≤ x.role := (h.links _ (List.mem_of_getElem? hx)).1
def usesA (b : Base) (k : Nat) (s : Sig) : Sig :=
  match b.incls[k]? with
  | some x => addS (addS s x.sub) x.sup
  | none => match b.roles[k - b.incls.length]? with
    | some x => ⟨s.concepts, insI (insI s.roles (x.sub / 2)) (x.sup / 2)⟩
    | none => match b.facts[k - b.incls.length - b.roles.length]? with
      | some x => addS s x.con
      | none => match b.links[k - b.incls.length - b.roles.length - b.facts.length]? with
        | some x => ⟨s.concepts, insI s.roles x.role⟩
        | none => s
theorem usesA_len {b : Base} (h : BaseOk b) (k : Nat) (s : Sig) : (usesA b k s).concepts.length ≤ s.concepts.length + 800 ∧ (usesA b k s).roles.length ≤ s.roles.length + 800 := by
  unfold usesA
  split
  · rename_i x hx
    have h1 := addS_len s x.sub; have h2 := addS_len (addS s x.sub) x.sup; have h3 := h.incl hx; omega
  · split
    · rename_i x hx
      have h1 := insI_length (l := s.roles) (n := x.sub / 2); have h2 := insI_length (l := insI s.roles (x.sub / 2)) (n := x.sup / 2); exact ⟨by simp, by simp only; omega⟩
    · split
      · rename_i x hx
        have h1 := addS_len s x.con; have h3 := h.fact hx; omega
      · split
        · rename_i x hx
          have h1 := insI_length (l := s.roles) (n := x.role); exact ⟨by simp, by simp only; omega⟩
        · omega
def namesA (b : Base) (l : List Int) (s : Sig) : Sig := l.foldl (fun s k => usesA b k.toNat s) s
theorem namesA_take {b : Base} {l : List Int} {i : Nat} {x : Int} (h : l[i]? = some x) (s : Sig) : namesA b (l.take (i + 1)) s = usesA b x.toNat (namesA b (l.take i) s) := by rw [take_succ_at h]; simp [namesA]

set_option maxRecDepth 20000 in
set_option maxHeartbeats 8000000 in
theorem isagogeref19_Sig_ok {R : RO} {G : List Res} {w : World} {c_n : List Value} (n : Names) {c_s : List Value} (s : Sig) (hr_n : kNames.rep R n c_n) (hr_s : kSig.rep R s c_s) (hw : Own w R (G)) :
    Calls Tryz.prog 11 [.agg c_n.toArray, .agg c_s.toArray].toArray w (Gives R G (.bool (sigB n s))) := by
  obtain ⟨A1, d2, A5, d6, A9, d10, rfl, hs3, hs7, hs11⟩ := id hr_n
  have z4 := hs3.size
  unfold big at z4
  have z8 := hs7.size
  unfold big at z8
  have z12 := hs11.size
  unfold big at z12
  obtain ⟨A13, d14, A17, d18, rfl, hs15, hs19⟩ := id hr_s
  have z16 := hs15.size
  unfold big at z16
  have z20 := hs19.size
  unfold big at z20
  refine fn_enter (vs := [.agg #[.slice A1 n.concepts.length d2, .slice A5 n.roles.length d6, .slice A9 n.inds.length d10], .agg #[.slice A13 s.concepts.length d14, .slice A17 s.roles.length d18]]) Tryz.func11 rfl rfl rfl ?_ hw
  refine tc_seq <| tc_region ?_
  refine tl_box_agg (l := [.slice A1 n.concepts.length d2, .slice A5 n.roles.length d6, .slice A9 n.inds.length d10]) rfl rfl fun b21 => ?_
  refine tl_box_agg (l := [.slice A13 s.concepts.length d14, .slice A17 s.roles.length d18]) rfl rfl fun b22 => ?_
  refine tl (v_assign rfl) ?_
  refine tl_nil <| tx_then ?_
  refine tc_cut [(0, .agg #[.slice A1 n.concepts.length d2, .slice A5 n.roles.length d6, .slice A9 n.inds.length d10]), (1, .agg #[.slice A13 s.concepts.length d14, .slice A17 s.roles.length d18]), (4, .bool (decide (((risingB s.concepts (n.concepts.length : Int)) = true) ∧ ((risingB s.roles (n.roles.length : Int)) = true))))] (.blk b22 [.slice A13 s.concepts.length d14, .slice A17 s.roles.length d18] 33 :: .blk b21 [.slice A1 n.concepts.length d2, .slice A5 n.roles.length d6, .slice A9 n.inds.length d10] 24 :: G) (fun _ => True) (fun K hK23 hE24 => ?_) ?_
  ·
   refine tc_region ?_
   refine tl (v_fieldAddr 0 rfl fo33_0 rfl) ?_
   refine tl (v_ld 0 rfl ld31 rfl rfl) ?_
   refine tl (v_fieldAddr 0 rfl fo24_0 rfl) ?_
   refine tl (v_ld 1 rfl ld22 rfl rfl) ?_
   refine tl (v_len rfl sl22) ?_
   refine tl_callv ca24 rfl (fun w hw => isagogeref02_Rising_ok s.concepts (n.concepts.length : Int) hs15 (by unfold i64; omega) hw) rfl ?_
   refine tl (v_move rfl) ?_
   refine tl_splitb 11 rfl (fun h25 => ?_) (fun h25 => ?_)
   ·
    refine tl_grun 11 rfl rfl ?_
    refine tl (v_fieldAddr 1 rfl fo33_1 rfl) ?_
    refine tl_grun 11 rfl rfl ?_
    refine tl (v_ld 0 rfl ld31 rfl rfl) ?_
    refine tl_grun 11 rfl rfl ?_
    refine tl (v_fieldAddr 1 rfl fo24_1 rfl) ?_
    refine tl_grun 11 rfl rfl ?_
    refine tl (v_ld 1 rfl ld22 rfl rfl) ?_
    refine tl_grun 11 rfl rfl ?_
    refine tl (v_len rfl sl22) ?_
    refine tl_grun 11 rfl rfl ?_
    refine tl_callv ca24 rfl (fun w hw => isagogeref02_Rising_ok s.roles (n.roles.length : Int) hs19 (by unfold i64; omega) hw) rfl ?_
    refine tl (v_pick_t rfl rfl) ?_
    refine tl (v_assign rfl) ?_
    refine tl_nil ?_
    exact tx_cut hK23 (.refl _) (trivial) ⟨rfl, rfl, show some (Value.bool (risingB s.roles (n.roles.length : Int))) = some (Value.bool (decide (((risingB s.concepts (n.concepts.length : Int)) = true) ∧ ((risingB s.roles (n.roles.length : Int)) = true)))) by first | (simp [h25]; done) | grind | (simp [h25] <;> omega), trivial⟩ (fun w hw => hw)
   ·
    refine tl_gskip 11 rfl rfl rfl ?_
    refine tl_gskip 11 rfl rfl rfl ?_
    refine tl_gskip 11 rfl rfl rfl ?_
    refine tl_gskip 11 rfl rfl rfl ?_
    refine tl_gskip 11 rfl rfl rfl ?_
    refine tl_gskip 11 rfl rfl rfl ?_
    refine tl (v_pick_f rfl rfl) ?_
    refine tl (v_assign rfl) ?_
    refine tl_nil ?_
    exact tx_cut hK23 (.refl _) (trivial) ⟨rfl, rfl, show some (Value.bool false) = some (Value.bool (decide (((risingB s.concepts (n.concepts.length : Int)) = true) ∧ ((risingB s.roles (n.roles.length : Int)) = true)))) by first | (simp [h25]; done) | grind | (simp [h25] <;> omega), trivial⟩ (fun w hw => hw)
  ·
   refine fun R27 hle28 hj26 => tc_weaken hle28 ?_
   refine tc_ret ?_
   refine tx_ret1 (.inl rfl) rfl rfl ?_
   have e29 : (decide (((risingB s.concepts (n.concepts.length : Int)) = true) ∧ ((risingB s.roles (n.roles.length : Int)) = true)) : Bool) = sigB n s := by first | rfl | grind [sigB]
   exact fun w hw => ⟨congrArg Ending.returned (congrArg (fun x0 => Value.bool x0) e29), hw.drop 2⟩

set_option maxRecDepth 20000 in
set_option maxHeartbeats 8000000 in
theorem isagogeref19_Subset_ok {R : RO} {G : List Res} {w : World} {A_a : Option Addr} {d_a : Nat} (a : List (Int)) {A_b : Option Addr} {d_b : Nat} (b : List (Int)) (hs_a : SlAt kInt R A_a a) (hs_b : SlAt kInt R A_b b) (hw : Own w R (G)) :
    Calls Tryz.prog 15 [.slice A_a a.length d_a, .slice A_b b.length d_b].toArray w (Gives R G (.bool (subB a b))) := by
  have hz_a := hs_a.size
  unfold big at hz_a
  have hz_b := hs_b.size
  unfold big at hz_b
  refine fn_enter (vs := [.slice A_a a.length d_a, .slice A_b b.length d_b]) Tryz.func15 rfl rfl rfl ?_ hw
  refine tc_seq <| tc_region ?_
  refine tl (v_assign rfl) ?_
  refine tl_nil <| tx_then <| tc_seq <| tc_seq <| tc_region ?_
  refine tl (v_move rfl) ?_
  refine tl (v_len rfl sl31) ?_
  refine tl (v_move rfl) ?_
  refine tl_nil <| tx_then <| tc_block ?_
  refine tc_loop ?_
  refine th_loopS (fun i : Nat => a.length - i) (fun i : Nat => [(1, .slice A_b b.length d_b), (7, .slice A_a a.length d_a), (8, .int .i64 (a.length : Int)), (9, .int .i64 (i : Int))]) (fun i : Nat => (G)) (fun (i : Nat) => i ≤ a.length ∧ ∀ y ∈ a.take i, y ∈ b) (0) ⟨rfl, rfl, rfl, rfl, trivial⟩ (by exact ⟨by omega, by simp⟩) (fun w hw => hw) ?_
  rintro i hI1 ih2
  show TC Tryz.prog _ _ _ [] [(1, .slice A_b b.length d_b), (7, .slice A_a a.length d_a), (8, .int .i64 (a.length : Int)), (9, .int .i64 (i : Int))] R (G)
  obtain ⟨hi1, hi2⟩ := hI1
  refine tc_seq <| tc_region ?_
  refine tl (v_ib rfl rfl rfl) ?_
  refine tl_nil <| tx_then <| tc_seq ?_
  refine tc_split 10 rfl (fun h5 => ?_) (fun h5 => ?_)
  ·
   refine tc_yes rfl ?_
   refine tc_skip <| tx_then <| tc_seq <| tc_block <| tc_seq <| tc_region ?_
   have hb11 : i < a.length := by omega
   obtain ⟨x6, hx7⟩ : ∃ x, a[i]? = some x := ⟨_, List.getElem?_eq_getElem hb11⟩
   obtain ⟨c8, hr9, ha10⟩ := hs_a.get _ x6 hx7
   obtain ⟨rfl, i12⟩ := hr9
   unfold i64 at i12
   refine tl (v_idxS (i := i) hs_a rfl rfl rfl sl31 hb11) ?_
   refine tl (v_ldA 0 ha10 rfl ld3 rfl rfl) ?_
   refine tl (v_assign rfl) ?_
   refine tl_nil <| tx_then <| tc_seq <| tc_region ?_
   refine tl (v_move rfl) ?_
   refine tl (v_move rfl) ?_
   refine tl_callv ca43 rfl (fun w hw => isagogeref02_Has_ok b x6 hs_b (by unfold i64; omega) hw) rfl ?_
   refine tl (v_negd rfl) ?_
   refine tl_nil <| tx_then ?_
   refine tc_split 16 rfl (fun h13 => ?_) (fun h13 => ?_)
   ·
    refine tc_yes rfl ?_
    refine tc_seq <| tc_region ?_
    refine tl (v_assign rfl) ?_
    refine tl_nil <| tx_then <| tc_ret <| tx_blk_ret <| tx_then_ret <| tx_then_ret <| tx_blk_ret <| tx_then_ret ?_
    refine tx_ret1 (.inl rfl) rfl rfl ?_
    have e14 : (false : Bool) = subB a b := by (rw [eq_comm]; unfold subB; rw [decide_eq_false_iff_not]; intro h_; have h2_ := h_ _ (List.mem_of_getElem? hx7); grind)
    exact fun w hw => ⟨congrArg Ending.returned (congrArg (fun x0 => Value.bool x0) e14), hw⟩
   ·
    refine tc_no rfl ?_
    refine tc_skip <| tx_blk <| tx_then <| tc_region ?_
    refine tl (v_add rfl rfl (by omega) (by omega)) ?_
    refine tl (v_move rfl) ?_
    refine tl_nil ?_
    refine tx_round ?_
    exact fun a w ha hw => ih2.out (i + 1) (by exact ⟨by omega, all_take hi2 hx7 (by grind)⟩) (by (try dsimp only); omega) a w (ha.sub (lkAll_lk ⟨rfl, rfl, rfl, rfl, trivial⟩)) (hw)
  ·
   refine tc_no rfl ?_
   refine tc_exit <| tx_then_exit <| tx_then_exit <| tx_blk_exit <| tx_then <| tc_seq <| tc_region ?_
   refine tl (v_assign rfl) ?_
   refine tl_nil <| tx_then <| tc_ret ?_
   refine tx_ret1 (.inl rfl) rfl rfl ?_
   have e15 : (true : Bool) = subB a b := by (rw [take_all (by assumption) (by assumption)] at hi2; rw [eq_comm]; unfold subB; rw [decide_eq_true_eq]; exact hi2)
   exact fun w hw => ⟨congrArg Ending.returned (congrArg (fun x0 => Value.bool x0) e15), hw⟩

end Go.Proofs.YtcbcdlajnmkioaaGreatDoor
