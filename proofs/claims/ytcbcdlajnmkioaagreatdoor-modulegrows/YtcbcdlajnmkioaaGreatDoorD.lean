/- A part of the proof of the statement ModuleGrows of isagogelaw19: functions walked, and plain laws on what they answer. -/
import Derived.Test.YtcbcdlajnmkioaaGreatDoorC
namespace Go.Proofs.YtcbcdlajnmkioaaGreatDoor
open Go Go.Proofs
set_option linter.unusedSimpArgs false
set_option linter.unusedVariables false
theorem ca32 : Callable Tryz.prog 32 := ⟨by kernel_rfl⟩
theorem ca39 : Callable Tryz.prog 39 := ⟨by kernel_rfl⟩
theorem ca59 : Callable Tryz.prog 59 := ⟨by kernel_rfl⟩
theorem ca60 : Callable Tryz.prog 60 := ⟨by kernel_rfl⟩
theorem ca61 : Callable Tryz.prog 61 := ⟨by kernel_rfl⟩
theorem ca63 : Callable Tryz.prog 63 := ⟨by kernel_rfl⟩
theorem ca79 : Callable Tryz.prog 79 := ⟨by kernel_rfl⟩
theorem fo37_0 : fieldOff Tryz.prog 37 0 = some 0 := by kernel_rfl
theorem fo37_1 : fieldOff Tryz.prog 37 1 = some 1 := by kernel_rfl
theorem fo37_2 : fieldOff Tryz.prog 37 2 = some 2 := by kernel_rfl
theorem ld24 : ldInfo Tryz.prog 24 = some (true, 3) := by kernel_rfl
theorem ld3 : ldInfo Tryz.prog 3 = some (false, 1) := by kernel_rfl
theorem ld35 : ldInfo Tryz.prog 35 = some (false, 1) := by kernel_rfl
theorem ld37 : ldInfo Tryz.prog 37 = some (true, 3) := by kernel_rfl
theorem mixed : Tryz.prog.follows .mixedOrders = true := by kernel_rfl
theorem pl37 : places Tryz.prog 37 = some (true, [(0, 1), (1, 1), (2, 1)], 0) := by kernel_rfl
theorem sl31 : slElem Tryz.prog 31 = some (3, 1) := by kernel_rfl
theorem sl35 : slElem Tryz.prog 35 = some (37, 3) := by kernel_rfl
theorem zc37 : zcells Tryz.prog 37 = some [.int .i64 0, .int .i64 0, .slice none 0 0] := by kernel_rfl

mutual
def nodesC : Concept → Nat
  | .mk _ _ args => 1 + nodesL args
def nodesL : List Concept → Nat
  | [] => 0
  | x :: xs => nodesC x + nodesL xs
end
mutual
def depthC : Concept → Nat
  | .mk _ _ args => depthL args + 1
def depthL : List Concept → Nat
  | [] => 0
  | x :: xs => max (depthC x) (depthL xs)
end
theorem nodesC_eq (c : Concept) : nodesC c = 1 + nodesL c.args := by cases c; simp [nodesC, Concept.args]
theorem depthC_eq (c : Concept) : depthC c = depthL c.args + 1 := by cases c; simp [depthC, Concept.args]
theorem nodesL_append : ∀ (l m : List Concept), nodesL (l ++ m) = nodesL l + nodesL m
  | [], m => by simp [nodesL]
  | x :: xs, m => by simp only [List.cons_append, nodesL, nodesL_append xs m]; omega
theorem depthL_append : ∀ (l m : List Concept), depthL (l ++ m) = max (depthL l) (depthL m)
  | [], m => by simp [depthL]
  | x :: xs, m => by simp only [List.cons_append, depthL, depthL_append xs m]; omega
theorem take_succ_at {α : Type} {l : List α} {i : Nat} {x : α} (h : l[i]? = some x) : l.take (i + 1) = l.take i ++ [x] := by rw [List.take_add_one, h]; rfl
theorem nodesL_take {l : List Concept} {i : Nat} {x : Concept} (h : l[i]? = some x) : nodesL (l.take (i + 1)) = nodesL (l.take i) + nodesC x := by rw [take_succ_at h, nodesL_append]; simp [nodesL]
theorem depthL_take {l : List Concept} {i : Nat} {x : Concept} (h : l[i]? = some x) : depthL (l.take (i + 1)) = max (depthL (l.take i)) (depthC x) := by rw [take_succ_at h, depthL_append]; simp [depthL]
theorem nodesL_take_le (l : List Concept) (i : Nat) : nodesL (l.take i) ≤ nodesL l := by
  have := nodesL_append (l.take i) (l.drop i); rw [List.take_append_drop] at this; omega
theorem nodesL_mem {l : List Concept} {i : Nat} {x : Concept} (h : l[i]? = some x) : nodesL (l.take i) + nodesC x ≤ nodesL l := by rw [← nodesL_take h]; exact nodesL_take_le _ _
theorem nodesC_pos (c : Concept) : 0 < nodesC c := by rw [nodesC_eq]; omega
mutual
theorem depth_le_nodes : ∀ c : Concept, depthC c ≤ nodesC c
  | .mk _ _ args => by have := depthL_le_nodes args; simp only [depthC, nodesC]; omega
theorem depthL_le_nodes : ∀ l : List Concept, depthL l ≤ nodesL l
  | [] => by simp [depthL, nodesL]
  | x :: xs => by have := depth_le_nodes x; have := depthL_le_nodes xs; simp only [depthL, nodesL]; omega
end
theorem take_all {α : Type} {l : List α} {i : Nat} (h : i ≤ l.length) (h2 : ¬ ((i : Int) < (l.length : Int))) : l.take i = l := List.take_of_length_le (by omega)
def arityB (op : Int) : Int := if op = 0 ∨ op = 1 ∨ op = 2 then 0 else if op = 3 ∨ op = 6 ∨ op = 7 then 1 else if op = 4 ∨ op = 5 then 2 else -1
theorem arityB_range (op : Int) : -1 ≤ arityB op ∧ arityB op ≤ 2 := by unfold arityB; split <;> (try split) <;> (try split) <;> omega

set_option maxRecDepth 20000 in
set_option maxHeartbeats 8000000 in
theorem isagogeref01_Arity_ok {R : RO} {G : List Res} {w : World} (op : Int) (hi_op : i64 op) (hw : Own w R (G)) :
    Calls Tryz.prog 79 [.int .i64 op].toArray w (Gives R G (.int .i64 (arityB op))) := by
  unfold i64 at hi_op
  refine fn_enter (vs := [.int .i64 op]) Tryz.func79 rfl rfl rfl ?_ hw
  refine tc_seq <| tc_region ?_
  refine tl (v_assign rfl) ?_
  refine tl_nil <| tx_then <| tc_seq <| tc_seq <| tc_region ?_
  refine tl (v_move rfl) ?_
  refine tl_nil <| tx_then <| tc_block <| tc_seq <| tc_seq <| tc_region ?_
  refine tl (v_ib rfl rfl rfl) ?_
  refine tl (v_assign rfl) ?_
  refine tl_nil <| tx_then ?_
  refine tc_split 4 rfl (fun h1 => ?_) (fun h1 => ?_)
  ·
   refine tc_yes rfl ?_
   refine tc_skip <| tx_then ?_
   refine tc_yes rfl ?_
   refine tc_seq <| tc_region ?_
   refine tl (v_assign rfl) ?_
   refine tl_nil <| tx_then <| tc_ret <| tx_blk_ret <| tx_then_ret ?_
   refine tx_ret1 (.inl rfl) rfl rfl ?_
   have e2 : (0 : Int) = arityB op := by (simp only [arityB]; grind)
   exact fun w hw => ⟨congrArg Ending.returned (congrArg (fun x0 => Value.int .i64 x0) e2), hw⟩
  ·
   refine tc_no rfl ?_
   refine tc_seq <| tc_region ?_
   refine tl (v_ib rfl rfl rfl) ?_
   refine tl (v_assign rfl) ?_
   refine tl_nil <| tx_then ?_
   refine tc_split 4 rfl (fun h3 => ?_) (fun h3 => ?_)
   ·
    refine tc_yes rfl ?_
    refine tc_skip <| tx_then ?_
    refine tc_yes rfl ?_
    refine tc_seq <| tc_region ?_
    refine tl (v_assign rfl) ?_
    refine tl_nil <| tx_then <| tc_ret <| tx_blk_ret <| tx_then_ret ?_
    refine tx_ret1 (.inl rfl) rfl rfl ?_
    have e4 : (0 : Int) = arityB op := by (simp only [arityB]; grind)
    exact fun w hw => ⟨congrArg Ending.returned (congrArg (fun x0 => Value.int .i64 x0) e4), hw⟩
   ·
    refine tc_no rfl ?_
    refine tc_region ?_
    refine tl (v_ib rfl rfl rfl) ?_
    refine tl (v_assign rfl) ?_
    refine tl_nil <| tx_then ?_
    refine tc_split 4 rfl (fun h5 => ?_) (fun h5 => ?_)
    ·
     refine tc_yes rfl ?_
     refine tc_seq <| tc_region ?_
     refine tl (v_assign rfl) ?_
     refine tl_nil <| tx_then <| tc_ret <| tx_blk_ret <| tx_then_ret ?_
     refine tx_ret1 (.inl rfl) rfl rfl ?_
     have e6 : (0 : Int) = arityB op := by (simp only [arityB]; grind)
     exact fun w hw => ⟨congrArg Ending.returned (congrArg (fun x0 => Value.int .i64 x0) e6), hw⟩
    ·
     refine tc_no rfl ?_
     refine tc_seq <| tc_seq <| tc_region ?_
     refine tl (v_ib rfl rfl rfl) ?_
     refine tl (v_assign rfl) ?_
     refine tl_nil <| tx_then ?_
     refine tc_split 8 rfl (fun h7 => ?_) (fun h7 => ?_)
     ·
      refine tc_yes rfl ?_
      refine tc_skip <| tx_then ?_
      refine tc_yes rfl ?_
      refine tc_seq <| tc_region ?_
      refine tl (v_assign rfl) ?_
      refine tl_nil <| tx_then <| tc_ret <| tx_blk_ret <| tx_then_ret ?_
      refine tx_ret1 (.inl rfl) rfl rfl ?_
      have e8 : (1 : Int) = arityB op := by (simp only [arityB]; grind)
      exact fun w hw => ⟨congrArg Ending.returned (congrArg (fun x0 => Value.int .i64 x0) e8), hw⟩
     ·
      refine tc_no rfl ?_
      refine tc_seq <| tc_region ?_
      refine tl (v_ib rfl rfl rfl) ?_
      refine tl (v_assign rfl) ?_
      refine tl_nil <| tx_then ?_
      refine tc_split 8 rfl (fun h9 => ?_) (fun h9 => ?_)
      ·
       refine tc_yes rfl ?_
       refine tc_skip <| tx_then ?_
       refine tc_yes rfl ?_
       refine tc_seq <| tc_region ?_
       refine tl (v_assign rfl) ?_
       refine tl_nil <| tx_then <| tc_ret <| tx_blk_ret <| tx_then_ret ?_
       refine tx_ret1 (.inl rfl) rfl rfl ?_
       have e10 : (1 : Int) = arityB op := by (simp only [arityB]; grind)
       exact fun w hw => ⟨congrArg Ending.returned (congrArg (fun x0 => Value.int .i64 x0) e10), hw⟩
      ·
       refine tc_no rfl ?_
       refine tc_region ?_
       refine tl (v_ib rfl rfl rfl) ?_
       refine tl (v_assign rfl) ?_
       refine tl_nil <| tx_then ?_
       refine tc_split 8 rfl (fun h11 => ?_) (fun h11 => ?_)
       ·
        refine tc_yes rfl ?_
        refine tc_seq <| tc_region ?_
        refine tl (v_assign rfl) ?_
        refine tl_nil <| tx_then <| tc_ret <| tx_blk_ret <| tx_then_ret ?_
        refine tx_ret1 (.inl rfl) rfl rfl ?_
        have e12 : (1 : Int) = arityB op := by (simp only [arityB]; grind)
        exact fun w hw => ⟨congrArg Ending.returned (congrArg (fun x0 => Value.int .i64 x0) e12), hw⟩
       ·
        refine tc_no rfl ?_
        refine tc_seq <| tc_seq <| tc_region ?_
        refine tl (v_ib rfl rfl rfl) ?_
        refine tl (v_assign rfl) ?_
        refine tl_nil <| tx_then ?_
        refine tc_split 12 rfl (fun h13 => ?_) (fun h13 => ?_)
        ·
         refine tc_yes rfl ?_
         refine tc_skip <| tx_then ?_
         refine tc_yes rfl ?_
         refine tc_seq <| tc_region ?_
         refine tl (v_assign rfl) ?_
         refine tl_nil <| tx_then <| tc_ret <| tx_blk_ret <| tx_then_ret ?_
         refine tx_ret1 (.inl rfl) rfl rfl ?_
         have e14 : (2 : Int) = arityB op := by (simp only [arityB]; grind)
         exact fun w hw => ⟨congrArg Ending.returned (congrArg (fun x0 => Value.int .i64 x0) e14), hw⟩
        ·
         refine tc_no rfl ?_
         refine tc_region ?_
         refine tl (v_ib rfl rfl rfl) ?_
         refine tl (v_assign rfl) ?_
         refine tl_nil <| tx_then ?_
         refine tc_split 12 rfl (fun h15 => ?_) (fun h15 => ?_)
         ·
          refine tc_yes rfl ?_
          refine tc_seq <| tc_region ?_
          refine tl (v_assign rfl) ?_
          refine tl_nil <| tx_then <| tc_ret <| tx_blk_ret <| tx_then_ret ?_
          refine tx_ret1 (.inl rfl) rfl rfl ?_
          have e16 : (2 : Int) = arityB op := by (simp only [arityB]; grind)
          exact fun w hw => ⟨congrArg Ending.returned (congrArg (fun x0 => Value.int .i64 x0) e16), hw⟩
         ·
          refine tc_no rfl ?_
          refine tc_skip <| tx_blk <| tx_then <| tc_seq <| tc_region ?_
          refine tl (v_assign rfl) ?_
          refine tl_nil <| tx_then <| tc_ret ?_
          refine tx_ret1 (.inl rfl) rfl rfl ?_
          have e17 : ((-1) : Int) = arityB op := by (simp only [arityB]; grind)
          exact fun w hw => ⟨congrArg Ending.returned (congrArg (fun x0 => Value.int .i64 x0) e17), hw⟩

set_option maxRecDepth 20000 in
set_option maxHeartbeats 8000000 in
theorem isagogeref01_Quantified_ok {R : RO} {G : List Res} {w : World} (op : Int) (hi_op : i64 op) (hw : Own w R (G)) :
    Calls Tryz.prog 61 [.int .i64 op].toArray w (Gives R G (.bool (decide (op = 6 ∨ op = 7)))) := by
  unfold i64 at hi_op
  refine fn_enter (vs := [.int .i64 op]) Tryz.func61 rfl rfl rfl ?_ hw
  refine tc_seq <| tc_region ?_
  refine tl (v_assign rfl) ?_
  refine tl_nil <| tx_then ?_
  refine tc_cut [(2, .bool (decide ((op = 6) ∨ (op = 7))))] (G) (fun _ => True) (fun K hK1 hE2 => ?_) ?_
  ·
   refine tc_region ?_
   refine tl (v_move rfl) ?_
   refine tl (v_ib rfl rfl rfl) ?_
   refine tl (v_move rfl) ?_
   refine tl_split 5 rfl (fun h3 => ?_) (fun h3 => ?_)
   ·
    refine tl_gskip 5 rfl rfl rfl ?_
    refine tl_gskip 5 rfl rfl rfl ?_
    refine tl (v_pick_t rfl rfl) ?_
    refine tl (v_assign rfl) ?_
    refine tl_nil ?_
    exact tx_cut hK1 (.refl _) (trivial) ⟨show some (Value.bool true) = some (Value.bool (decide ((op = 6) ∨ (op = 7)))) by first | (simp [h3]; done) | grind | (simp [h3] <;> omega), trivial⟩ (fun w hw => hw)
   ·
    refine tl_grun 5 rfl rfl ?_
    refine tl (v_move rfl) ?_
    refine tl_grun 5 rfl rfl ?_
    refine tl (v_ib rfl rfl rfl) ?_
    refine tl (v_pick_f rfl rfl) ?_
    refine tl (v_assign rfl) ?_
    refine tl_nil ?_
    exact tx_cut hK1 (.refl _) (trivial) ⟨show some (Value.bool (decide (op = 7))) = some (Value.bool (decide ((op = 6) ∨ (op = 7)))) by first | (simp [h3]; done) | grind | (simp [h3] <;> omega), trivial⟩ (fun w hw => hw)
  ·
   refine fun R5 hle6 hj4 => tc_weaken hle6 ?_
   refine tc_ret ?_
   refine tx_ret1 (.inl rfl) rfl rfl ?_
   have e7 : (decide ((op = 6) ∨ (op = 7)) : Bool) = decide (op = 6 ∨ op = 7) := by first | rfl | grind
   exact fun w hw => ⟨congrArg Ending.returned (congrArg (fun x0 => Value.bool x0) e7), hw⟩

set_option maxRecDepth 20000 in
set_option maxHeartbeats 8000000 in
theorem isagogeref01_Size_ok_ (m : Nat) : ∀ {R : RO} {G : List Res} {w : World} {c_c : List Value} (c : Concept) (hr_c : kConcept.rep R c c_c) (hb : nodesC c ≤ 1000000), SizeOf.sizeOf c = m → Own w R (G) →
    Calls Tryz.prog 39 [.agg c_c.toArray].toArray w (Gives R G (.tuple #[.int .i64 (nodesC c : Int), .int .i64 (depthC c : Int)])) := by
  induction m using Nat.strongRecOn with
  | _ m ih =>
  intro R G w c_c c hr_c hb hm hw
  subst hm
  replace ih := Aside.mk ih
  obtain ⟨A1, d2, rfl, i3, i4, hs5⟩ := kConcept_open hr_c
  unfold i64 at i3 i4
  have z6 := hs5.size
  unfold big at z6
  have hdn := depth_le_nodes c
  have hne := nodesC_eq c
  have hde := depthC_eq c
  refine fn_enter (vs := [.agg #[.int .i64 c.op, .int .i64 c.n, .slice A1 c.args.length d2]]) Tryz.func39 rfl rfl rfl ?_ hw
  refine tc_seq <| tc_region ?_
  refine tl_box_agg (l := [.int .i64 c.op, .int .i64 c.n, .slice A1 c.args.length d2]) rfl rfl fun b7 => ?_
  refine tl (v_assign rfl) ?_
  refine tl (v_assign rfl) ?_
  refine tl_nil <| tx_then <| tc_seq <| tc_region ?_
  refine tl (v_assign rfl) ?_
  refine tl_nil <| tx_then <| tc_seq <| tc_seq <| tc_region ?_
  refine tl (v_fieldAddr 2 rfl fo37_2 rfl) ?_
  refine tl (v_ld 0 rfl ld35 rfl rfl) ?_
  refine tl (v_len rfl sl35) ?_
  refine tl (v_move rfl) ?_
  refine tl_nil <| tx_then <| tc_block ?_
  refine tc_loop ?_
  refine th_loopS (fun i : Nat => c.args.length - i) (fun i : Nat => [(9, .slice A1 c.args.length d2), (10, .int .i64 (c.args.length : Int)), (11, .int .i64 (i : Int)), (2, .int .i64 ((1 + nodesL (c.args.take i) : Nat) : Int)), (3, .int .i64 ((depthL (c.args.take i) : Nat) : Int))]) (fun i : Nat => (.blk b7 [.int .i64 c.op, .int .i64 c.n, .slice A1 c.args.length d2] 37 :: G)) (fun (i : Nat) => i ≤ c.args.length) (0) ⟨rfl, rfl, rfl, congrArg (fun z => some (Value.int .i64 z)) (show (1 : Int) = ((1 + nodesL (c.args.take 0) : Nat) : Int) by first | rfl | omega | (simp; done) | (simp; omega)), congrArg (fun z => some (Value.int .i64 z)) (show (0 : Int) = ((depthL (c.args.take 0) : Nat) : Int) by first | rfl | omega | (simp; done) | (simp; omega)), trivial⟩ (by omega) (fun w hw => hw) ?_
  rintro i hI8 ih9
  show TC Tryz.prog _ _ _ [] [(9, .slice A1 c.args.length d2), (10, .int .i64 (c.args.length : Int)), (11, .int .i64 (i : Int)), (2, .int .i64 ((1 + nodesL (c.args.take i) : Nat) : Int)), (3, .int .i64 ((depthL (c.args.take i) : Nat) : Int))] R (.blk b7 [.int .i64 c.op, .int .i64 c.n, .slice A1 c.args.length d2] 37 :: G)
  have hnt := nodesL_take_le c.args i
  have hdt := depthL_le_nodes (c.args.take i)
  refine tc_seq <| tc_region ?_
  refine tl (v_ib rfl rfl rfl) ?_
  refine tl_nil <| tx_then <| tc_seq ?_
  refine tc_split 12 rfl (fun h12 => ?_) (fun h12 => ?_)
  ·
   refine tc_yes rfl ?_
   refine tc_skip <| tx_then <| tc_seq <| tc_block <| tc_seq <| tc_region ?_
   have hb18 : i < c.args.length := by omega
   obtain ⟨x13, hx14⟩ : ∃ x, c.args[i]? = some x := ⟨_, List.getElem?_eq_getElem hb18⟩
   obtain ⟨c15, hr16, ha17⟩ := hs5.get _ x13 hx14
   obtain ⟨A19, d20, rfl, i21, i22, hs23⟩ := kConcept_open hr16
   unfold i64 at i21 i22
   have z24 := hs23.size
   unfold big at z24
   have hf25 := nodesL_mem hx14
   have hf26 := nodesL_take hx14
   have hf27 := depthL_take hx14
   have hf28 := depth_le_nodes x13
   refine tl (v_idxS (i := i) hs5 rfl rfl rfl sl35 hb18) ?_
   refine tl (v_ldA_agg 0 [.int .i64 x13.op, .int .i64 x13.n, .slice A19 x13.args.length d20] ha17 rfl ld37 rfl rfl) ?_
   refine tl_alloc zc37 rfl fun b29 => ?_
   refine tl_st 0 [.int .i64 x13.op, .int .i64 x13.n, .slice A19 x13.args.length d20] rfl rfl ld37 rfl rfl rfl rfl rfl rfl ?_
   refine tl_nil <| tx_then <| tc_seq <| tc_region ?_
   refine tl (v_ld_agg 0 [.int .i64 x13.op, .int .i64 x13.n, .slice A19 x13.args.length d20] rfl ld37 rfl rfl) ?_
   refine tl_callv ca39 rfl (fun w hw => ih.out (SizeOf.sizeOf x13) (by exact Concept.sizeOf_arg hx14) x13 hr16 (by first | assumption | omega) rfl hw) rfl ?_
   refine tl (v_move rfl) ?_
   refine tl (v_extract rfl rfl) ?_
   refine tl (v_extract rfl rfl) ?_
   refine tl (v_assign rfl) ?_
   refine tl (v_assign rfl) ?_
   refine tl_nil <| tx_then <| tc_region ?_
   refine tl (v_move rfl) ?_
   refine tl (v_move rfl) ?_
   refine tl (v_add rfl rfl (by omega) (by omega)) ?_
   refine tl (v_move rfl) ?_
   refine tl (v_move rfl) ?_
   refine tl (v_max rfl rfl) ?_
   refine tl (v_assign rfl) ?_
   refine tl (v_assign rfl) ?_
   refine tl_nil <| tx_blk <| tx_then <| tc_region ?_
   refine tl (v_add rfl rfl (by omega) (by omega)) ?_
   refine tl (v_move rfl) ?_
   refine tl_nil ?_
   refine tx_round ?_
   exact fun a w ha hw => ih9.out (i + 1) (by omega) (by (try dsimp only); omega) a w (ha.sub (lkAll_lk ⟨rfl, rfl, rfl, congrArg (fun z => some (Value.int .i64 z)) (show (((1 + nodesL (c.args.take i) : Nat) : Int) + (nodesC x13 : Int) : Int) = ((1 + nodesL (c.args.take (i + 1)) : Nat) : Int) by first | rfl | omega), congrArg (fun z => some (Value.int .i64 z)) (show (max ((depthL (c.args.take i) : Nat) : Int) (depthC x13 : Int) : Int) = ((depthL (c.args.take (i + 1)) : Nat) : Int) by first | rfl | omega), trivial⟩)) (hw.drop 1)
  ·
   refine tc_no rfl ?_
   refine tc_exit <| tx_then_exit <| tx_then_exit <| tx_blk_exit <| tx_then <| tc_seq <| tc_region ?_
   refine tl (v_move rfl) ?_
   refine tl (v_move rfl) ?_
   refine tl (v_add rfl rfl (by omega) (by omega)) ?_
   refine tl (v_assign rfl) ?_
   refine tl (v_assign rfl) ?_
   refine tl_nil <| tx_then <| tc_ret ?_
   refine tx_ret2 (.inl rfl) rfl rfl rfl ?_
   have e30 : (((1 + nodesL (c.args.take i) : Nat) : Int) : Int) = (nodesC c : Int) := by (rw [take_all (by assumption) (by assumption)]; omega)
   have e31 : (((depthL (c.args.take i) : Nat) : Int) + 1 : Int) = (depthC c : Int) := by (rw [take_all (by assumption) (by assumption)]; omega)
   exact fun w hw => ⟨congrArg Ending.returned (cong2 (fun x0 x1 => Value.tuple #[.int .i64 x0, .int .i64 x1]) e30 e31), hw.drop 1⟩
theorem isagogeref01_Size_ok {R : RO} {G : List Res} {w : World} {c_c : List Value} (c : Concept) (hr_c : kConcept.rep R c c_c) (hb : nodesC c ≤ 1000000) (hw : Own w R (G)) :
    Calls Tryz.prog 39 [.agg c_c.toArray].toArray w (Gives R G (.tuple #[.int .i64 (nodesC c : Int), .int .i64 (depthC c : Int)])) := isagogeref01_Size_ok_ _ c hr_c hb rfl hw

def leftC (c : Concept) (m : Int) : Int := max (m - nodesC c) 0

set_option maxRecDepth 20000 in
set_option maxHeartbeats 8000000 in
theorem isagogeref01_left_ok_ (m : Nat) : ∀ {R : RO} {G : List Res} {w : World} {c_c : List Value} (c : Concept) (most : Int) (hr_c : kConcept.rep R c c_c) (hi_most : i64 most) (hb : 0 ≤ most), SizeOf.sizeOf c = m → Own w R (G) →
    Calls Tryz.prog 63 [.agg c_c.toArray, .int .i64 most].toArray w (Gives R G (.int .i64 (leftC c most))) := by
  induction m using Nat.strongRecOn with
  | _ m ih =>
  intro R G w c_c c most hr_c hi_most hb hm hw
  subst hm
  replace ih := Aside.mk ih
  obtain ⟨A1, d2, rfl, i3, i4, hs5⟩ := kConcept_open hr_c
  unfold i64 at i3 i4
  have z6 := hs5.size
  unfold big at z6
  unfold i64 at hi_most
  have hne := nodesC_eq c
  refine fn_enter (vs := [.agg #[.int .i64 c.op, .int .i64 c.n, .slice A1 c.args.length d2], .int .i64 most]) Tryz.func63 rfl rfl rfl ?_ hw
  refine tc_seq <| tc_region ?_
  refine tl_box_agg (l := [.int .i64 c.op, .int .i64 c.n, .slice A1 c.args.length d2]) rfl rfl fun b7 => ?_
  refine tl (v_assign rfl) ?_
  refine tl_nil <| tx_then <| tc_seq <| tc_region ?_
  refine tl (v_move rfl) ?_
  refine tl (v_sub rfl rfl (by omega) (by omega)) ?_
  refine tl (v_assign rfl) ?_
  refine tl_nil <| tx_then <| tc_seq <| tc_seq <| tc_region ?_
  refine tl (v_assign rfl) ?_
  refine tl_nil <| tx_then <| tc_block ?_
  refine tc_loop ?_
  refine th_loopS (fun b_ : Nat × Int => match b_ with | (i, m) => c.args.length - i) (fun b_ : Nat × Int => match b_ with | (i, m) => [(2, .pointer (some ⟨b7, 0, none⟩)), (4, .int .i64 0), (5, .int .i64 (i : Int)), (1, .int .i64 m)]) (fun b_ : Nat × Int => match b_ with | (i, m) => (.blk b7 [.int .i64 c.op, .int .i64 c.n, .slice A1 c.args.length d2] 37 :: G)) (fun (b_ : Nat × Int) => match b_ with | (i, m) => i ≤ c.args.length ∧ m ≤ most ∧ -1 ≤ m ∧ ((m = most - 1 - nodesL (c.args.take i)) ∨ (m ≤ 0 ∧ most - 1 - nodesL (c.args.take i) ≤ m ∧ most - 1 - nodesL (c.args.take i) ≤ 0))) (0, most - 1) ⟨rfl, rfl, rfl, rfl, trivial⟩ (by (simp [nodesL]; omega)) (fun w hw => hw) ?_
  rintro ⟨i, m⟩ hI8 ih9
  show TC Tryz.prog _ _ _ [] [(2, .pointer (some ⟨b7, 0, none⟩)), (4, .int .i64 0), (5, .int .i64 (i : Int)), (1, .int .i64 m)] R (.blk b7 [.int .i64 c.op, .int .i64 c.n, .slice A1 c.args.length d2] 37 :: G)
  obtain ⟨hi1, hi2, hi3, hi4⟩ := hI8
  have hnt := nodesL_take_le c.args i
  refine tc_seq ?_
  refine tc_cut [(2, .pointer (some ⟨b7, 0, none⟩)), (4, .int .i64 0), (5, .int .i64 (i : Int)), (1, .int .i64 m), (16, .bool (decide (((i : Int) < (c.args.length : Int)) ∧ (0 < m))))] (.blk b7 [.int .i64 c.op, .int .i64 c.n, .slice A1 c.args.length d2] 37 :: G) (fun _ => True) (fun K hK12 hE13 => ?_) ?_
  ·
   refine tc_region ?_
   refine tl (v_move rfl) ?_
   refine tl (v_fieldAddr 2 rfl fo37_2 rfl) ?_
   refine tl (v_ld 0 rfl ld35 rfl rfl) ?_
   refine tl (v_len rfl sl35) ?_
   refine tl (v_ib rfl rfl rfl) ?_
   refine tl (v_move rfl) ?_
   refine tl_split 13 rfl (fun h14 => ?_) (fun h14 => ?_)
   ·
    refine tl_grun 13 rfl rfl ?_
    refine tl (v_move rfl) ?_
    refine tl_grun 13 rfl rfl ?_
    refine tl (v_ib rfl rfl rfl) ?_
    refine tl (v_pick_t rfl rfl) ?_
    refine tl_nil ?_
    exact tx_cut hK12 (.refl _) (trivial) ⟨rfl, rfl, rfl, rfl, show some (Value.bool (decide (0 < m))) = some (Value.bool (decide (((i : Int) < (c.args.length : Int)) ∧ (0 < m)))) by first | (simp [h14]; done) | grind | (simp [h14] <;> omega), trivial⟩ (fun w hw => hw)
   ·
    refine tl_gskip 13 rfl rfl rfl ?_
    refine tl_gskip 13 rfl rfl rfl ?_
    refine tl (v_pick_f rfl rfl) ?_
    refine tl_nil ?_
    exact tx_cut hK12 (.refl _) (trivial) ⟨rfl, rfl, rfl, rfl, show some (Value.bool false) = some (Value.bool (decide (((i : Int) < (c.args.length : Int)) ∧ (0 < m)))) by first | (simp [h14]; done) | grind | (simp [h14] <;> omega), trivial⟩ (fun w hw => hw)
  ·
   refine fun R16 hle17 hj15 => tc_weaken hle17 ?_
   refine tc_split 16 rfl (fun h18 => ?_) (fun h18 => ?_)
   ·
    refine tc_yes rfl ?_
    refine tc_skip <| tx_then <| tc_seq <| tc_block <| tc_region ?_
    refine tl (v_fieldAddr 2 rfl fo37_2 rfl) ?_
    refine tl (v_ld 0 rfl ld35 rfl rfl) ?_
    refine tl (v_move rfl) ?_
    have hb24 : i < c.args.length := by omega
    obtain ⟨x19, hx20⟩ : ∃ x, c.args[i]? = some x := ⟨_, List.getElem?_eq_getElem hb24⟩
    obtain ⟨c21, hr22, ha23⟩ := hs5.get _ x19 hx20
    obtain ⟨A25, d26, rfl, i27, i28, hs29⟩ := kConcept_open hr22
    unfold i64 at i27 i28
    have z30 := hs29.size
    unfold big at z30
    have hf31 := nodesL_mem hx20
    have hf32 := nodesL_take hx20
    have hf33 := nodesC_pos x19
    refine tl (v_idxS (i := i) hs5 rfl rfl rfl sl35 hb24) ?_
    refine tl (v_ldA_agg 0 [.int .i64 x19.op, .int .i64 x19.n, .slice A25 x19.args.length d26] ha23 rfl ld37 rfl rfl) ?_
    refine tl (v_move rfl) ?_
    refine tl_callv ca63 rfl (fun w hw => ih.out (SizeOf.sizeOf x19) (by exact Concept.sizeOf_arg hx20) x19 m hr22 (by unfold i64; omega) (by first | assumption | omega) rfl hw) rfl ?_
    refine tl (v_assign rfl) ?_
    refine tl_nil <| tx_blk <| tx_then <| tc_region ?_
    refine tl (v_move rfl) ?_
    refine tl (v_add rfl rfl (by omega) (by omega)) ?_
    refine tl (v_assign rfl) ?_
    refine tl_nil ?_
    refine tx_round ?_
    exact fun a w ha hw => ih9.out (i + 1, leftC x19 m) (by simp only [leftC] at *; omega) (by (try dsimp only); omega) a w (ha.sub (lkAll_lk ⟨rfl, rfl, rfl, rfl, trivial⟩)) (hw)
   ·
    refine tc_no rfl ?_
    refine tc_exit <| tx_then_exit <| tx_then_exit <| tx_blk_exit <| tx_then <| tc_seq <| tc_region ?_
    refine tl (v_move rfl) ?_
    refine tl (v_max rfl rfl) ?_
    refine tl (v_assign rfl) ?_
    refine tl_nil <| tx_then <| tc_ret ?_
    refine tx_ret1 (.inl rfl) rfl rfl ?_
    have e34 : (max m 0 : Int) = leftC c most := by (simp only [leftC]; rcases Nat.lt_or_ge i c.args.length with hl_ | hl_; omega; (have e_ := take_all (l := c.args) (i := i) (by omega) (by omega); rw [e_] at hi4; omega))
    exact fun w hw => ⟨congrArg Ending.returned (congrArg (fun x0 => Value.int .i64 x0) e34), hw.drop 1⟩
theorem isagogeref01_left_ok {R : RO} {G : List Res} {w : World} {c_c : List Value} (c : Concept) (most : Int) (hr_c : kConcept.rep R c c_c) (hi_most : i64 most) (hb : 0 ≤ most) (hw : Own w R (G)) :
    Calls Tryz.prog 63 [.agg c_c.toArray, .int .i64 most].toArray w (Gives R G (.int .i64 (leftC c most))) := isagogeref01_left_ok_ _ c most hr_c hi_most hb rfl hw

set_option maxRecDepth 20000 in
set_option maxHeartbeats 8000000 in
theorem isagogeref01_Fits_ok {R : RO} {G : List Res} {w : World} {c_c : List Value} (c : Concept) (most : Int) (hr_c : kConcept.rep R c c_c) (hi_most : i64 most) (hb : 0 ≤ most ∧ most ≤ 1000000) (hw : Own w R (G)) :
    Calls Tryz.prog 32 [.agg c_c.toArray, .int .i64 most].toArray w (Gives R G (.bool (decide ((nodesC c : Int) ≤ most)))) := by
  obtain ⟨A1, d2, rfl, i3, i4, hs5⟩ := kConcept_open hr_c
  unfold i64 at i3 i4
  have z6 := hs5.size
  unfold big at z6
  unfold i64 at hi_most
  refine fn_enter (vs := [.agg #[.int .i64 c.op, .int .i64 c.n, .slice A1 c.args.length d2], .int .i64 most]) Tryz.func32 rfl rfl rfl ?_ hw
  refine tc_seq <| tc_region ?_
  refine tl_box_agg (l := [.int .i64 c.op, .int .i64 c.n, .slice A1 c.args.length d2]) rfl rfl fun b7 => ?_
  refine tl (v_assign rfl) ?_
  refine tl_nil <| tx_then <| tc_seq <| tc_region ?_
  refine tl (v_ld_agg 0 [.int .i64 c.op, .int .i64 c.n, .slice A1 c.args.length d2] rfl ld37 rfl rfl) ?_
  refine tl (v_move rfl) ?_
  refine tl (v_add rfl rfl (by omega) (by omega)) ?_
  refine tl_callv ca63 rfl (fun w hw => isagogeref01_left_ok c (most + 1) hr_c (by unfold i64; omega) (by first | assumption | omega) hw) rfl ?_
  refine tl (v_ib rfl rfl rfl) ?_
  refine tl (v_assign rfl) ?_
  refine tl_nil <| tx_then <| tc_ret ?_
  refine tx_ret1 (.inl rfl) rfl rfl ?_
  have e8 : (decide (0 < (leftC c (most + 1))) : Bool) = decide ((nodesC c : Int) ≤ most) := by (rw [Bool.eq_iff_iff, decide_eq_true_eq, decide_eq_true_eq]; simp only [leftC]; omega)
  exact fun w hw => ⟨congrArg Ending.returned (congrArg (fun x0 => Value.bool x0) e8), hw.drop 1⟩

set_option maxRecDepth 20000 in
set_option maxHeartbeats 8000000 in
theorem isagogeref01_Small_ok {R : RO} {G : List Res} {w : World} {c_c : List Value} (c : Concept) (hr_c : kConcept.rep R c c_c) (hw : Own w R (G)) :
    Calls Tryz.prog 59 [.agg c_c.toArray].toArray w (Gives R G (.bool (decide (nodesC c ≤ 400 ∧ depthC c ≤ 20)))) := by
  obtain ⟨A1, d2, rfl, i3, i4, hs5⟩ := kConcept_open hr_c
  unfold i64 at i3 i4
  have z6 := hs5.size
  unfold big at z6
  refine fn_enter (vs := [.agg #[.int .i64 c.op, .int .i64 c.n, .slice A1 c.args.length d2]]) Tryz.func59 rfl rfl rfl ?_ hw
  refine tc_seq <| tc_region ?_
  refine tl_box_agg (l := [.int .i64 c.op, .int .i64 c.n, .slice A1 c.args.length d2]) rfl rfl fun b7 => ?_
  refine tl (v_assign rfl) ?_
  refine tl_nil <| tx_then <| tc_seq <| tc_seq <| tc_region ?_
  refine tl (v_ld_agg 0 [.int .i64 c.op, .int .i64 c.n, .slice A1 c.args.length d2] rfl ld37 rfl rfl) ?_
  refine tl_callv ca32 rfl (fun w hw => isagogeref01_Fits_ok c 400 hr_c (by unfold i64; omega) (by first | assumption | omega) hw) rfl ?_
  refine tl (v_negd rfl) ?_
  refine tl_nil <| tx_then ?_
  refine tc_split 7 rfl (fun h8 => ?_) (fun h8 => ?_)
  ·
   refine tc_yes rfl ?_
   refine tc_seq <| tc_region ?_
   refine tl (v_assign rfl) ?_
   refine tl_nil <| tx_then <| tc_ret <| tx_then_ret ?_
   refine tx_ret1 (.inl rfl) rfl rfl ?_
   have e9 : (false : Bool) = decide (nodesC c ≤ 400 ∧ depthC c ≤ 20) := by (first | (rw [eq_comm, decide_eq_false_iff_not]; omega) | (rw [Bool.eq_iff_iff]; simp only [decide_eq_true_eq]; omega))
   exact fun w hw => ⟨congrArg Ending.returned (congrArg (fun x0 => Value.bool x0) e9), hw.drop 1⟩
  ·
   refine tc_no rfl ?_
   refine tc_skip <| tx_then <| tc_seq <| tc_region ?_
   refine tl (v_ld_agg 0 [.int .i64 c.op, .int .i64 c.n, .slice A1 c.args.length d2] rfl ld37 rfl rfl) ?_
   refine tl_callv ca39 rfl (fun w hw => isagogeref01_Size_ok c hr_c (by omega) hw) rfl ?_
   refine tl (v_move rfl) ?_
   refine tl (v_extract rfl rfl) ?_
   refine tl (v_extract rfl rfl) ?_
   refine tl (v_assign rfl) ?_
   refine tl (v_assign rfl) ?_
   refine tl_nil <| tx_then <| tc_seq <| tc_region ?_
   refine tl (v_move rfl) ?_
   refine tl (v_ib rfl rfl rfl) ?_
   refine tl (v_assign rfl) ?_
   refine tl_nil <| tx_then <| tc_ret ?_
   refine tx_ret1 (.inl rfl) rfl rfl ?_
   have e10 : (decide ((depthC c : Int) ≤ 20) : Bool) = decide (nodesC c ≤ 400 ∧ depthC c ≤ 20) := by (first | (rw [eq_comm, decide_eq_false_iff_not]; omega) | (rw [Bool.eq_iff_iff]; simp only [decide_eq_true_eq]; omega))
   exact fun w hw => ⟨congrArg Ending.returned (congrArg (fun x0 => Value.bool x0) e10), hw.drop 1⟩

mutual
def shapedB (n : Names) : Concept → Bool
  | .mk op a args => decide (arityB op = args.length ∧ 0 ≤ a ∧ (if op = 0 then a < n.concepts.length else if op = 6 ∨ op = 7 then a < 2 * n.roles.length else a = 0)) && shapedBs n args
def shapedBs (n : Names) : List Concept → Bool
  | [] => true
  | x :: xs => shapedB n x && shapedBs n xs
end
theorem shapedBs_iff (n : Names) : ∀ l : List Concept, shapedBs n l = true ↔ ∀ x ∈ l, shapedB n x = true
  | [] => by simp [shapedBs]
  | x :: xs => by simp [shapedBs, shapedBs_iff n xs]
theorem shapedB_iff (n : Names) (c : Concept) : shapedB n c = true ↔ (arityB c.op = c.args.length ∧ 0 ≤ c.n ∧ (if c.op = 0 then c.n < n.concepts.length else if c.op = 6 ∨ c.op = 7 then c.n < 2 * n.roles.length else c.n = 0)) ∧ ∀ x ∈ c.args, shapedB n x = true := by
  cases c with
  | mk op a args =>
    show shapedB n (.mk op a args) = true ↔ (arityB op = args.length ∧ 0 ≤ a ∧ (if op = 0 then a < n.concepts.length else if op = 6 ∨ op = 7 then a < 2 * n.roles.length else a = 0)) ∧ ∀ x ∈ args, shapedB n x = true
    rw [shapedB, Bool.and_eq_true, decide_eq_true_eq, shapedBs_iff]
theorem all_take {α : Type} {l : List α} {p : α → Prop} {i : Nat} {x : α} (h : ∀ y ∈ l.take i, p y) (hx : l[i]? = some x) (hp : p x) : ∀ y ∈ l.take (i + 1), p y := by
  rw [take_succ_at hx]; intro y hy; rw [List.mem_append] at hy; rcases hy with hy | hy
  · exact h y hy
  · simp at hy; exact hy ▸ hp
theorem arity0 {op : Int} (h : arityB op = 0) : op = 0 ∨ op = 1 ∨ op = 2 := by unfold arityB at h; grind

set_option maxRecDepth 20000 in
set_option maxHeartbeats 8000000 in
theorem isagogeref01_shaped_ok_ (m : Nat) : ∀ {R : RO} {G : List Res} {w : World} {c_n : List Value} (n : Names) {c_c : List Value} (c : Concept) (hr_n : kNames.rep R n c_n) (hr_c : kConcept.rep R c c_c), SizeOf.sizeOf c = m → Own w R (G) →
    Calls Tryz.prog 60 [.agg c_n.toArray, .agg c_c.toArray].toArray w (Gives R G (.bool (shapedB n c))) := by
  induction m using Nat.strongRecOn with
  | _ m ih =>
  intro R G w c_n n c_c c hr_n hr_c hm hw
  subst hm
  replace ih := Aside.mk ih
  obtain ⟨A1, d2, A5, d6, A9, d10, rfl, hs3, hs7, hs11⟩ := id hr_n
  have z4 := hs3.size
  unfold big at z4
  have z8 := hs7.size
  unfold big at z8
  have z12 := hs11.size
  unfold big at z12
  obtain ⟨A13, d14, rfl, i15, i16, hs17⟩ := kConcept_open hr_c
  unfold i64 at i15 i16
  have z18 := hs17.size
  unfold big at z18
  refine fn_enter (vs := [.agg #[.slice A1 n.concepts.length d2, .slice A5 n.roles.length d6, .slice A9 n.inds.length d10], .agg #[.int .i64 c.op, .int .i64 c.n, .slice A13 c.args.length d14]]) Tryz.func60 rfl rfl rfl ?_ hw
  refine tc_seq <| tc_region ?_
  refine tl_box_agg (l := [.slice A1 n.concepts.length d2, .slice A5 n.roles.length d6, .slice A9 n.inds.length d10]) rfl rfl fun b19 => ?_
  refine tl_box_agg (l := [.int .i64 c.op, .int .i64 c.n, .slice A13 c.args.length d14]) rfl rfl fun b20 => ?_
  refine tl (v_assign rfl) ?_
  refine tl_nil <| tx_then <| tc_seq ?_
  refine tc_cut [(0, .agg #[.slice A1 n.concepts.length d2, .slice A5 n.roles.length d6, .slice A9 n.inds.length d10]), (1, .agg #[.int .i64 c.op, .int .i64 c.n, .slice A13 c.args.length d14]), (2, .pointer (some ⟨b19, 0, none⟩)), (3, .pointer (some ⟨b20, 0, none⟩)), (4, .bool false), (18, .bool (decide ((¬ (arityB c.op) = (c.args.length : Int)) ∨ (c.n < 0))))] (.blk b20 [.int .i64 c.op, .int .i64 c.n, .slice A13 c.args.length d14] 37 :: .blk b19 [.slice A1 n.concepts.length d2, .slice A5 n.roles.length d6, .slice A9 n.inds.length d10] 24 :: G) (fun _ => True) (fun K hK21 hE22 => ?_) ?_
  ·
   refine tc_quiet mixed (by kernel_rfl) ?_
   refine tq (v_fieldAddr 0 rfl fo37_0 rfl) ?_
   refine tq (v_ld 0 rfl ld3 rfl rfl) ?_
   refine tq_callv ca79 rfl (fun w hw => isagogeref01_Arity_ok c.op (by unfold i64; omega) hw) rfl ?_
   have hf23 := arityB_range c.op
   refine tq (v_fieldAddr 2 rfl fo37_2 rfl) ?_
   refine tq (v_ld 0 rfl ld35 rfl rfl) ?_
   refine tq (v_len rfl sl35) ?_
   refine tq (v_ib rfl rfl rfl) ?_
   refine tq (v_move rfl) ?_
   refine tq_split 14 rfl (fun h24 => ?_) (fun h24 => ?_)
   ·
    refine tq_gskip 14 rfl rfl rfl ?_
    refine tq_gskip 14 rfl rfl rfl ?_
    refine tq_gskip 14 rfl rfl rfl ?_
    refine tq (v_pick_t rfl rfl) ?_
    refine tq_nil ?_
    exact tx_cut hK21 (.refl _) (trivial) ⟨rfl, rfl, rfl, rfl, rfl, show some (Value.bool true) = some (Value.bool (decide ((¬ (arityB c.op) = (c.args.length : Int)) ∨ (c.n < 0)))) by first | (simp [h24]; done) | grind | (simp [h24] <;> omega), trivial⟩ (fun w hw => hw)
   ·
    refine tq_grun 14 rfl rfl ?_
    refine tq (v_fieldAddr 1 rfl fo37_1 rfl) ?_
    refine tq_grun 14 rfl rfl ?_
    refine tq (v_ld 0 rfl ld3 rfl rfl) ?_
    refine tq_grun 14 rfl rfl ?_
    refine tq (v_ib rfl rfl rfl) ?_
    refine tq (v_pick_f rfl rfl) ?_
    refine tq_nil ?_
    exact tx_cut hK21 (.refl _) (trivial) ⟨rfl, rfl, rfl, rfl, rfl, show some (Value.bool (decide (c.n < 0))) = some (Value.bool (decide ((¬ (arityB c.op) = (c.args.length : Int)) ∨ (c.n < 0)))) by first | (simp [h24]; done) | grind | (simp [h24] <;> omega), trivial⟩ (fun w hw => hw)
  ·
   refine fun R26 hle27 hj25 => tc_weaken hle27 ?_
   refine tc_split 18 rfl (fun h28 => ?_) (fun h28 => ?_)
   ·
    refine tc_yes rfl ?_
    refine tc_seq <| tc_region ?_
    refine tl (v_assign rfl) ?_
    refine tl_nil <| tx_then <| tc_ret <| tx_then_ret ?_
    refine tx_ret1 (.inl rfl) rfl rfl ?_
    have e29 : (false : Bool) = shapedB n c := by (have h_ := shapedB_iff n c; rw [eq_comm, ← Bool.not_eq_true, h_]; grind)
    exact fun w hw => ⟨congrArg Ending.returned (congrArg (fun x0 => Value.bool x0) e29), hw.drop 2⟩
   ·
    refine tc_no rfl ?_
    refine tc_skip <| tx_then <| tc_seq <| tc_block <| tc_seq <| tc_region ?_
    refine tl (v_fieldAddr 0 rfl fo37_0 rfl) ?_
    refine tl (v_ld 0 rfl ld3 rfl rfl) ?_
    refine tl (v_ib rfl rfl rfl) ?_
    refine tl (v_assign rfl) ?_
    refine tl_nil <| tx_then ?_
    refine tc_split 19 rfl (fun h30 => ?_) (fun h30 => ?_)
    ·
     refine tc_yes rfl ?_
     refine tc_seq <| tc_region ?_
     refine tl (v_fieldAddr 1 rfl fo37_1 rfl) ?_
     refine tl (v_ld 0 rfl ld3 rfl rfl) ?_
     refine tl (v_fieldAddr 0 rfl fo24_0 rfl) ?_
     refine tl (v_ld 1 rfl ld22 rfl rfl) ?_
     refine tl (v_len rfl sl22) ?_
     refine tl (v_ib rfl rfl rfl) ?_
     refine tl (v_assign rfl) ?_
     refine tl_nil <| tx_then <| tc_ret <| tx_blk_ret <| tx_then_ret ?_
     refine tx_ret1 (.inl rfl) rfl rfl ?_
     have e31 : (decide (c.n < (n.concepts.length : Int)) : Bool) = shapedB n c := by (have ha_ : arityB c.op = 0 := (by grind [arityB]); have hl_ : c.args = [] := List.eq_nil_of_length_eq_zero (by grind); rw [Bool.eq_iff_iff, shapedB_iff, decide_eq_true_eq, hl_]; grind)
     exact fun w hw => ⟨congrArg Ending.returned (congrArg (fun x0 => Value.bool x0) e31), hw.drop 2⟩
    ·
     refine tc_no rfl ?_
     refine tc_seq <| tc_region ?_
     refine tl (v_fieldAddr 0 rfl fo37_0 rfl) ?_
     refine tl (v_ld 0 rfl ld3 rfl rfl) ?_
     refine tl_callv ca61 rfl (fun w hw => isagogeref01_Quantified_ok c.op (by unfold i64; omega) hw) rfl ?_
     refine tl (v_assign rfl) ?_
     refine tl_nil <| tx_then ?_
     refine tc_split 29 rfl (fun h32 => ?_) (fun h32 => ?_)
     ·
      refine tc_yes rfl ?_
      refine tc_seq <| tc_region ?_
      refine tl (v_fieldAddr 1 rfl fo37_1 rfl) ?_
      refine tl (v_ld 0 rfl ld3 rfl rfl) ?_
      refine tl (v_fieldAddr 1 rfl fo24_1 rfl) ?_
      refine tl (v_ld 1 rfl ld22 rfl rfl) ?_
      refine tl (v_len rfl sl22) ?_
      refine tl (v_mul rfl rfl (by omega) (by omega)) ?_
      refine tl (v_ib rfl rfl rfl) ?_
      refine tl_nil <| tx_then ?_
      refine tc_split 39 rfl (fun h33 => ?_) (fun h33 => ?_)
      ·
       refine tc_yes rfl ?_
       refine tc_seq <| tc_region ?_
       refine tl (v_assign rfl) ?_
       refine tl_nil <| tx_then <| tc_ret <| tx_blk_ret <| tx_then_ret ?_
       refine tx_ret1 (.inl rfl) rfl rfl ?_
       have e34 : (false : Bool) = shapedB n c := by (have h_ := shapedB_iff n c; rw [eq_comm, ← Bool.not_eq_true, h_]; grind)
       exact fun w hw => ⟨congrArg Ending.returned (congrArg (fun x0 => Value.bool x0) e34), hw.drop 2⟩
      ·
       refine tc_no rfl ?_
       refine tc_skip <| tx_blk <| tx_then <| tc_seq <| tc_seq <| tc_region ?_
       refine tl (v_fieldAddr 2 rfl fo37_2 rfl) ?_
       refine tl (v_ld 0 rfl ld35 rfl rfl) ?_
       refine tl (v_len rfl sl35) ?_
       refine tl (v_move rfl) ?_
       refine tl_nil <| tx_then <| tc_block ?_
       refine tc_loop ?_
       refine th_loopS (fun i : Nat => c.args.length - i) (fun i : Nat => [(2, .pointer (some ⟨b19, 0, none⟩)), (45, .slice A13 c.args.length d14), (46, .int .i64 (c.args.length : Int)), (47, .int .i64 (i : Int))]) (fun i : Nat => (.blk b20 [.int .i64 c.op, .int .i64 c.n, .slice A13 c.args.length d14] 37 :: .blk b19 [.slice A1 n.concepts.length d2, .slice A5 n.roles.length d6, .slice A9 n.inds.length d10] 24 :: G)) (fun (i : Nat) => i ≤ c.args.length ∧ ∀ y ∈ c.args.take i, shapedB n y = true) (0) ⟨rfl, rfl, rfl, rfl, trivial⟩ (by exact ⟨by omega, by simp⟩) (fun w hw => hw) ?_
       rintro i hI35 ih36
       show TC Tryz.prog _ _ _ [] [(2, .pointer (some ⟨b19, 0, none⟩)), (45, .slice A13 c.args.length d14), (46, .int .i64 (c.args.length : Int)), (47, .int .i64 (i : Int))] R (.blk b20 [.int .i64 c.op, .int .i64 c.n, .slice A13 c.args.length d14] 37 :: .blk b19 [.slice A1 n.concepts.length d2, .slice A5 n.roles.length d6, .slice A9 n.inds.length d10] 24 :: G)
       obtain ⟨hi1, hi2⟩ := hI35
       refine tc_seq <| tc_region ?_
       refine tl (v_ib rfl rfl rfl) ?_
       refine tl_nil <| tx_then <| tc_seq ?_
       refine tc_split 48 rfl (fun h39 => ?_) (fun h39 => ?_)
       ·
        refine tc_yes rfl ?_
        refine tc_skip <| tx_then <| tc_seq <| tc_block <| tc_seq <| tc_region ?_
        have hb45 : i < c.args.length := by omega
        obtain ⟨x40, hx41⟩ : ∃ x, c.args[i]? = some x := ⟨_, List.getElem?_eq_getElem hb45⟩
        obtain ⟨c42, hr43, ha44⟩ := hs17.get _ x40 hx41
        obtain ⟨A46, d47, rfl, i48, i49, hs50⟩ := kConcept_open hr43
        unfold i64 at i48 i49
        have z51 := hs50.size
        unfold big at z51
        refine tl (v_idxS (i := i) hs17 rfl rfl rfl sl35 hb45) ?_
        refine tl (v_ldA_agg 0 [.int .i64 x40.op, .int .i64 x40.n, .slice A46 x40.args.length d47] ha44 rfl ld37 rfl rfl) ?_
        refine tl_alloc zc37 rfl fun b52 => ?_
        refine tl_st 0 [.int .i64 x40.op, .int .i64 x40.n, .slice A46 x40.args.length d47] rfl rfl ld37 rfl rfl rfl rfl rfl rfl ?_
        refine tl_nil <| tx_then <| tc_seq <| tc_region ?_
        refine tl (v_ld_agg 2 [.slice A1 n.concepts.length d2, .slice A5 n.roles.length d6, .slice A9 n.inds.length d10] rfl ld24 rfl rfl) ?_
        refine tl (v_ld_agg 0 [.int .i64 x40.op, .int .i64 x40.n, .slice A46 x40.args.length d47] rfl ld37 rfl rfl) ?_
        refine tl_callv ca60 rfl (fun w hw => ih.out (SizeOf.sizeOf x40) (by exact Concept.sizeOf_arg hx41) n x40 hr_n hr43 rfl hw) rfl ?_
        refine tl (v_neg rfl) ?_
        refine tl_nil <| tx_then ?_
        refine tc_splitb 54 rfl (fun h53 => ?_) (fun h53 => ?_)
        ·
         refine tc_yes rfl ?_
         refine tc_seq <| tc_region ?_
         refine tl (v_assign rfl) ?_
         refine tl_nil <| tx_then <| tc_ret <| tx_blk_ret <| tx_then_ret <| tx_then_ret <| tx_blk_ret <| tx_then_ret ?_
         refine tx_ret1 (.inl rfl) rfl rfl ?_
         have e54 : (false : Bool) = shapedB n c := by (have h_ := shapedB_iff n c; rw [eq_comm, ← Bool.not_eq_true, h_]; have hm_ := List.mem_of_getElem? hx41; grind)
         exact fun w hw => ⟨congrArg Ending.returned (congrArg (fun x0 => Value.bool x0) e54), hw.drop 3⟩
        ·
         refine tc_no rfl ?_
         refine tc_skip <| tx_blk <| tx_then <| tc_region ?_
         refine tl (v_add rfl rfl (by omega) (by omega)) ?_
         refine tl (v_move rfl) ?_
         refine tl_nil ?_
         refine tx_round ?_
         exact fun a w ha hw => ih36.out (i + 1) (by exact ⟨by omega, all_take hi2 hx41 (by grind)⟩) (by (try dsimp only); omega) a w (ha.sub (lkAll_lk ⟨rfl, rfl, rfl, rfl, trivial⟩)) (hw.drop 1)
       ·
        refine tc_no rfl ?_
        refine tc_exit <| tx_then_exit <| tx_then_exit <| tx_blk_exit <| tx_then <| tc_seq <| tc_region ?_
        refine tl (v_assign rfl) ?_
        refine tl_nil <| tx_then <| tc_ret ?_
        refine tx_ret1 (.inl rfl) rfl rfl ?_
        have e55 : (true : Bool) = shapedB n c := by (have h_ := shapedB_iff n c; rw [eq_comm, h_]; have e_ := take_all (l := c.args) (by assumption) (by assumption); rw [e_] at hi2; grind)
        exact fun w hw => ⟨congrArg Ending.returned (congrArg (fun x0 => Value.bool x0) e55), hw.drop 2⟩
     ·
      refine tc_no rfl ?_
      refine tc_seq <| tc_region ?_
      refine tl (v_fieldAddr 1 rfl fo37_1 rfl) ?_
      refine tl (v_ld 0 rfl ld3 rfl rfl) ?_
      refine tl (v_ib rfl rfl rfl) ?_
      refine tl (v_assign rfl) ?_
      refine tl_nil <| tx_then ?_
      refine tc_split 40 rfl (fun h56 => ?_) (fun h56 => ?_)
      ·
       refine tc_yes rfl ?_
       refine tc_seq <| tc_region ?_
       refine tl (v_assign rfl) ?_
       refine tl_nil <| tx_then <| tc_ret <| tx_blk_ret <| tx_then_ret ?_
       refine tx_ret1 (.inl rfl) rfl rfl ?_
       have e57 : (false : Bool) = shapedB n c := by (have h_ := shapedB_iff n c; rw [eq_comm, ← Bool.not_eq_true, h_]; grind)
       exact fun w hw => ⟨congrArg Ending.returned (congrArg (fun x0 => Value.bool x0) e57), hw.drop 2⟩
      ·
       refine tc_no rfl ?_
       refine tc_skip <| tx_blk <| tx_then <| tc_seq <| tc_seq <| tc_region ?_
       refine tl (v_fieldAddr 2 rfl fo37_2 rfl) ?_
       refine tl (v_ld 0 rfl ld35 rfl rfl) ?_
       refine tl (v_len rfl sl35) ?_
       refine tl (v_move rfl) ?_
       refine tl_nil <| tx_then <| tc_block ?_
       refine tc_loop ?_
       refine th_loopS (fun i : Nat => c.args.length - i) (fun i : Nat => [(2, .pointer (some ⟨b19, 0, none⟩)), (45, .slice A13 c.args.length d14), (46, .int .i64 (c.args.length : Int)), (47, .int .i64 (i : Int))]) (fun i : Nat => (.blk b20 [.int .i64 c.op, .int .i64 c.n, .slice A13 c.args.length d14] 37 :: .blk b19 [.slice A1 n.concepts.length d2, .slice A5 n.roles.length d6, .slice A9 n.inds.length d10] 24 :: G)) (fun (i : Nat) => i ≤ c.args.length ∧ ∀ y ∈ c.args.take i, shapedB n y = true) (0) ⟨rfl, rfl, rfl, rfl, trivial⟩ (by exact ⟨by omega, by simp⟩) (fun w hw => hw) ?_
       rintro i hI58 ih59
       show TC Tryz.prog _ _ _ [] [(2, .pointer (some ⟨b19, 0, none⟩)), (45, .slice A13 c.args.length d14), (46, .int .i64 (c.args.length : Int)), (47, .int .i64 (i : Int))] R (.blk b20 [.int .i64 c.op, .int .i64 c.n, .slice A13 c.args.length d14] 37 :: .blk b19 [.slice A1 n.concepts.length d2, .slice A5 n.roles.length d6, .slice A9 n.inds.length d10] 24 :: G)
       obtain ⟨hi1, hi2⟩ := hI58
       refine tc_seq <| tc_region ?_
       refine tl (v_ib rfl rfl rfl) ?_
       refine tl_nil <| tx_then <| tc_seq ?_
       refine tc_split 48 rfl (fun h62 => ?_) (fun h62 => ?_)
       ·
        refine tc_yes rfl ?_
        refine tc_skip <| tx_then <| tc_seq <| tc_block <| tc_seq <| tc_region ?_
        have hb68 : i < c.args.length := by omega
        obtain ⟨x63, hx64⟩ : ∃ x, c.args[i]? = some x := ⟨_, List.getElem?_eq_getElem hb68⟩
        obtain ⟨c65, hr66, ha67⟩ := hs17.get _ x63 hx64
        obtain ⟨A69, d70, rfl, i71, i72, hs73⟩ := kConcept_open hr66
        unfold i64 at i71 i72
        have z74 := hs73.size
        unfold big at z74
        refine tl (v_idxS (i := i) hs17 rfl rfl rfl sl35 hb68) ?_
        refine tl (v_ldA_agg 0 [.int .i64 x63.op, .int .i64 x63.n, .slice A69 x63.args.length d70] ha67 rfl ld37 rfl rfl) ?_
        refine tl_alloc zc37 rfl fun b75 => ?_
        refine tl_st 0 [.int .i64 x63.op, .int .i64 x63.n, .slice A69 x63.args.length d70] rfl rfl ld37 rfl rfl rfl rfl rfl rfl ?_
        refine tl_nil <| tx_then <| tc_seq <| tc_region ?_
        refine tl (v_ld_agg 2 [.slice A1 n.concepts.length d2, .slice A5 n.roles.length d6, .slice A9 n.inds.length d10] rfl ld24 rfl rfl) ?_
        refine tl (v_ld_agg 0 [.int .i64 x63.op, .int .i64 x63.n, .slice A69 x63.args.length d70] rfl ld37 rfl rfl) ?_
        refine tl_callv ca60 rfl (fun w hw => ih.out (SizeOf.sizeOf x63) (by exact Concept.sizeOf_arg hx64) n x63 hr_n hr66 rfl hw) rfl ?_
        refine tl (v_neg rfl) ?_
        refine tl_nil <| tx_then ?_
        refine tc_splitb 54 rfl (fun h76 => ?_) (fun h76 => ?_)
        ·
         refine tc_yes rfl ?_
         refine tc_seq <| tc_region ?_
         refine tl (v_assign rfl) ?_
         refine tl_nil <| tx_then <| tc_ret <| tx_blk_ret <| tx_then_ret <| tx_then_ret <| tx_blk_ret <| tx_then_ret ?_
         refine tx_ret1 (.inl rfl) rfl rfl ?_
         have e77 : (false : Bool) = shapedB n c := by (have h_ := shapedB_iff n c; rw [eq_comm, ← Bool.not_eq_true, h_]; have hm_ := List.mem_of_getElem? hx64; grind)
         exact fun w hw => ⟨congrArg Ending.returned (congrArg (fun x0 => Value.bool x0) e77), hw.drop 3⟩
        ·
         refine tc_no rfl ?_
         refine tc_skip <| tx_blk <| tx_then <| tc_region ?_
         refine tl (v_add rfl rfl (by omega) (by omega)) ?_
         refine tl (v_move rfl) ?_
         refine tl_nil ?_
         refine tx_round ?_
         exact fun a w ha hw => ih59.out (i + 1) (by exact ⟨by omega, all_take hi2 hx64 (by grind)⟩) (by (try dsimp only); omega) a w (ha.sub (lkAll_lk ⟨rfl, rfl, rfl, rfl, trivial⟩)) (hw.drop 1)
       ·
        refine tc_no rfl ?_
        refine tc_exit <| tx_then_exit <| tx_then_exit <| tx_blk_exit <| tx_then <| tc_seq <| tc_region ?_
        refine tl (v_assign rfl) ?_
        refine tl_nil <| tx_then <| tc_ret ?_
        refine tx_ret1 (.inl rfl) rfl rfl ?_
        have e78 : (true : Bool) = shapedB n c := by (have h_ := shapedB_iff n c; rw [eq_comm, h_]; have e_ := take_all (l := c.args) (by assumption) (by assumption); rw [e_] at hi2; grind)
        exact fun w hw => ⟨congrArg Ending.returned (congrArg (fun x0 => Value.bool x0) e78), hw.drop 2⟩
theorem isagogeref01_shaped_ok {R : RO} {G : List Res} {w : World} {c_n : List Value} (n : Names) {c_c : List Value} (c : Concept) (hr_n : kNames.rep R n c_n) (hr_c : kConcept.rep R c c_c) (hw : Own w R (G)) :
    Calls Tryz.prog 60 [.agg c_n.toArray, .agg c_c.toArray].toArray w (Gives R G (.bool (shapedB n c))) := isagogeref01_shaped_ok_ _ n c hr_n hr_c rfl hw

set_option maxRecDepth 20000 in
set_option maxHeartbeats 8000000 in
theorem isagogeref01_Is_ok {R : RO} {G : List Res} {w : World} {c_n : List Value} (n : Names) {c_c : List Value} (c : Concept) (hr_n : kNames.rep R n c_n) (hr_c : kConcept.rep R c c_c) (hw : Own w R (G)) :
    Calls Tryz.prog 29 [.agg c_n.toArray, .agg c_c.toArray].toArray w (Gives R G (.bool (decide (nodesC c ≤ 400 ∧ depthC c ≤ 20 ∧ shapedB n c = true)))) := by
  obtain ⟨A1, d2, A5, d6, A9, d10, rfl, hs3, hs7, hs11⟩ := id hr_n
  have z4 := hs3.size
  unfold big at z4
  have z8 := hs7.size
  unfold big at z8
  have z12 := hs11.size
  unfold big at z12
  obtain ⟨A13, d14, rfl, i15, i16, hs17⟩ := kConcept_open hr_c
  unfold i64 at i15 i16
  have z18 := hs17.size
  unfold big at z18
  refine fn_enter (vs := [.agg #[.slice A1 n.concepts.length d2, .slice A5 n.roles.length d6, .slice A9 n.inds.length d10], .agg #[.int .i64 c.op, .int .i64 c.n, .slice A13 c.args.length d14]]) Tryz.func29 rfl rfl rfl ?_ hw
  refine tc_seq <| tc_region ?_
  refine tl_box_agg (l := [.slice A1 n.concepts.length d2, .slice A5 n.roles.length d6, .slice A9 n.inds.length d10]) rfl rfl fun b19 => ?_
  refine tl_box_agg (l := [.int .i64 c.op, .int .i64 c.n, .slice A13 c.args.length d14]) rfl rfl fun b20 => ?_
  refine tl (v_assign rfl) ?_
  refine tl_nil <| tx_then ?_
  refine tc_cut [(0, .agg #[.slice A1 n.concepts.length d2, .slice A5 n.roles.length d6, .slice A9 n.inds.length d10]), (1, .agg #[.int .i64 c.op, .int .i64 c.n, .slice A13 c.args.length d14]), (4, .bool (decide ((nodesC c ≤ 400 ∧ depthC c ≤ 20) ∧ ((shapedB n c) = true))))] (.blk b20 [.int .i64 c.op, .int .i64 c.n, .slice A13 c.args.length d14] 37 :: .blk b19 [.slice A1 n.concepts.length d2, .slice A5 n.roles.length d6, .slice A9 n.inds.length d10] 24 :: G) (fun _ => True) (fun K hK21 hE22 => ?_) ?_
  ·
   refine tc_region ?_
   refine tl (v_ld_agg 0 [.int .i64 c.op, .int .i64 c.n, .slice A13 c.args.length d14] rfl ld37 rfl rfl) ?_
   refine tl_callv ca59 rfl (fun w hw => isagogeref01_Small_ok c hr_c hw) rfl ?_
   refine tl (v_move rfl) ?_
   refine tl_split 7 rfl (fun h23 => ?_) (fun h23 => ?_)
   ·
    refine tl_grun 7 rfl rfl ?_
    refine tl (v_ld_agg 1 [.slice A1 n.concepts.length d2, .slice A5 n.roles.length d6, .slice A9 n.inds.length d10] rfl ld24 rfl rfl) ?_
    refine tl_grun 7 rfl rfl ?_
    refine tl (v_ld_agg 0 [.int .i64 c.op, .int .i64 c.n, .slice A13 c.args.length d14] rfl ld37 rfl rfl) ?_
    refine tl_grun 7 rfl rfl ?_
    refine tl_callv ca60 rfl (fun w hw => isagogeref01_shaped_ok n c hr_n hr_c hw) rfl ?_
    refine tl (v_pick_t rfl rfl) ?_
    refine tl (v_assign rfl) ?_
    refine tl_nil ?_
    exact tx_cut hK21 (.refl _) (trivial) ⟨rfl, rfl, show some (Value.bool (shapedB n c)) = some (Value.bool (decide ((nodesC c ≤ 400 ∧ depthC c ≤ 20) ∧ ((shapedB n c) = true)))) by first | (simp [h23]; done) | grind | (simp [h23] <;> omega), trivial⟩ (fun w hw => hw)
   ·
    refine tl_gskip 7 rfl rfl rfl ?_
    refine tl_gskip 7 rfl rfl rfl ?_
    refine tl_gskip 7 rfl rfl rfl ?_
    refine tl (v_pick_f rfl rfl) ?_
    refine tl (v_assign rfl) ?_
    refine tl_nil ?_
    exact tx_cut hK21 (.refl _) (trivial) ⟨rfl, rfl, show some (Value.bool false) = some (Value.bool (decide ((nodesC c ≤ 400 ∧ depthC c ≤ 20) ∧ ((shapedB n c) = true)))) by first | (simp [h23]; done) | grind | (simp [h23] <;> omega), trivial⟩ (fun w hw => hw)
  ·
   refine fun R25 hle26 hj24 => tc_weaken hle26 ?_
   refine tc_ret ?_
   refine tx_ret1 (.inl rfl) rfl rfl ?_
   have e27 : (decide ((nodesC c ≤ 400 ∧ depthC c ≤ 20) ∧ ((shapedB n c) = true)) : Bool) = decide (nodesC c ≤ 400 ∧ depthC c ≤ 20 ∧ shapedB n c = true) := by (first | (rw [eq_comm, decide_eq_false_iff_not]; grind) | (rw [Bool.eq_iff_iff, decide_eq_true_eq]; grind) | grind)
   exact fun w hw => ⟨congrArg Ending.returned (congrArg (fun x0 => Value.bool x0) e27), hw.drop 2⟩

set_option maxRecDepth 20000 in
set_option maxHeartbeats 8000000 in
theorem isagogeref01_Of_ok {R : RO} {G : List Res} {w : World} (op : Int) (n : Int) {A_l : Option Addr} {d_l : Nat} (l : List (Concept)) (hi_op : i64 op) (hi_n : i64 n) (hs_l : SlAt kConcept R A_l l) (hw : Own w R (G)) :
    Calls Tryz.prog 64 [.int .i64 op, .int .i64 n, .slice A_l l.length d_l].toArray w (RetO R G (fun v_ R' L_ => ∃ (cs_0 : List Value), v_ = (.agg cs_0.toArray : Value) ∧ L_ = ([] : List Res) ∧ kConcept.rep R' (Concept.mk op n l) cs_0)) := by
  unfold i64 at hi_op
  unfold i64 at hi_n
  have hz_l := hs_l.size
  unfold big at hz_l
  refine fn_enter (vs := [.int .i64 op, .int .i64 n, .slice A_l l.length d_l]) Tryz.func64 rfl rfl rfl ?_ hw
  refine tc_seq <| tc_region ?_
  refine tl_alloc zc37 rfl fun b1 => ?_
  refine tl_nil <| tx_then <| tc_seq <| tc_region ?_
  refine tl (v_move rfl) ?_
  refine tl (v_move rfl) ?_
  refine tl (v_move rfl) ?_
  refine tl (v_build [.int .i64 op, .int .i64 n, .slice A_l l.length d_l] zc37 pl37 rfl rfl) ?_
  refine tl_st 0 [.int .i64 op, .int .i64 n, .slice A_l l.length d_l] rfl rfl ld37 rfl rfl rfl rfl rfl rfl ?_
  refine tl_nil <| tx_then <| tc_ret ?_
  refine tx_retc (cells := [.int .i64 op, .int .i64 n, .slice A_l l.length d_l]) 0 (.inl rfl) rfl rfl ld37 rfl ?_
  have e2 : ((Concept.mk op n l) : Concept) = Concept.mk op n l := by rfl
  intro w hw
  exact ⟨_, _, [], rfl, .refl _, hw.drop 1, ([.int .i64 op, .int .i64 n, .slice A_l l.length d_l]), rfl, rfl, (Eq.mp (congrArg (fun z => kConcept.rep R z [.int .i64 op, .int .i64 n, .slice A_l l.length d_l]) e2) (kConcept_mk (x := Concept.mk op n l) (show i64 (op) from (by unfold i64; omega)) (show i64 (n) from (by unfold i64; omega)) hs_l))⟩

set_option maxRecDepth 20000 in
set_option maxHeartbeats 8000000 in
theorem isagogeref01_SameInts_ok {R : RO} {G : List Res} {w : World} {A_a : Option Addr} {d_a : Nat} (a : List (Int)) {A_b : Option Addr} {d_b : Nat} (b : List (Int)) (hs_a : SlAt kInt R A_a a) (hs_b : SlAt kInt R A_b b) (hw : Own w R (G)) :
    Calls Tryz.prog 12 [.slice A_a a.length d_a, .slice A_b b.length d_b].toArray w (Gives R G (.bool (decide (a = b)))) := by
  have hz_a := hs_a.size
  unfold big at hz_a
  have hz_b := hs_b.size
  unfold big at hz_b
  refine fn_enter (vs := [.slice A_a a.length d_a, .slice A_b b.length d_b]) Tryz.func12 rfl rfl rfl ?_ hw
  refine tc_seq <| tc_region ?_
  refine tl (v_assign rfl) ?_
  refine tl_nil <| tx_then <| tc_seq <| tc_seq <| tc_region ?_
  refine tl (v_move rfl) ?_
  refine tl (v_len rfl sl31) ?_
  refine tl (v_move rfl) ?_
  refine tl (v_len rfl sl31) ?_
  refine tl (v_ib rfl rfl rfl) ?_
  refine tl_nil <| tx_then ?_
  refine tc_split 10 rfl (fun h1 => ?_) (fun h1 => ?_)
  ·
   refine tc_yes rfl ?_
   refine tc_seq <| tc_region ?_
   refine tl (v_assign rfl) ?_
   refine tl_nil <| tx_then <| tc_ret <| tx_then_ret ?_
   refine tx_ret1 (.inl rfl) rfl rfl ?_
   have e2 : (false : Bool) = decide (a = b) := by (rw [eq_comm, decide_eq_false_iff_not]; intro h_; subst h_; omega)
   exact fun w hw => ⟨congrArg Ending.returned (congrArg (fun x0 => Value.bool x0) e2), hw⟩
  ·
   refine tc_no rfl ?_
   refine tc_skip <| tx_then <| tc_seq <| tc_seq <| tc_region ?_
   refine tl (v_move rfl) ?_
   refine tl (v_len rfl sl31) ?_
   refine tl (v_move rfl) ?_
   refine tl_nil <| tx_then <| tc_block ?_
   refine tc_loop ?_
   refine th_loopS (fun i : Nat => a.length - i) (fun i : Nat => [(0, .slice A_a a.length d_a), (1, .slice A_b b.length d_b), (12, .int .i64 (a.length : Int)), (13, .int .i64 (i : Int))]) (fun i : Nat => (G)) (fun (i : Nat) => i ≤ a.length ∧ ∀ j : Nat, j < i → a[j]? = b[j]?) (0) ⟨rfl, rfl, rfl, rfl, trivial⟩ (by exact ⟨by omega, fun j h => by omega⟩) (fun w hw => hw) ?_
   rintro i hI3 ih4
   show TC Tryz.prog _ _ _ [] [(0, .slice A_a a.length d_a), (1, .slice A_b b.length d_b), (12, .int .i64 (a.length : Int)), (13, .int .i64 (i : Int))] R (G)
   obtain ⟨hi1, hi2⟩ := hI3
   refine tc_seq <| tc_region ?_
   refine tl (v_ib rfl rfl rfl) ?_
   refine tl_nil <| tx_then <| tc_seq ?_
   refine tc_split 14 rfl (fun h7 => ?_) (fun h7 => ?_)
   ·
    refine tc_yes rfl ?_
    refine tc_skip <| tx_then <| tc_seq <| tc_block <| tc_seq <| tc_region ?_
    refine tl (v_move rfl) ?_
    refine tl (v_assign rfl) ?_
    refine tl_nil <| tx_then <| tc_seq ?_
    refine tc_quiet mixed (by kernel_rfl) ?_
    refine tq (v_move rfl) ?_
    refine tq (v_move rfl) ?_
    have hb13 : i < a.length := by omega
    obtain ⟨x8, hx9⟩ : ∃ x, a[i]? = some x := ⟨_, List.getElem?_eq_getElem hb13⟩
    obtain ⟨c10, hr11, ha12⟩ := hs_a.get _ x8 hx9
    obtain ⟨rfl, i14⟩ := hr11
    unfold i64 at i14
    refine tq (v_idxS (i := i) hs_a rfl rfl rfl sl31 hb13) ?_
    refine tq (v_ldA 0 ha12 rfl ld3 rfl rfl) ?_
    refine tq (v_move rfl) ?_
    refine tq (v_move rfl) ?_
    have hb20 : i < b.length := by omega
    obtain ⟨x15, hx16⟩ : ∃ x, b[i]? = some x := ⟨_, List.getElem?_eq_getElem hb20⟩
    obtain ⟨c17, hr18, ha19⟩ := hs_b.get _ x15 hx16
    obtain ⟨rfl, i21⟩ := hr18
    unfold i64 at i21
    refine tq (v_idxS (i := i) hs_b rfl rfl rfl sl31 hb20) ?_
    refine tq (v_ldA 0 ha19 rfl ld3 rfl rfl) ?_
    refine tq (v_ib rfl rfl rfl) ?_
    refine tq_nil <| tx_then ?_
    refine tc_split 24 rfl (fun h22 => ?_) (fun h22 => ?_)
    ·
     refine tc_yes rfl ?_
     refine tc_seq <| tc_region ?_
     refine tl (v_assign rfl) ?_
     refine tl_nil <| tx_then <| tc_ret <| tx_blk_ret <| tx_then_ret <| tx_then_ret <| tx_blk_ret <| tx_then_ret ?_
     refine tx_ret1 (.inl rfl) rfl rfl ?_
     have e23 : (false : Bool) = decide (a = b) := by (rw [eq_comm, decide_eq_false_iff_not]; intro h_; subst h_; grind)
     exact fun w hw => ⟨congrArg Ending.returned (congrArg (fun x0 => Value.bool x0) e23), hw⟩
    ·
     refine tc_no rfl ?_
     refine tc_skip <| tx_blk <| tx_then <| tc_region ?_
     refine tl (v_add rfl rfl (by omega) (by omega)) ?_
     refine tl (v_move rfl) ?_
     refine tl_nil ?_
     refine tx_round ?_
     exact fun a w ha hw => ih4.out (i + 1) (by refine ⟨by omega, fun j h => ?_⟩; by_cases e : j = i; (subst e; grind); exact hi2 j (by omega)) (by (try dsimp only); omega) a w (ha.sub (lkAll_lk ⟨rfl, rfl, rfl, rfl, trivial⟩)) (hw)
   ·
    refine tc_no rfl ?_
    refine tc_exit <| tx_then_exit <| tx_then_exit <| tx_blk_exit <| tx_then <| tc_seq <| tc_region ?_
    refine tl (v_assign rfl) ?_
    refine tl_nil <| tx_then <| tc_ret ?_
    refine tx_ret1 (.inl rfl) rfl rfl ?_
    have e24 : (true : Bool) = decide (a = b) := by (rw [eq_comm, decide_eq_true_eq]; apply List.ext_getElem?; intro j; by_cases e : j < i; exact hi2 j e; rw [List.getElem?_eq_none (by omega), List.getElem?_eq_none (by omega)])
    exact fun w hw => ⟨congrArg Ending.returned (congrArg (fun x0 => Value.bool x0) e24), hw⟩

def fewNamesB (n : Names) : Bool := decide (n.concepts.length ≤ 100 ∧ n.roles.length ≤ 100 ∧ n.inds.length ≤ 100 ∧ ∀ s ∈ namesL n, s.size ≤ 100)

set_option maxRecDepth 20000 in
set_option maxHeartbeats 8000000 in
theorem isagogeref01_FewNames_ok {R : RO} {G : List Res} {w : World} {c_n : List Value} (n : Names) (hr_n : kNames.rep R n c_n) (hw : Own w R (G)) :
    Calls Tryz.prog 62 [.agg c_n.toArray].toArray w (Gives R G (.bool (fewNamesB n))) := by
  obtain ⟨A1, d2, A5, d6, A9, d10, rfl, hs3, hs7, hs11⟩ := id hr_n
  have z4 := hs3.size
  unfold big at z4
  have z8 := hs7.size
  unfold big at z8
  have z12 := hs11.size
  unfold big at z12
  refine fn_enter (vs := [.agg #[.slice A1 n.concepts.length d2, .slice A5 n.roles.length d6, .slice A9 n.inds.length d10]]) Tryz.func62 rfl rfl rfl ?_ hw
  refine tc_seq <| tc_region ?_
  refine tl_box_agg (l := [.slice A1 n.concepts.length d2, .slice A5 n.roles.length d6, .slice A9 n.inds.length d10]) rfl rfl fun b13 => ?_
  refine tl (v_assign rfl) ?_
  refine tl_nil <| tx_then <| tc_seq <| tc_seq <| tc_region ?_
  refine tl (v_fieldAddr 0 rfl fo24_0 rfl) ?_
  refine tl (v_ld 0 rfl ld22 rfl rfl) ?_
  refine tl (v_fieldAddr 1 rfl fo24_1 rfl) ?_
  refine tl (v_ld 0 rfl ld22 rfl rfl) ?_
  refine tl (v_fieldAddr 2 rfl fo24_2 rfl) ?_
  refine tl (v_ld 0 rfl ld22 rfl rfl) ?_
  refine tl_bslice [.slice A1 n.concepts.length d2, .slice A5 n.roles.length d6, .slice A9 n.inds.length d10] ap115 rfl rfl rfl rfl rfl rfl rfl fun b14 => ?_
  refine tl_retire (k := kStr.sl) (l := threeL n) 0 rfl (⟨_, _, rfl, ⟨_, _, rfl, hs3⟩, _, _, rfl, ⟨_, _, rfl, hs7⟩, _, _, rfl, ⟨_, _, rfl, hs11⟩, rfl⟩) (by show 3 ≤ big; unfold big; omega) fun R15 hle16 hs17 => ?_
  have z18 := hs17.size
  unfold big at z18
  refine tl (v_len rfl sl115) ?_
  refine tl (v_move rfl) ?_
  refine tl_nil <| tx_then <| tc_block ?_
  refine tc_loop ?_
  refine th_loopS (fun i : Nat => 3 - i) (fun i : Nat => [(13, .slice (some ⟨b14, 0, none⟩) 3 3), (14, .int .i64 3), (15, .int .i64 (i : Int))]) (fun i : Nat => (.blk b13 [.slice A1 n.concepts.length d2, .slice A5 n.roles.length d6, .slice A9 n.inds.length d10] 24 :: G)) (fun (i : Nat) => i ≤ 3 ∧ ∀ x ∈ (threeL n).take i, x.length ≤ 100 ∧ ∀ s ∈ x, s.size ≤ 100) (0) ⟨rfl, rfl, rfl, trivial⟩ (by exact ⟨by omega, by simp⟩) (fun w hw => hw) ?_
  rintro i hI19 ih20
  show TC Tryz.prog _ _ _ [] [(13, .slice (some ⟨b14, 0, none⟩) 3 3), (14, .int .i64 3), (15, .int .i64 (i : Int))] R15 (.blk b13 [.slice A1 n.concepts.length d2, .slice A5 n.roles.length d6, .slice A9 n.inds.length d10] 24 :: G)
  obtain ⟨hi1, hi2⟩ := hI19
  have hl3 : (threeL n).length = 3 := rfl
  refine tc_seq <| tc_region ?_
  refine tl (v_ib rfl rfl rfl) ?_
  refine tl_nil <| tx_then <| tc_seq ?_
  refine tc_split 16 rfl (fun h23 => ?_) (fun h23 => ?_)
  ·
   refine tc_yes rfl ?_
   refine tc_skip <| tx_then <| tc_seq <| tc_block <| tc_seq <| tc_region ?_
   have hb29 : i < (threeL n).length := by omega
   obtain ⟨x24, hx25⟩ : ∃ x, (threeL n)[i]? = some x := ⟨_, List.getElem?_eq_getElem hb29⟩
   obtain ⟨c26, hr27, ha28⟩ := hs17.get _ x24 hx25
   obtain ⟨A30, d31, rfl, hs32⟩ := hr27
   have z33 := hs32.size
   unfold big at z33
   refine tl (v_idxS (i := i) hs17 rfl rfl rfl sl115 hb29) ?_
   refine tl (v_ldA 0 ha28 rfl ld22 rfl rfl) ?_
   refine tl (v_assign rfl) ?_
   refine tl_nil <| tx_then <| tc_seq <| tc_seq <| tc_region ?_
   refine tl (v_move rfl) ?_
   refine tl (v_len rfl sl22) ?_
   refine tl (v_ib rfl rfl rfl) ?_
   refine tl_nil <| tx_then ?_
   refine tc_split 21 rfl (fun h34 => ?_) (fun h34 => ?_)
   ·
    refine tc_yes rfl ?_
    refine tc_seq <| tc_region ?_
    refine tl (v_assign rfl) ?_
    refine tl_nil <| tx_then <| tc_ret <| tx_then_ret <| tx_blk_ret <| tx_then_ret <| tx_then_ret <| tx_blk_ret <| tx_then_ret ?_
    refine tx_ret1 (.inl rfl) rfl rfl ?_
    have e35 : (false : Bool) = fewNamesB n := by (rw [eq_comm]; unfold fewNamesB; rw [decide_eq_false_iff_not]; rintro ⟨h1_, h2_, h3_, -⟩; have hm_ := List.mem_of_getElem? hx25; simp only [threeL, List.mem_cons, List.not_mem_nil, or_false] at hm_; rcases hm_ with rfl | rfl | rfl <;> omega)
    exact fun w hw => ⟨congrArg Ending.returned (congrArg (fun x0 => Value.bool x0) e35), (hw.drop 1).weaken hle16⟩
   ·
    refine tc_no rfl ?_
    refine tc_skip <| tx_then <| tc_seq <| tc_region ?_
    refine tl (v_move rfl) ?_
    refine tl (v_len rfl sl22) ?_
    refine tl (v_move rfl) ?_
    refine tl_nil <| tx_then <| tc_block ?_
    refine tc_loop ?_
    refine th_loopS (fun j : Nat => x24.length - j) (fun j : Nat => [(13, .slice (some ⟨b14, 0, none⟩) 3 3), (14, .int .i64 3), (15, .int .i64 (i : Int)), (22, .slice A30 x24.length d31), (23, .int .i64 (x24.length : Int)), (24, .int .i64 (j : Int))]) (fun j : Nat => (.blk b13 [.slice A1 n.concepts.length d2, .slice A5 n.roles.length d6, .slice A9 n.inds.length d10] 24 :: G)) (fun (j : Nat) => j ≤ x24.length ∧ ∀ s ∈ x24.take j, s.size ≤ 100) (0) ⟨rfl, rfl, rfl, rfl, rfl, rfl, trivial⟩ (by exact ⟨by omega, by simp⟩) (fun w hw => hw) ?_
    rintro j hI36 ih37
    show TC Tryz.prog _ _ _ [] [(13, .slice (some ⟨b14, 0, none⟩) 3 3), (14, .int .i64 3), (15, .int .i64 (i : Int)), (22, .slice A30 x24.length d31), (23, .int .i64 (x24.length : Int)), (24, .int .i64 (j : Int))] R15 (.blk b13 [.slice A1 n.concepts.length d2, .slice A5 n.roles.length d6, .slice A9 n.inds.length d10] 24 :: G)
    obtain ⟨hj1, hj2⟩ := hI36
    refine tc_seq <| tc_region ?_
    refine tl (v_ib rfl rfl rfl) ?_
    refine tl_nil <| tx_then <| tc_seq ?_
    refine tc_split 25 rfl (fun h40 => ?_) (fun h40 => ?_)
    ·
     refine tc_yes rfl ?_
     refine tc_skip <| tx_then <| tc_seq <| tc_block <| tc_seq <| tc_region ?_
     have hb46 : j < x24.length := by omega
     obtain ⟨x41, hx42⟩ : ∃ x, x24[j]? = some x := ⟨_, List.getElem?_eq_getElem hb46⟩
     obtain ⟨c43, hr44, ha45⟩ := hs32.get _ x41 hx42
     obtain ⟨rfl, z47⟩ := hr44
     unfold big at z47
     refine tl (v_idxS (i := j) hs32 rfl rfl rfl sl22 hb46) ?_
     refine tl (v_ldA 0 ha45 rfl ld9 rfl rfl) ?_
     refine tl (v_assign rfl) ?_
     refine tl_nil <| tx_then <| tc_seq <| tc_region ?_
     refine tl (v_move rfl) ?_
     refine tl (v_len_str rfl st9) ?_
     refine tl (v_ib rfl rfl rfl) ?_
     refine tl_nil <| tx_then ?_
     refine tc_split 30 rfl (fun h48 => ?_) (fun h48 => ?_)
     ·
      refine tc_yes rfl ?_
      refine tc_seq <| tc_region ?_
      refine tl (v_assign rfl) ?_
      refine tl_nil <| tx_then <| tc_ret <| tx_blk_ret <| tx_then_ret <| tx_then_ret <| tx_blk_ret <| tx_blk_ret <| tx_then_ret <| tx_then_ret <| tx_blk_ret <| tx_then_ret ?_
      refine tx_ret1 (.inl rfl) rfl rfl ?_
      have e49 : (false : Bool) = fewNamesB n := by (rw [eq_comm]; unfold fewNamesB; rw [decide_eq_false_iff_not]; rintro ⟨-, -, -, h4_⟩; have h5_ := h4_ _ (by rw [← three_flat]; exact List.mem_flatten.2 ⟨_, List.mem_of_getElem? hx25, List.mem_of_getElem? hx42⟩); omega)
      exact fun w hw => ⟨congrArg Ending.returned (congrArg (fun x0 => Value.bool x0) e49), (hw.drop 1).weaken hle16⟩
     ·
      refine tc_no rfl ?_
      refine tc_skip <| tx_blk <| tx_then <| tc_region ?_
      refine tl (v_add rfl rfl (by omega) (by omega)) ?_
      refine tl (v_move rfl) ?_
      refine tl_nil ?_
      refine tx_round ?_
      exact fun a w ha hw => ih37.out (j + 1) (by exact ⟨by omega, all_take hj2 hx42 (by omega)⟩) (by (try dsimp only); omega) a w (ha.sub (lkAll_lk ⟨rfl, rfl, rfl, rfl, rfl, congrArg (fun z => some (Value.int .i64 z)) (show ((j : Int) + 1 : Int) = ((j + 1) : Int) by first | rfl | omega), trivial⟩)) (hw)
    ·
     refine tc_no rfl ?_
     refine tc_exit <| tx_then_exit <| tx_then_exit <| tx_blk_exit <| tx_blk <| tx_then <| tc_region ?_
     refine tl (v_add rfl rfl (by omega) (by omega)) ?_
     refine tl (v_move rfl) ?_
     refine tl_nil ?_
     refine tx_round ?_
     exact fun a w ha hw => ih20.out (i + 1) (by exact ⟨by omega, all_take hi2 hx25 ⟨by omega, by rw [take_all (by assumption) (by assumption)] at hj2; exact hj2⟩⟩) (by (try dsimp only); omega) a w (ha.sub (lkAll_lk ⟨rfl, rfl, rfl, trivial⟩)) (hw)
  ·
   refine tc_no rfl ?_
   refine tc_exit <| tx_then_exit <| tx_then_exit <| tx_blk_exit <| tx_then <| tc_seq <| tc_region ?_
   refine tl (v_assign rfl) ?_
   refine tl_nil <| tx_then <| tc_ret ?_
   refine tx_ret1 (.inl rfl) rfl rfl ?_
   have e50 : (true : Bool) = fewNamesB n := by ((have e_ : i = 3 := by omega); subst e_; rw [eq_comm]; unfold fewNamesB; rw [decide_eq_true_eq]; (have h_ : ∀ x ∈ threeL n, x.length ≤ 100 ∧ ∀ s ∈ x, s.size ≤ 100 := hi2); simp only [threeL, List.mem_cons, List.not_mem_nil, or_false, forall_eq_or_imp, forall_eq] at h_; refine ⟨h_.1.1, h_.2.1.1, h_.2.2.1, fun s hs => ?_⟩; simp only [namesL, List.mem_append] at hs; rcases hs with (hs | hs) | hs; exact h_.1.2 s hs; exact h_.2.1.2 s hs; exact h_.2.2.2 s hs)
   exact fun w hw => ⟨congrArg Ending.returned (congrArg (fun x0 => Value.bool x0) e50), (hw.drop 1).weaken hle16⟩

end Go.Proofs.YtcbcdlajnmkioaaGreatDoor
