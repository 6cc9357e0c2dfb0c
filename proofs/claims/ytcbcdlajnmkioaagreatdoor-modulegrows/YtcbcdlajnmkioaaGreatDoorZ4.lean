/- A part of the proof of the statement ModuleGrows of isagogelaw19: functions walked, and plain laws on what they answer. -/
import Derived.Test.YtcbcdlajnmkioaaGreatDoorZ3
namespace Go.Proofs.YtcbcdlajnmkioaaGreatDoor
open Go Go.Proofs
set_option linter.unusedSimpArgs false
set_option linter.unusedVariables false
theorem ca45 : Callable Tryz.prog 45 := ⟨by kernel_rfl⟩
theorem ca46 : Callable Tryz.prog 46 := ⟨by kernel_rfl⟩
theorem ca53 : Callable Tryz.prog 53 := ⟨by kernel_rfl⟩
theorem ca68 : Callable Tryz.prog 68 := ⟨by kernel_rfl⟩
theorem ca69 : Callable Tryz.prog 69 := ⟨by kernel_rfl⟩
theorem zc98 : zcells Tryz.prog 98 = some [(.map none)] := by kernel_rfl

theorem nodesL_sub {l m : List Concept} (h : l.Sublist m) : nodesL l ≤ nodesL m := by
  induction h with
  | slnil => simp
  | cons x _ ih => simp only [nodesL]; omega
  | cons_cons x _ ih => simp only [nodesL]; omega
theorem incls_at {b : Base} {x : Incl} (h : x ∈ b.incls) : [x.sub, x.sup].Sublist (conceptsB b) := by
  obtain ⟨s, t, e⟩ := List.append_of_mem h
  unfold conceptsB inclsC
  rw [e, List.flatMap_append, List.flatMap_cons]
  exact ((List.sublist_append_left [x.sub, x.sup] _).trans (List.sublist_append_right _ _)).trans (List.sublist_append_left _ _)
theorem facts_at {b : Base} {x : Fact} (h : x ∈ b.facts) : [x.con].Sublist (conceptsB b) := by
  rw [List.singleton_sublist]
  exact List.mem_append_right _ (List.mem_map.2 ⟨x, h, rfl⟩)
theorem one_ok {b : Base} (hB : BaseOk b) {x : Ax} (hx : x ∈ allA b) : BaseOk (ofB b.names [x]) := by
  simp only [allA, List.mem_append, List.mem_map] at hx
  have hn := hB.nodes
  rcases hx with ((⟨y, hy, rfl⟩ | ⟨y, hy, rfl⟩) | ⟨y, hy, rfl⟩) | ⟨y, hy, rfl⟩
  · have hs := incls_at hy
    have e : conceptsB (ofB b.names [.incl y]) = [y.sub, y.sup] := by simp [conceptsB, inclsC, factsC, ofB, exI, exF]
    refine ⟨hB.names, by simp [axiomsN, ofB, exI, exR, exF, exL], fun c hc => hB.concepts c (hs.subset (e ▸ hc)), by simp [ofB, exR], by simp [ofB, exF], by simp [ofB, exL], ?_⟩
    rw [e]; have := nodesL_sub hs; omega
  · have e : conceptsB (ofB b.names [.role y]) = [] := by simp [conceptsB, inclsC, factsC, ofB, exI, exF]
    refine ⟨hB.names, by simp [axiomsN, ofB, exI, exR, exF, exL], by simp [e], ?_, by simp [ofB, exF], by simp [ofB, exL], by simp [e, nodesL]⟩
    intro x hx
    have : x = y := by simpa [ofB, exR] using hx
    exact this ▸ hB.roles y hy
  · have hs := facts_at hy
    have e : conceptsB (ofB b.names [.fact y]) = [y.con] := by simp [conceptsB, inclsC, factsC, ofB, exI, exF]
    refine ⟨hB.names, by simp [axiomsN, ofB, exI, exR, exF, exL], fun c hc => hB.concepts c (hs.subset (e ▸ hc)), by simp [ofB, exR], ?_, by simp [ofB, exL], ?_⟩
    · intro x hx
      have : x = y := by simpa [ofB, exF] using hx
      exact this ▸ hB.facts y hy
    · rw [e]; have := nodesL_sub hs; omega
  · have e : conceptsB (ofB b.names [.link y]) = [] := by simp [conceptsB, inclsC, factsC, ofB, exI, exF]
    refine ⟨hB.names, by simp [axiomsN, ofB, exI, exR, exF, exL], by simp [e], by simp [ofB, exR], by simp [ofB, exF], ?_, by simp [e, nodesL]⟩
    intro x hx
    have : x = y := by simpa [ofB, exL] using hx
    exact this ▸ hB.links y hy
theorem sortI_mem {l : List Int} {x : Int} : x ∈ sortI l ↔ x ∈ l := (List.mergeSort_perm l _).mem_iff
theorem kuses_mem {b : Base} (h : BaseOk b) (x : Int) : (x ∈ (kuses b).1 ↔ x ∈ (usesRaw b).1.1) ∧ (x ∈ (kuses b).2.1 ↔ x ∈ (usesRaw b).1.2) := by
  have hb : baseB b = true := decide_eq_true h
  unfold kuses
  rw [if_pos hb]
  exact ⟨sortI_mem, sortI_mem⟩
theorem visitM_mem {n : Names} {op a : Int} {args : List Concept} (hc : shapedB n (.mk op a args) = true) (s : List Int × List Int) (x : Int) :
    (x ∈ (visitM (.mk op a args) s).1 ↔ x ∈ s.1 ∨ (op = 0 ∧ x = a)) ∧ (x ∈ (visitM (.mk op a args) s).2 ↔ x ∈ s.2 ∨ ((op = 6 ∨ op = 7) ∧ x = a / 2)) := by
  have hs := ((shapedB_iff n _).1 hc).1
  have ha : 0 ≤ a := hs.2.1
  have ht : a.tdiv 2 = a / 2 := Int.tdiv_eq_ediv_of_nonneg ha
  unfold visitM
  simp only [Concept.op, Concept.n]
  by_cases h : op = 0
  · simp [insK_mm, h]
  · by_cases h2 : op = 6 ∨ op = 7
    · simp [insK_mm, h, h2, ht]
    · simp [h, h2]
mutual
theorem walkM_mem {n : Names} : ∀ (c : Concept), shapedB n c = true → ∀ (s : List Int × List Int) (x : Int), (x ∈ (walkC visitM c s).1 ↔ x ∈ s.1 ∨ inC c x) ∧ (x ∈ (walkC visitM c s).2 ↔ x ∈ s.2 ∨ inR c x)
  | .mk op a args, hc, s, x => by
    rw [walkC, inC, inR]
    have h := walkMs_mem args ((shapedB_iff n _).1 hc).2 (visitM (.mk op a args) s) x
    have h1 := visitM_mem hc s x
    rw [h.1, h.2, h1.1, h1.2]
    exact ⟨or_assoc, or_assoc⟩
theorem walkMs_mem {n : Names} : ∀ (l : List Concept), (∀ c ∈ l, shapedB n c = true) → ∀ (s : List Int × List Int) (x : Int), (x ∈ (walkL visitM l s).1 ↔ x ∈ s.1 ∨ inCs l x) ∧ (x ∈ (walkL visitM l s).2 ↔ x ∈ s.2 ∨ inRs l x)
  | [], _, s, x => by simp [walkL, inCs, inRs]
  | c :: cs, hl, s, x => by
    rw [walkL, inCs, inRs]
    have h := walkMs_mem cs (fun y hy => hl y (by simp [hy])) (walkC visitM c s) x
    have h1 := walkM_mem c (hl c (by simp)) s x
    rw [h.1, h.2, h1.1, h1.2]
    exact ⟨or_assoc, or_assoc⟩
end
theorem allA_at (b : Base) (k : Nat) : (allA b)[k]? = match b.incls[k]? with
    | some x => some (.incl x)
    | none => match b.roles[k - b.incls.length]? with
      | some x => some (.role x)
      | none => match b.facts[k - b.incls.length - b.roles.length]? with
        | some x => some (.fact x)
        | none => match b.links[k - b.incls.length - b.roles.length - b.facts.length]? with
          | some x => some (.link x)
          | none => none := by
  unfold allA
  by_cases h1 : k < b.incls.length
  · rw [List.getElem?_append_left (by simp; omega), List.getElem?_append_left (by simp; omega), List.getElem?_append_left (by simp; omega), List.getElem?_map, List.getElem?_eq_getElem h1]; rfl
  · rw [List.getElem?_eq_none (l := b.incls) (by omega)]
    simp only []
    by_cases h2 : k - b.incls.length < b.roles.length
    · rw [List.getElem?_append_left (by simp; omega), List.getElem?_append_left (by simp; omega), List.getElem?_append_right (by simp; omega), List.length_map, List.getElem?_map, List.getElem?_eq_getElem h2]; rfl
    · rw [List.getElem?_eq_none (l := b.roles) (by omega)]
      simp only []
      by_cases h3 : k - b.incls.length - b.roles.length < b.facts.length
      · rw [List.getElem?_append_left (by simp; omega), List.getElem?_append_right (by simp; omega), List.getElem?_map, show k - (b.incls.map Ax.incl ++ b.roles.map Ax.role).length = k - b.incls.length - b.roles.length by simp; omega, List.getElem?_eq_getElem h3]; rfl
      · rw [List.getElem?_eq_none (l := b.facts) (by omega)]
        simp only []
        rw [List.getElem?_append_right (by simp; omega), List.getElem?_map, show k - (b.incls.map Ax.incl ++ b.roles.map Ax.role ++ b.facts.map Ax.fact).length = k - b.incls.length - b.roles.length - b.facts.length by simp; omega]
        cases b.links[k - b.incls.length - b.roles.length - b.facts.length]? <;> rfl
theorem names_one {b : Base} (hB : BaseOk b) {k : Int} (hk : 0 ≤ k ∧ k < axiomsN b) (x : Int) : (x ∈ (namesP b [k]).concepts ↔ axC b k.toNat x) ∧ (x ∈ (namesP b [k]).roles ↔ axR b k.toNat x) := by
  obtain ⟨y, hy⟩ : ∃ y, (allA b)[k.toNat]? = some y := ⟨_, List.getElem?_eq_getElem (by rw [allA_len]; omega)⟩
  have hB1 := one_ok hB (List.mem_of_getElem? hy)
  have ep : pickB b [k] = ofB b.names [y] := by simp [pickB, pickA, hy]
  have hm := kuses_mem hB1 x
  unfold namesP axC axR
  rw [ep, hm.1, hm.2]
  rw [allA_at] at hy
  have hsh : ∀ c ∈ conceptsB (ofB b.names [y]), shapedB b.names c = true := fun c hc => (hB1.concepts c hc).2.2
  unfold usesA
  split at hy
  · rename_i z hz
    obtain rfl := Option.some.inj hy
    have e : usesRaw (ofB b.names [.incl z]) = (walkC visitM z.sup (walkC visitM z.sub ([], [])), []) := by simp [usesRaw, useI, useR, useF, useL, useLi, useFi, ofB, exI, exR, exF, exL]
    have h1 := hsh z.sub (by simp [conceptsB, inclsC, factsC, ofB, exI, exF]); have h2 := hsh z.sup (by simp [conceptsB, inclsC, factsC, ofB, exI, exF])
    rw [e, hz]
    dsimp only
    rw [(walkM_mem z.sup h2 _ x).1, (walkM_mem z.sup h2 _ x).2, (walkM_mem z.sub h1 _ x).1, (walkM_mem z.sub h1 _ x).2, (addS_mem _ _ _).1, (addS_mem _ _ _).2, (addS_mem _ _ _).1, (addS_mem _ _ _).2]
    exact ⟨.rfl, .rfl⟩
  · rename_i hz
    rw [hz]
    dsimp only
    split at hy
    · rename_i z hz2
      obtain rfl := Option.some.inj hy
      have e : usesRaw (ofB b.names [.role z]) = (([], insK (insK [] (z.sub / 2)) (z.sup / 2)), []) := by simp [usesRaw, useI, useR, useF, useL, useLi, useFi, ofB, exI, exR, exF, exL]
      rw [e, hz2]
      dsimp only
      simp [insK_mm, insI_mem]
    · rename_i hz2
      rw [hz2]
      dsimp only
      split at hy
      · rename_i z hz3
        obtain rfl := Option.some.inj hy
        have e : usesRaw (ofB b.names [.fact z]) = (walkC visitM z.con ([], []), [z.ind]) := by simp [usesRaw, useI, useR, useF, useL, useLi, useFi, ofB, exI, exR, exF, exL, insK]
        have h1 := hsh z.con (by simp [conceptsB, inclsC, factsC, ofB, exI, exF])
        rw [e, hz3]
        dsimp only
        rw [(walkM_mem z.con h1 _ x).1, (walkM_mem z.con h1 _ x).2, (addS_mem _ _ _).1, (addS_mem _ _ _).2]
        exact ⟨.rfl, .rfl⟩
      · rename_i hz3
        rw [hz3]
        dsimp only
        split at hy
        · rename_i z hz4
          obtain rfl := Option.some.inj hy
          have e : (usesRaw (ofB b.names [.link z])).1 = ([], insK [] z.role) := by simp [usesRaw, useI, useR, useF, useL, useLi, useFi, ofB, exI, exR, exF, exL]
          rw [e, hz4]
          dsimp only
          simp [insK_mm, insI_mem]
        · cases hy
theorem insAll_mem {s : List Int} {x : Int} : ∀ {l : List Int} {s : List Int}, x ∈ insAll s l ↔ x ∈ s ∨ x ∈ l
  | [], s => by simp [insAll]
  | y :: l, s => by
    have : insAll s (y :: l) = insAll (insK s y) l := rfl
    rw [this, insAll_mem (s := s), insK_mm, List.mem_cons]; exact or_assoc
/-- What module's loop holds: the axioms that are in, the names that are known. -/
structure ModK (b : Base) (l : List Int) (s : Sig) (top : Bool) (o sa sr : List Int) : Prop where
  nd : o.Nodup
  sub : ∀ x ∈ o, x ∈ l ∧ modP b l s top x
  ea : ∀ x, x ∈ sa ↔ x ∈ (namesA b o s).concepts
  er : ∀ x, x ∈ sr ↔ x ∈ (namesA b o s).roles
theorem ModK.init (b : Base) (l : List Int) (s : Sig) (top : Bool) : ModK b l s top [] (insAll [] s.concepts) (insAll [] s.roles) :=
  ⟨List.nodup_nil, by simp, fun x => by rw [insAll_mem (s := [])]; simp [namesA], fun x => by rw [insAll_mem (s := [])]; simp [namesA]⟩
theorem ModK.step {b : Base} {l : List Int} {s : Sig} {top : Bool} {o sa sr : List Int} {k : Int} (h : ModK b l s top o sa sr) (hB : BaseOk b) (hk : 0 ≤ k ∧ k < axiomsN b) (hl : k ∈ l) (hn : ¬ k ∈ o) (hloc : ¬ localB b k.toNat (Sig.mk sa sr) top = true) :
    ModK b l s top (insK o k) (insAll sa (namesP b [k]).concepts) (insAll sr (namesP b [k]).roles) := by
  have e : insK o k = o ++ [k] := by unfold insK; rw [if_neg hn]
  have hm (x : Int) : namesA b (o ++ [k]) s = usesA b k.toNat (namesA b o s) := by simp [namesA]
  refine ⟨insK_nd h.nd, fun x hx => ?_, fun x => ?_, fun x => ?_⟩
  · rcases insK_mm.1 hx with hx | rfl
    · exact h.sub x hx
    · exact ⟨hl, modP_step (fun y hy => (h.sub y hy).2) hl ⟨fun y hy => (h.ea y).1 hy, fun y hy => (h.er y).1 hy⟩ hloc⟩
  · rw [insAll_mem (s := sa), e, hm x, (usesA_mem _ _ _ _).1, h.ea, (names_one hB hk x).1]
  · rw [insAll_mem (s := sr), e, hm x, (usesA_mem _ _ _ _).2, h.er, (names_one hB hk x).2]
theorem ModK.loc {b : Base} {l : List Int} {s : Sig} {top : Bool} {o sa sr : List Int} {k : Int} (h : ModK b l s top o sa sr) (hloc : localB b k.toNat (Sig.mk sa sr) top = true) : localB b k.toNat (namesA b o s) top = true :=
  localB_le ⟨fun y hy => (h.ea y).2 hy, fun y hy => (h.er y).2 hy⟩ b k.toNat top hloc
theorem ModK.done {b : Base} {l : List Int} {s : Sig} {top : Bool} {o sa sr : List Int} (h : ModK b l s top o sa sr) (hc : ClosedM b l s top o) : (l.filter fun k => decide (k ∈ o)) = modL b l s top := by
  classical
  unfold modL
  refine List.filter_congr fun x hx => ?_
  rw [Bool.eq_iff_iff, decide_eq_true_eq, decide_eq_true_eq]
  exact ⟨fun k => (h.sub x k).2, fun k => k o hc⟩

set_option maxRecDepth 20000 in
set_option maxHeartbeats 8000000 in
theorem module_module_ok {R : RO} {G : List Res} {w : World} {c_b : List Value} (b : Base) {A_l : Option Addr} {d_l : Nat} (l : List (Int)) {c_s : List Value} (s : Sig) (kind : Int) (hr_b : kBase.rep R b c_b) (hs_l : SlAt kInt R A_l l) (hr_s : kSig.rep R s c_s) (hi_kind : i64 kind) (hG : Glob R) (hB : BaseOk b) (hl : l.length ≤ 1000 ∧ ∀ x ∈ l, 0 ≤ x ∧ x < axiomsN b) (hk : 0 ≤ kind ∧ kind < 2) (hw : Own w R (G)) :
    Calls Tryz.prog 37 [.agg c_b.toArray, .slice A_l l.length d_l, .agg c_s.toArray, .int .i64 kind].toArray w (RetO R G (fun v_ R' L_ => ∃ (A_0 : Option Addr) (c_0 : Nat) (l_0 : List Value), v_ = (.slice A_0 ((modL b l s (decide (kind = 1))).length) c_0 : Value) ∧ L_ = ([.vec (.slice A_0 ((modL b l s (decide (kind = 1))).length) c_0) ((modL b l s (decide (kind = 1))).length) 3 1 l_0] : List Res) ∧ (kInt).reps R' (modL b l s (decide (kind = 1))) l_0)) := by
  obtain ⟨c1, A3, d4, A6, d7, A9, d10, A12, d13, rfl, hr2, hs5, hs8, hs11, hs14⟩ := id hr_b
  have z27 := hs5.size
  unfold big at z27
  have z28 := hs8.size
  unfold big at z28
  have z29 := hs11.size
  unfold big at z29
  have z30 := hs14.size
  unfold big at z30
  obtain ⟨A15, d16, A19, d20, A23, d24, rfl, hs17, hs21, hs25⟩ := id hr2
  have z18 := hs17.size
  unfold big at z18
  have z22 := hs21.size
  unfold big at z22
  have z26 := hs25.size
  unfold big at z26
  have hz_l := hs_l.size
  unfold big at hz_l
  obtain ⟨A31, d32, A35, d36, rfl, hs33, hs37⟩ := id hr_s
  have z34 := hs33.size
  unfold big at z34
  have z38 := hs37.size
  unfold big at z38
  unfold i64 at hi_kind
  refine fn_enter (vs := [.agg #[.slice A15 b.names.concepts.length d16, .slice A19 b.names.roles.length d20, .slice A23 b.names.inds.length d24, .slice A3 b.incls.length d4, .slice A6 b.roles.length d7, .slice A9 b.facts.length d10, .slice A12 b.links.length d13], .slice A_l l.length d_l, .agg #[.slice A31 s.concepts.length d32, .slice A35 s.roles.length d36], .int .i64 kind]) Tryz.func37 rfl rfl rfl ?_ hw
  refine tc_seq <| tc_region ?_
  refine tl_box_agg (l := [.slice A15 b.names.concepts.length d16, .slice A19 b.names.roles.length d20, .slice A23 b.names.inds.length d24, .slice A3 b.incls.length d4, .slice A6 b.roles.length d7, .slice A9 b.facts.length d10, .slice A12 b.links.length d13]) rfl rfl fun b40 => ?_
  refine tl_box_agg (l := [.slice A31 s.concepts.length d32, .slice A35 s.roles.length d36]) rfl rfl fun b41 => ?_
  refine tl (v_assign rfl) ?_
  refine tl_nil <| tx_then <| tc_seq <| tc_region ?_
  refine tl (v_ld_agg 0 [.slice A31 s.concepts.length d32, .slice A35 s.roles.length d36] rfl ld33 rfl rfl) ?_
  refine tl (v_move rfl) ?_
  refine tl_callo ca45 rfl (fun w hw => module_judgeOf_ok s kind hr_s (by unfold i64; omega) (by omega) hw) rfl ?_
  rintro _ R46 _ hle47 ⟨b42, b43, b44, rfl, rfl, hh45⟩
  try replace hr_b := kBase.mono _ _ _ _ hle47 hr_b
  try replace hs_l := hs_l.mono hle47
  try replace hG := hG.mono hle47
  refine tl_alloc zc101 rfl fun b48 => ?_
  refine tl_st 0 [.iface (outT (decide (kind = 1))) (.agg #[]), .map (some b42), .map (some b43), .pointer (some ⟨b44, 0, none⟩)] rfl rfl ld101 rfl rfl rfl rfl rfl rfl ?_
  refine tl_nil <| tx_then <| tc_seq <| tc_region ?_
  refine tl_makeMap keyI rfl fun b49 => ?_
  refine tl_alloc zc98 rfl fun b50 => ?_
  refine tl_st 0 [.map (some b49)] rfl rfl ld98 rfl rfl rfl rfl rfl rfl ?_
  refine tl_nil <| tx_then <| tc_seq <| tc_seq <| tc_region ?_
  refine tl (v_assign rfl) ?_
  refine tl_nil <| tx_then <| tc_block ?_
  refine tc_loop ?_
  refine th_loop (fun b_ : Bool × List Int × List Int × List Int => match b_ with | (mr, sa, sr, o) => 2 * (l.length - o.length) + (if mr = true then 1 else 0)) (fun b_ : Bool × List Int × List Int × List Int => match b_ with | (mr, sa, sr, o) => [(1, .slice A_l l.length d_l), (4, .pointer (some ⟨b40, 0, none⟩)), (8, .slice none 0 0), (9, .pointer (some ⟨b48, 0, none⟩)), (10, .pointer (some ⟨b50, 0, none⟩)), (11, .bool mr)]) (fun b_ : Bool × List Int × List Int × List Int => match b_ with | (mr, sa, sr, o) => (.blk b50 [.map (some b49)] 98 :: .set keyI b49 o :: .blk b48 [.iface (outT (decide (kind = 1))) (.agg #[]), .map (some b42), .map (some b43), .pointer (some ⟨b44, 0, none⟩)] 101 :: .set keyI b42 sa :: .set keyI b43 sr :: .blk b41 [.slice A31 s.concepts.length d32, .slice A35 s.roles.length d36] 33 :: .blk b40 [.slice A15 b.names.concepts.length d16, .slice A19 b.names.roles.length d20, .slice A23 b.names.inds.length d24, .slice A3 b.incls.length d4, .slice A6 b.roles.length d7, .slice A9 b.facts.length d10, .slice A12 b.links.length d13] 30 :: G)) (fun (b_ : Bool × List Int × List Int × List Int) (R_ : RO) => match b_ with | (mr, sa, sr, o) => ModK b l s (decide (kind = 1)) o sa sr ∧ (mr = false → ClosedM b l s (decide (kind = 1)) o)) (true, (insAll [] s.concepts), (insAll [] s.roles), ([] : List Int)) ⟨rfl, rfl, rfl, rfl, rfl, rfl, trivial⟩ (by exact ⟨ModK.init _ _ _ _, fun h => by cases h⟩) (fun w hw => hw) ?_
  rintro ⟨mr, sa, sr, o⟩ R53 hle54 hI51 ih52
  try replace hr_b := kBase.mono _ _ _ _ hle54 hr_b
  try replace hs_l := hs_l.mono hle54
  try replace hG := hG.mono hle54
  try replace hh45 := hh45.mono hle54
  have hle55 := hle47.trans hle54
  show TC Tryz.prog _ _ _ [] [(1, .slice A_l l.length d_l), (4, .pointer (some ⟨b40, 0, none⟩)), (8, .slice none 0 0), (9, .pointer (some ⟨b48, 0, none⟩)), (10, .pointer (some ⟨b50, 0, none⟩)), (11, .bool mr)] R53 (.blk b50 [.map (some b49)] 98 :: .set keyI b49 o :: .blk b48 [.iface (outT (decide (kind = 1))) (.agg #[]), .map (some b42), .map (some b43), .pointer (some ⟨b44, 0, none⟩)] 101 :: .set keyI b42 sa :: .set keyI b43 sr :: .blk b41 [.slice A31 s.concepts.length d32, .slice A35 s.roles.length d36] 33 :: .blk b40 [.slice A15 b.names.concepts.length d16, .slice A19 b.names.roles.length d20, .slice A23 b.names.inds.length d24, .slice A3 b.incls.length d4, .slice A6 b.roles.length d7, .slice A9 b.facts.length d10, .slice A12 b.links.length d13] 30 :: G)
  obtain ⟨ho1, ho2⟩ := hI51
  have hol := nodup_sub_len ho1.nd (fun x hx => (ho1.sub x hx).1)
  refine tc_seq <| tc_seq <| tc_region ?_
  refine tl (v_move rfl) ?_
  refine tl_nil <| tx_then ?_
  refine tc_splitb 18 rfl (fun h56 => ?_) (fun h56 => ?_)
  ·
   refine tc_yes rfl ?_
   refine tc_skip <| tx_then <| tc_block <| tc_seq <| tc_region ?_
   refine tl (v_assign rfl) ?_
   refine tl_nil <| tx_then <| tc_seq <| tc_region ?_
   refine tl (v_move rfl) ?_
   refine tl (v_len rfl sl31) ?_
   refine tl (v_move rfl) ?_
   refine tl_nil <| tx_then <| tc_block ?_
   refine tc_loop ?_
   refine th_loop (fun b_ : Nat × Bool × List Int × List Int × List Int => match b_ with | (i, m2, sa2, sr2, o2) => l.length - i) (fun b_ : Nat × Bool × List Int × List Int × List Int => match b_ with | (i, m2, sa2, sr2, o2) => [(1, .slice A_l l.length d_l), (4, .pointer (some ⟨b40, 0, none⟩)), (8, .slice none 0 0), (9, .pointer (some ⟨b48, 0, none⟩)), (10, .pointer (some ⟨b50, 0, none⟩)), (19, .slice A_l l.length d_l), (20, .int .i64 (l.length : Int)), (21, .int .i64 (i : Int)), (11, .bool m2)]) (fun b_ : Nat × Bool × List Int × List Int × List Int => match b_ with | (i, m2, sa2, sr2, o2) => (.blk b50 [.map (some b49)] 98 :: .set keyI b49 o2 :: .blk b48 [.iface (outT (decide (kind = 1))) (.agg #[]), .map (some b42), .map (some b43), .pointer (some ⟨b44, 0, none⟩)] 101 :: .set keyI b42 sa2 :: .set keyI b43 sr2 :: .blk b41 [.slice A31 s.concepts.length d32, .slice A35 s.roles.length d36] 33 :: .blk b40 [.slice A15 b.names.concepts.length d16, .slice A19 b.names.roles.length d20, .slice A23 b.names.inds.length d24, .slice A3 b.incls.length d4, .slice A6 b.roles.length d7, .slice A9 b.facts.length d10, .slice A12 b.links.length d13] 30 :: G)) (fun (b_ : Nat × Bool × List Int × List Int × List Int) (R_ : RO) => match b_ with | (i, m2, sa2, sr2, o2) => i ≤ l.length ∧ ModK b l s (decide (kind = 1)) o2 sa2 sr2 ∧ (m2 = false → o2 = o ∧ ∀ y ∈ l.take i, ¬ y ∈ o → localB b y.toNat (namesA b o s) (decide (kind = 1)) = true) ∧ (m2 = true → o.length < o2.length) ∧ o.length ≤ o2.length) (0, false, sa, sr, o) ⟨rfl, rfl, rfl, rfl, rfl, rfl, rfl, rfl, rfl, trivial⟩ (by exact ⟨by omega, ho1, fun _ => ⟨rfl, by simp⟩, fun h => (by cases h), by omega⟩) (fun w hw => hw) ?_
   rintro ⟨i, m2, sa2, sr2, o2⟩ R59 hle60 hI57 ih58
   try replace hr_b := kBase.mono _ _ _ _ hle60 hr_b
   try replace hs_l := hs_l.mono hle60
   try replace hG := hG.mono hle60
   try replace hh45 := hh45.mono hle60
   have hle61 := hle55.trans hle60
   have hle62 := hle54.trans hle60
   show TC Tryz.prog _ _ _ [] [(1, .slice A_l l.length d_l), (4, .pointer (some ⟨b40, 0, none⟩)), (8, .slice none 0 0), (9, .pointer (some ⟨b48, 0, none⟩)), (10, .pointer (some ⟨b50, 0, none⟩)), (19, .slice A_l l.length d_l), (20, .int .i64 (l.length : Int)), (21, .int .i64 (i : Int)), (11, .bool m2)] R59 (.blk b50 [.map (some b49)] 98 :: .set keyI b49 o2 :: .blk b48 [.iface (outT (decide (kind = 1))) (.agg #[]), .map (some b42), .map (some b43), .pointer (some ⟨b44, 0, none⟩)] 101 :: .set keyI b42 sa2 :: .set keyI b43 sr2 :: .blk b41 [.slice A31 s.concepts.length d32, .slice A35 s.roles.length d36] 33 :: .blk b40 [.slice A15 b.names.concepts.length d16, .slice A19 b.names.roles.length d20, .slice A23 b.names.inds.length d24, .slice A3 b.incls.length d4, .slice A6 b.roles.length d7, .slice A9 b.facts.length d10, .slice A12 b.links.length d13] 30 :: G)
   obtain ⟨hj1, hj2, hj3, hj4, hj5⟩ := hI57
   have hul := nodup_sub_len hj2.nd (fun x hx => (hj2.sub x hx).1)
   refine tc_seq <| tc_region ?_
   refine tl (v_ib rfl rfl rfl) ?_
   refine tl_nil <| tx_then <| tc_seq ?_
   refine tc_split 22 rfl (fun h63 => ?_) (fun h63 => ?_)
   ·
    refine tc_yes rfl ?_
    refine tc_skip <| tx_then <| tc_seq <| tc_block <| tc_seq <| tc_region ?_
    have hb69 : i < l.length := by omega
    obtain ⟨x64, hx65⟩ : ∃ x, l[i]? = some x := ⟨_, List.getElem?_eq_getElem hb69⟩
    obtain ⟨c66, hr67, ha68⟩ := hs_l.get _ x64 hx65
    obtain ⟨rfl, i70⟩ := hr67
    unfold i64 at i70
    have hf71 := hl.2 _ (List.mem_of_getElem? hx65)
    refine tl (v_idxS (i := i) hs_l rfl rfl rfl sl31 hb69) ?_
    refine tl (v_ldA 0 ha68 rfl ld3 rfl rfl) ?_
    refine tl (v_assign rfl) ?_
    refine tl_nil <| tx_then ?_
    refine tc_cut [(1, .slice A_l l.length d_l), (4, .pointer (some ⟨b40, 0, none⟩)), (8, .slice none 0 0), (9, .pointer (some ⟨b48, 0, none⟩)), (10, .pointer (some ⟨b50, 0, none⟩)), (19, .slice A_l l.length d_l), (20, .int .i64 (l.length : Int)), (21, .int .i64 (i : Int)), (11, .bool m2), (22, .bool true), (13, .int .i64 x64), (35, .bool (decide ((¬ (x64 ∈ o2)) ∧ ((!(localB b x64.toNat (Sig.mk sa2 sr2) (decide (kind = 1)))) = true))))] (.blk b50 [.map (some b49)] 98 :: .set keyI b49 o2 :: .blk b48 [.iface (outT (decide (kind = 1))) (.agg #[]), .map (some b42), .map (some b43), .pointer (some ⟨b44, 0, none⟩)] 101 :: .set keyI b42 sa2 :: .set keyI b43 sr2 :: .blk b41 [.slice A31 s.concepts.length d32, .slice A35 s.roles.length d36] 33 :: .blk b40 [.slice A15 b.names.concepts.length d16, .slice A19 b.names.roles.length d20, .slice A23 b.names.inds.length d24, .slice A3 b.incls.length d4, .slice A6 b.roles.length d7, .slice A9 b.facts.length d10, .slice A12 b.links.length d13] 30 :: G) (fun _ => True) (fun K hK72 hE73 => ?_) ?_
    ·
     refine tc_region ?_
     refine tl (v_ld 0 rfl ld98 rfl rfl) ?_
     refine tl (v_move rfl) ?_
     refine tl (v_lookup (K := keyI) (ks := o2) (k := x64) 1 mi98 rfl rfl rfl) ?_
     refine tl (v_negd rfl) ?_
     refine tl (v_move rfl) ?_
     refine tl_split 29 rfl (fun h74 => ?_) (fun h74 => ?_)
     ·
      refine tl_grun 29 rfl rfl ?_
      refine tl (v_ld_agg 2 [.iface (outT (decide (kind = 1))) (.agg #[]), .map (some b42), .map (some b43), .pointer (some ⟨b44, 0, none⟩)] rfl ld101 rfl rfl) ?_
      refine tl_grun 29 rfl rfl ?_
      refine tl (v_ld_agg 6 [.slice A15 b.names.concepts.length d16, .slice A19 b.names.roles.length d20, .slice A23 b.names.inds.length d24, .slice A3 b.incls.length d4, .slice A6 b.roles.length d7, .slice A9 b.facts.length d10, .slice A12 b.links.length d13] rfl ld30 rfl rfl) ?_
      refine tl_grun 29 rfl rfl ?_
      refine tl (v_move rfl) ?_
      refine tl_grun 29 rfl rfl ?_
      refine tl_callv ca46 rfl (fun w hw => module_judge_local_ok (decide (kind = 1)) sa2 sr2 b x64 (.tail _ (.tail _ (.tail _ (.head _)))) (.tail _ (.tail _ (.tail _ (.tail _ (.head _))))) hh45 hr_b (by unfold i64; omega) (by first | assumption | omega) (by first | assumption | omega) hw) rfl ?_
      refine tl_grun 29 rfl rfl ?_
      refine tl (v_neg rfl) ?_
      refine tl (v_pick_t rfl rfl) ?_
      refine tl_nil ?_
      exact tx_cut hK72 (.refl _) (trivial) ⟨rfl, rfl, rfl, rfl, rfl, rfl, rfl, rfl, rfl, rfl, rfl, show some (Value.bool (!(localB b x64.toNat (Sig.mk sa2 sr2) (decide (kind = 1))))) = some (Value.bool (decide ((¬ (x64 ∈ o2)) ∧ ((!(localB b x64.toNat (Sig.mk sa2 sr2) (decide (kind = 1)))) = true)))) by first | (simp [h74]; done) | grind | (simp [h74] <;> omega), trivial⟩ (fun w hw => hw)
     ·
      refine tl_gskip 29 rfl rfl rfl ?_
      refine tl_gskip 29 rfl rfl rfl ?_
      refine tl_gskip 29 rfl rfl rfl ?_
      refine tl_gskip 29 rfl rfl rfl ?_
      refine tl_gskip 29 rfl rfl rfl ?_
      refine tl (v_pick_f rfl rfl) ?_
      refine tl_nil ?_
      exact tx_cut hK72 (.refl _) (trivial) ⟨rfl, rfl, rfl, rfl, rfl, rfl, rfl, rfl, rfl, rfl, rfl, show some (Value.bool false) = some (Value.bool (decide ((¬ (x64 ∈ o2)) ∧ ((!(localB b x64.toNat (Sig.mk sa2 sr2) (decide (kind = 1)))) = true)))) by first | (simp [h74]; done) | grind | (simp [h74] <;> omega), trivial⟩ (fun w hw => hw)
    ·
     refine fun R76 hle77 hj75 => tc_weaken hle77 ?_
     refine tc_split 35 rfl (fun h78 => ?_) (fun h78 => ?_)
     ·
      refine tc_yes rfl ?_
      refine tc_seq <| tc_region ?_
      refine tl (v_ld 0 rfl ld98 rfl rfl) ?_
      refine tl (v_move rfl) ?_
      refine tl_mapset (K := keyI) (ks := o2) (k := x64) 1 mi98 rfl rfl rfl ?_
      refine tl (v_assign rfl) ?_
      refine tl_nil <| tx_then ?_
      refine tc_draw R59 (.blk b50 [.map (some b49)] 98 :: .blk b48 [.iface (outT (decide (kind = 1))) (.agg #[]), .map (some b42), .map (some b43), .pointer (some ⟨b44, 0, none⟩)] 101 :: .blk b41 [.slice A31 s.concepts.length d32, .slice A35 s.roles.length d36] 33 :: .blk b40 [.slice A15 b.names.concepts.length d16, .slice A19 b.names.roles.length d20, .slice A23 b.names.inds.length d24, .slice A3 b.incls.length d4, .slice A6 b.roles.length d7, .slice A9 b.facts.length d10, .slice A12 b.links.length d13] 30 :: G) 6 mixed ?_
      refine td 0 rfl (by kernel_rfl) (v_ld_agg 1 [.iface (outT (decide (kind = 1))) (.agg #[]), .map (some b42), .map (some b43), .pointer (some ⟨b44, 0, none⟩)] rfl ld101 rfl rfl) (fun w hw => (((((((hw.pick 1).tail.pick 2).tail.pick 2).tail.pick 3).pick 3).pick 3).pick 3)) ?_
      refine td 1 rfl (by kernel_rfl) (v_ld_agg 3 [.slice A15 b.names.concepts.length d16, .slice A19 b.names.roles.length d20, .slice A23 b.names.inds.length d24, .slice A3 b.incls.length d4, .slice A6 b.roles.length d7, .slice A9 b.facts.length d10, .slice A12 b.links.length d13] rfl ld30 rfl rfl) (fun w hw => (((((((hw.pick 1).tail.pick 2).tail.pick 2).tail.pick 3).pick 3).pick 3).pick 3)) ?_
      refine td 2 rfl (by kernel_rfl) (v_move rfl) (fun w hw => (((((((hw.pick 1).tail.pick 2).tail.pick 2).tail.pick 3).pick 3).pick 3).pick 3)) ?_
      refine td1 3 (by kernel_rfl) rfl ?_
      refine tl_bslice [.int .i64 x64] ap31 rfl rfl rfl rfl rfl rfl rfl fun b79 => ?_
      refine tl_nil ?_
      refine tx_td (fun w hw => (((((((hw.tail.pick 1).tail.pick 2).tail.pick 2).tail.pick 3).pick 3).pick 3).pick 3)) ?_
      refine td1 4 (by kernel_rfl) rfl ?_
      refine tl_retire (k := kInt) (l := ([x64] : List (Int))) 0 rfl (⟨_, _, rfl, ⟨rfl, by unfold i64; omega⟩, rfl⟩) (by show 1 ≤ big; unfold big; omega) fun R81 hle82 hs80 => ?_
      try replace hr_b := kBase.mono _ _ _ _ hle82 hr_b
      try replace hs_l := hs_l.mono hle82
      try replace hG := hG.mono hle82
      try replace hh45 := hh45.mono hle82
      have hle83 := hle61.trans hle82
      have hle84 := hle62.trans hle82
      have hle85 := hle60.trans hle82
      have z86 := hs80.size
      unfold big at z86
      refine tl_callo ca53 rfl (fun w hw => module_names_ok b ([x64] : List (Int)) hr_b hs80 (by first | assumption | exact ⟨by simp, by simp; omega⟩) (by first | assumption | exact ⟨by simp, by simp; omega⟩) (by first | assumption | exact ⟨by simp, by simp; omega⟩) hw) rfl ?_
      rintro _ R88 _ hle89 ⟨cs_z87_0, rfl, rfl, hr_z87_0⟩
      try replace hs_l := hs_l.mono hle89
      try replace hG := hG.mono hle89
      try replace hh45 := hh45.mono hle89
      have hle90 := hle83.trans hle89
      have hle91 := hle84.trans hle89
      have hle92 := hle85.trans hle89
      have hle93 := hle82.trans hle89
      obtain ⟨A94, d95, A98, d99, rfl, hs96, hs100⟩ := id hr_z87_0
      have z97 := hs96.size
      unfold big at z97
      have z101 := hs100.size
      unfold big at z101
      refine tl_nil ?_
      refine tx_td (fun w hw => ((((((((hw.pick 1).tail.pick 2).tail.pick 2).tail.pick 3).pick 3).pick 3).pick 3)).weaken hle93) ?_
      refine td1 5 (by kernel_rfl) rfl ?_
      refine tl_G (.set keyI b42 sa2 :: .set keyI b43 sr2 :: .blk b50 [.map (some b49)] 98 :: .set keyI b49 (insK o2 x64) :: .blk b48 [.iface (outT (decide (kind = 1))) (.agg #[]), .map (some b42), .map (some b43), .pointer (some ⟨b44, 0, none⟩)] 101 :: .blk b41 [.slice A31 s.concepts.length d32, .slice A35 s.roles.length d36] 33 :: .blk b40 [.slice A15 b.names.concepts.length d16, .slice A19 b.names.roles.length d20, .slice A23 b.names.inds.length d24, .slice A3 b.incls.length d4, .slice A6 b.roles.length d7, .slice A9 b.facts.length d10, .slice A12 b.links.length d13] 30 :: G) (fun w hw => ((hw.pick 4).pick 4)) ?_
      refine tl_callo ca67 rfl (fun w hw => module_judge_know_ok (decide (kind = 1)) sa2 sr2 (namesP b ([x64] : List (Int))) hr_z87_0 hw) rfl ?_
      rintro _ R103 _ hle104 ⟨rfl, rfl⟩
      try replace hs_l := hs_l.mono hle104
      try replace hG := hG.mono hle104
      try replace hh45 := hh45.mono hle104
      have hle105 := hle90.trans hle104
      have hle106 := hle91.trans hle104
      have hle107 := hle92.trans hle104
      have hle108 := hle93.trans hle104
      have hle109 := hle89.trans hle104
      refine tl_nil ?_
      refine tx_td (fun w hw => ((((((hw.tail.tail.pick 1).tail.pick 3).pick 3).pick 3).pick 3)).weaken hle108) ?_
      refine td_done (by kernel_rfl) ?_
      refine tx_blk <| tx_then <| tc_region ?_
      refine tl (v_add rfl rfl (by omega) (by omega)) ?_
      refine tl (v_move rfl) ?_
      refine tl_nil ?_
      refine tx_round ?_
      exact fun a w ha hw => ih58.out (i + 1, true, (insAll sa2 (namesP b ([x64] : List (Int))).concepts), (insAll sr2 (namesP b ([x64] : List (Int))).roles), (insK o2 x64)) _ (hle108) (by (have hm_ := List.mem_of_getElem? hx65; have hn_ : ¬ x64 ∈ o2 := (h78).1; have hloc_ : ¬ localB b (x64).toNat (Sig.mk sa2 sr2) (decide (kind = 1)) = true := (by (have f2_ : (!localB b (x64).toNat (Sig.mk sa2 sr2) (decide (kind = 1))) = true := (h78).2); intro k_; rw [k_] at f2_; cases f2_); exact ⟨by omega, hj2.step hB (hl.2 _ hm_) hm_ hn_ hloc_, fun h => by simp at h, fun _ => by (have e_ : insK o2 x64 = o2 ++ [x64] := (by unfold insK; rw [if_neg hn_])); rw [e_]; simp; omega, by (have e_ : insK o2 x64 = o2 ++ [x64] := (by unfold insK; rw [if_neg hn_])); rw [e_]; simp; omega⟩)) (by (try dsimp only); omega) a w (ha.sub (lkAll_lk ⟨rfl, rfl, rfl, rfl, rfl, rfl, rfl, rfl, rfl, trivial⟩)) ((((((((hw.pick 6).pick 6).pick 3).pick 3).pick 6).pick 6).pick 6))
     ·
      refine tc_no rfl ?_
      refine tc_skip <| tx_blk <| tx_then <| tc_region ?_
      refine tl (v_add rfl rfl (by omega) (by omega)) ?_
      refine tl (v_move rfl) ?_
      refine tl_nil ?_
      refine tx_round ?_
      exact fun a w ha hw => ih58.out (i + 1, m2, sa2, sr2, o2) _ (.refl _) (by (refine ⟨by omega, hj2, fun h => ⟨(hj3 h).1, all_take (hj3 h).2 hx65 fun hn => ?_⟩, hj4, hj5⟩; have hq_ := (hj3 h).1; cases hl_ : localB b (x64).toNat (Sig.mk sa2 sr2) (decide (kind = 1)); exact absurd ⟨by rw [hq_]; exact hn, (show (!localB b (x64).toNat (Sig.mk sa2 sr2) (decide (kind = 1))) = true by rw [hl_]; rfl)⟩ h78; (rw [← hq_]; exact hj2.loc hl_))) (by (try dsimp only); omega) a w (ha.sub (lkAll_lk ⟨rfl, rfl, rfl, rfl, rfl, rfl, rfl, rfl, rfl, trivial⟩)) (hw)
   ·
    refine tc_no rfl ?_
    refine tc_exit <| tx_then_exit <| tx_then_exit <| tx_blk_exit <| tx_blk ?_
    refine tx_round ?_
    exact fun a w ha hw => ih52.out (m2, sa2, sr2, o2) _ (hle60) (by exact ⟨hj2, fun h y hy hn => by (have hq_ := hj3 h; rw [take_all (l := l) (by assumption) (by assumption)] at hq_; rw [hq_.1] at hn ⊢; exact hq_.2 y hy hn)⟩) (by (dsimp only; cases m2; (have := (hj3 rfl).1; subst this; simp_all); (have := hj4 rfl; simp only [if_true]; split <;> omega))) a w (ha.sub (lkAll_lk ⟨rfl, rfl, rfl, rfl, rfl, rfl, trivial⟩)) (hw)
  ·
   refine tc_no rfl ?_
   refine tc_exit <| tx_then_exit <| tx_then_exit <| tx_blk_exit <| tx_then <| tc_seq <| tc_region ?_
   refine tl (v_move rfl) ?_
   refine tl_callo ca69 rfl (fun w hw => slices_Clone_int_int_ok l hs_l (by first | assumption | omega) hw) rfl ?_
   rintro _ R111 _ hle112 ⟨A_z110_0, c_z110_0, l_z110_0, rfl, rfl, hv_z110_0⟩
   try replace hG := hG.mono hle112
   try replace hh45 := hh45.mono hle112
   have hle113 := hle55.trans hle112
   have hle114 := hle54.trans hle112
   refine tl (v_mkF rfl) ?_
   refine tl_callo ca68 rfl (fun w hw => slices_DeleteFunc_int_int_ok l o hv_z110_0 (.head _) (.tail _ (.head _)) (by first | assumption | omega) hw) rfl ?_
   rintro _ R116 _ hle117 ⟨A_z115_0, c_z115_0, l_z115_0, rfl, rfl, hv_z115_0⟩
   try replace hG := hG.mono hle117
   try replace hh45 := hh45.mono hle117
   have hle118 := hle113.trans hle117
   have hle119 := hle114.trans hle117
   have hle120 := hle112.trans hle117
   refine tl (v_assign rfl) ?_
   refine tl_nil <| tx_then <| tc_ret ?_
   refine tx_ret1 (.inl rfl) rfl rfl ?_
   have e121 : ((l.filter fun k => decide (k ∈ o)) : List (Int)) = modL b l s (decide (kind = 1)) := by exact ho1.done (ho2 (by grind))
   intro w hw
   exact ⟨_, _, [.vec (.slice A_z115_0 ((l.filter fun k => decide (k ∈ o)).length) c_z115_0) ((l.filter fun k => decide (k ∈ o)).length) 3 1 l_z115_0], rfl, hle118, (((((((hw.pick 1).tail.pick 1).tail.pick 1).tail.pick 1).tail.pick 1).tail.pick 1).tail.pick 1).tail, A_z115_0, c_z115_0, l_z115_0, (congrArg (fun (z0_ : List (Int)) => (.slice A_z115_0 z0_.length c_z115_0 : Value)) e121), (congrArg (fun (z0_ : List (Int)) => ([.vec (.slice A_z115_0 z0_.length c_z115_0) z0_.length 3 1 l_z115_0] : List Res)) e121), (Eq.mp (congrArg (fun z => (kInt).reps R116 z l_z115_0) e121) hv_z115_0)⟩

end Go.Proofs.YtcbcdlajnmkioaaGreatDoor
