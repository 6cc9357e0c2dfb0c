/- A part of the proof of the statement ModuleGrows of isagogelaw19: functions walked, and plain laws on what they answer. -/
import Derived.Test.YtcbcdlajnmkioaaGreatDoorZ8
namespace Go.Proofs.YtcbcdlajnmkioaaGreatDoor
open Go Go.Proofs
set_option linter.unusedSimpArgs false
set_option linter.unusedVariables false
theorem ap74 : apInfo Tryz.prog 74 = some (33, 2, 48, [.slice none 0 0, .slice none 0 0]) := by kernel_rfl
theorem ca10 : Callable Tryz.prog 10 := ⟨by kernel_rfl⟩
theorem ca11 : Callable Tryz.prog 11 := ⟨by kernel_rfl⟩
theorem ca15 : Callable Tryz.prog 15 := ⟨by kernel_rfl⟩
theorem ca7 : Callable Tryz.prog 7 := ⟨by kernel_rfl⟩
theorem ca8 : Callable Tryz.prog 8 := ⟨by kernel_rfl⟩

theorem modP_mono {b : Base} {l : List Int} {s t : Sig} (h : s.le t) {top : Bool} {i : Int} (hi : modP b l s top i) : modP b l t top i :=
  fun X hX => hi X fun j hj hn => localB_le (namesA_le (fun _ h => h) h) b j.toNat top (hX j hj hn)
theorem modL_mono {b : Base} {l : List Int} {s t : Sig} (h : s.le t) {top : Bool} : ∀ x ∈ modL b l s top, x ∈ modL b l t top := by
  classical
  intro x hx
  unfold modL at *
  rw [List.mem_filter] at *
  exact ⟨hx.1, by simpa using modP_mono h (by simpa using hx.2)⟩
theorem sigB_iff {n : Names} {s : Sig} : sigB n s = true ↔ (Up s.concepts ∧ ∀ x ∈ s.concepts, 0 ≤ x ∧ x < n.concepts.length) ∧ (Up s.roles ∧ ∀ x ∈ s.roles, 0 ≤ x ∧ x < n.roles.length) := by
  unfold sigB risingB
  rw [Bool.and_eq_true, decide_eq_true_eq, decide_eq_true_eq]
theorem sig_small {b : Base} {s : Sig} (h : baseB b = true) (hs : sigB b.names s = true) : s.concepts.length ≤ 1000 ∧ s.roles.length ≤ 1000 := by
  have hn := (baseB_ok h).namesLen
  obtain ⟨⟨h1, h2⟩, h3, h4⟩ := sigB_iff.1 hs
  have := in_range_len (up_nodup h1) h2
  have := in_range_len (up_nodup h3) h4
  omega
theorem grows {b : Base} {s t : Sig} {kind : Int} (hb : baseB b = true) (hs : sigB b.names s = true) (ht : sigB b.names t = true) (hk : kind = 0 ∨ kind = 1) (hle : s.le t) :
    (moduleP b s kind).2 = 0 ∧ (moduleP b t kind).2 = 0 ∧ subB (moduleP b s kind).1 (moduleP b t kind).1 = true := by
  rw [moduleP_ok hb ⟨hs, by omega, by omega⟩, moduleP_ok hb ⟨ht, by omega, by omega⟩]
  refine ⟨rfl, rfl, ?_⟩
  unfold subB moduleL
  rw [decide_eq_true_eq, if_pos (by omega), if_pos (by omega)]
  exact modL_mono hle
structure Grow (n : Nat) (s u : List Int) : Prop where
  up : Up u
  rng : ∀ x ∈ u, 0 ≤ x ∧ x < n
  sub : ∀ x ∈ s, x ∈ u
theorem Grow.init {n : Nat} {s : List Int} (h : Up s ∧ ∀ x ∈ s, 0 ≤ x ∧ x < n) : Grow n s s := ⟨h.1, h.2, fun _ h => h⟩
theorem Grow.step {n : Nat} {s u : List Int} {x : Int} (h : Grow n s u) (hx : 0 ≤ x ∧ x < n) : Grow n s (insI u x) :=
  ⟨insI_up h.up, fun y hy => by rcases insI_mem.1 hy with hy | rfl; exact h.rng y hy; exact hx, fun y hy => insI_mem.2 (.inl (h.sub y hy))⟩
theorem Grow.len {n : Nat} {s u : List Int} (h : Grow n s u) : u.length ≤ n := in_range_len (up_nodup h.up) h.rng
theorem Grow.sig {n : Names} {s : Sig} {u v : List Int} (h1 : Grow n.concepts.length s.concepts u) (h2 : Grow n.roles.length s.roles v) : sigB n (Sig.mk u v) = true ∧ s.le (Sig.mk u v) :=
  ⟨sigB_iff.2 ⟨⟨h1.up, h1.rng⟩, h2.up, h2.rng⟩, h1.sub, h2.sub⟩
theorem sig_at {n : Names} {s : Sig} {i : Nat} {x : Int} (h : sigB n s = true) : (s.concepts[i]? = some x → 0 ≤ x ∧ x < n.concepts.length) ∧ (s.roles[i]? = some x → 0 ≤ x ∧ x < n.roles.length) :=
  ⟨fun h1 => (sigB_iff.1 h).1.2 x (List.mem_of_getElem? h1), fun h1 => (sigB_iff.1 h).2.2 x (List.mem_of_getElem? h1)⟩

set_option maxRecDepth 20000 in
set_option maxHeartbeats 8000000 in
theorem isagogelaw19_ModuleGrows_ok {R : RO} {G : List Res} {w : World} {c_b : List Value} (b : Base) {c_s : List Value} (s : Sig) {c_t : List Value} (t : Sig) (kind : Int) (hr_b : kBase.rep R b c_b) (hr_s : kSig.rep R s c_s) (hr_t : kSig.rep R t c_t) (hi_kind : i64 kind) (hG : Glob R) (hw : Own w R (G)) :
    Calls Tryz.prog 4 [.agg c_b.toArray, .agg c_s.toArray, .agg c_t.toArray, .int .i64 kind].toArray w (Gives R G (.bool true)) := by
  obtain ⟨c1, A3, d4, A6, d7, A9, d10, A12, d13, rfl, hr2, hs5, hs8, hs11, hs14⟩ := id hr_b
  have z27 := hs5.size
  unfold big at z27
  have z28 := hs8.size
  unfold big at z28
  have z29 := hs11.size
  unfold big at z29
  have z30 := hs14.size
  unfold big at z30
  obtain ⟨A15, d16, A19, d20, A23, d24, rfl, hs17, hs21, hs25⟩ := id hr2
  have z18 := hs17.size
  unfold big at z18
  have z22 := hs21.size
  unfold big at z22
  have z26 := hs25.size
  unfold big at z26
  obtain ⟨A31, d32, A35, d36, rfl, hs33, hs37⟩ := id hr_s
  have z34 := hs33.size
  unfold big at z34
  have z38 := hs37.size
  unfold big at z38
  obtain ⟨A39, d40, A43, d44, rfl, hs41, hs45⟩ := id hr_t
  have z42 := hs41.size
  unfold big at z42
  have z46 := hs45.size
  unfold big at z46
  unfold i64 at hi_kind
  refine fn_enter (vs := [.agg #[.slice A15 b.names.concepts.length d16, .slice A19 b.names.roles.length d20, .slice A23 b.names.inds.length d24, .slice A3 b.incls.length d4, .slice A6 b.roles.length d7, .slice A9 b.facts.length d10, .slice A12 b.links.length d13], .agg #[.slice A31 s.concepts.length d32, .slice A35 s.roles.length d36], .agg #[.slice A39 t.concepts.length d40, .slice A43 t.roles.length d44], .int .i64 kind]) Tryz.func4 rfl rfl rfl ?_ hw
  refine tc_seq <| tc_region ?_
  refine tl_box_agg (l := [.slice A15 b.names.concepts.length d16, .slice A19 b.names.roles.length d20, .slice A23 b.names.inds.length d24, .slice A3 b.incls.length d4, .slice A6 b.roles.length d7, .slice A9 b.facts.length d10, .slice A12 b.links.length d13]) rfl rfl fun b47 => ?_
  refine tl_box_agg (l := [.slice A31 s.concepts.length d32, .slice A35 s.roles.length d36]) rfl rfl fun b48 => ?_
  refine tl_box_agg (l := [.slice A39 t.concepts.length d40, .slice A43 t.roles.length d44]) rfl rfl fun b49 => ?_
  refine tl (v_assign rfl) ?_
  refine tl_nil <| tx_then <| tc_seq ?_
  refine tc_cut [(3, .int .i64 kind), (4, .pointer (some ⟨b47, 0, none⟩)), (5, .pointer (some ⟨b48, 0, none⟩)), (6, .pointer (some ⟨b49, 0, none⟩)), (8, .bool false), (51, .bool (decide (¬ (lookedB b (Concept.mk 0 0 []) [s, t] = true ∧ baseB b = true ∧ sigB b.names s = true ∧ sigB b.names t = true ∧ (kind = 0 ∨ kind = 1)))))] (.blk b49 [.slice A39 t.concepts.length d40, .slice A43 t.roles.length d44] 33 :: .blk b48 [.slice A31 s.concepts.length d32, .slice A35 s.roles.length d36] 33 :: .blk b47 [.slice A15 b.names.concepts.length d16, .slice A19 b.names.roles.length d20, .slice A23 b.names.inds.length d24, .slice A3 b.incls.length d4, .slice A6 b.roles.length d7, .slice A9 b.facts.length d10, .slice A12 b.links.length d13] 30 :: G) (fun _ => True) (fun K hK50 hE51 => ?_) ?_
  ·
   refine tc_region ?_
   refine tl (v_ld_agg 2 [.slice A15 b.names.concepts.length d16, .slice A19 b.names.roles.length d20, .slice A23 b.names.inds.length d24, .slice A3 b.incls.length d4, .slice A6 b.roles.length d7, .slice A9 b.facts.length d10, .slice A12 b.links.length d13] rfl ld30 rfl rfl) ?_
   refine tl (v_build [.int .i64 0, .int .i64 0, .slice none 0 0] zc37 pl37 rfl rfl) ?_
   refine tl (v_ld_agg 1 [.slice A31 s.concepts.length d32, .slice A35 s.roles.length d36] rfl ld33 rfl rfl) ?_
   refine tl (v_ld_agg 0 [.slice A39 t.concepts.length d40, .slice A43 t.roles.length d44] rfl ld33 rfl rfl) ?_
   refine tl_bslice [.slice A31 s.concepts.length d32, .slice A35 s.roles.length d36, .slice A39 t.concepts.length d40, .slice A43 t.roles.length d44] ap74 rfl rfl rfl rfl rfl rfl rfl fun b52 => ?_
   refine tl_retire (k := kSig) (l := ([s, t] : List (Sig))) 0 rfl (⟨_, _, rfl, hr_s, ⟨_, _, rfl, hr_t, rfl⟩⟩) (by show 2 ≤ big; unfold big; omega) fun R54 hle55 hs53 => ?_
   try replace hr2 := kNames.mono _ _ _ _ hle55 hr2
   try replace hr_b := kBase.mono _ _ _ _ hle55 hr_b
   try replace hs33 := hs33.mono hle55
   try replace hs37 := hs37.mono hle55
   try replace hr_s := kSig.mono _ _ _ _ hle55 hr_s
   try replace hs41 := hs41.mono hle55
   try replace hs45 := hs45.mono hle55
   try replace hr_t := kSig.mono _ _ _ _ hle55 hr_t
   try replace hG := hG.mono hle55
   have z56 := hs53.size
   unfold big at z56
   refine tl_callv ca7 rfl (fun w hw => isagogelaw19_looked_ok b (Concept.mk 0 0 ([] : List (Concept))) ([s, t] : List (Sig)) hr_b (kConcept_mk (x := Concept.mk 0 0 ([] : List (Concept))) (show i64 (0) from (by unfold i64; omega)) (show i64 (0) from (by unfold i64; omega)) (SlAt.nil _ _ _)) hs53 hw) rfl ?_
   refine tl (v_neg rfl) ?_
   refine tl (v_move rfl) ?_
   refine tl_splitb 25 rfl (fun h57 => ?_) (fun h57 => ?_)
   ·
    refine tl_gskip 25 rfl rfl rfl ?_
    refine tl_gskip 25 rfl rfl rfl ?_
    refine tl_gskip 25 rfl rfl rfl ?_
    refine tl (v_pick_t rfl rfl) ?_
    refine tl (v_move rfl) ?_
    refine tl_gskip 30 rfl rfl rfl ?_
    refine tl_gskip 30 rfl rfl rfl ?_
    refine tl_gskip 30 rfl rfl rfl ?_
    refine tl_gskip 30 rfl rfl rfl ?_
    refine tl_gskip 30 rfl rfl rfl ?_
    refine tl (v_pick_t rfl rfl) ?_
    refine tl (v_move rfl) ?_
    refine tl_gskip 37 rfl rfl rfl ?_
    refine tl_gskip 37 rfl rfl rfl ?_
    refine tl_gskip 37 rfl rfl rfl ?_
    refine tl_gskip 37 rfl rfl rfl ?_
    refine tl_gskip 37 rfl rfl rfl ?_
    refine tl (v_pick_t rfl rfl) ?_
    refine tl (v_move rfl) ?_
    refine tl_gskip 44 rfl rfl rfl ?_
    refine tl_gskip 44 rfl rfl rfl ?_
    refine tl_gskip 44 rfl rfl rfl ?_
    refine tl_gskipu 47 rfl rfl rfl ?_
    refine tl_gskipu 47 rfl rfl rfl ?_
    refine tl_gskip 44 rfl rfl rfl ?_
    refine tl (v_pick_t rfl rfl) ?_
    refine tl_nil ?_
    exact tx_cut hK50 (hle55) (trivial) ⟨rfl, rfl, rfl, rfl, rfl, by (refine congrArg (fun z => some (Value.bool z)) ?_; rw [Bool.eq_iff_iff, decide_eq_true_eq]; grind), trivial⟩ (fun w hw => hw)
   ·
    refine tl_grun 25 rfl rfl ?_
    refine tl (v_ld_agg 2 [.slice A15 b.names.concepts.length d16, .slice A19 b.names.roles.length d20, .slice A23 b.names.inds.length d24, .slice A3 b.incls.length d4, .slice A6 b.roles.length d7, .slice A9 b.facts.length d10, .slice A12 b.links.length d13] rfl ld30 rfl rfl) ?_
    refine tl_grun 25 rfl rfl ?_
    refine tl_callv ca10 rfl (fun w hw => isagogeref02_Is_ok b hr_b hw) rfl ?_
    refine tl_grun 25 rfl rfl ?_
    refine tl (v_neg rfl) ?_
    refine tl (v_pick_f rfl rfl) ?_
    refine tl (v_move rfl) ?_
    refine tl_splitb 30 rfl (fun h58 => ?_) (fun h58 => ?_)
    ·
     refine tl_gskip 30 rfl rfl rfl ?_
     refine tl_gskip 30 rfl rfl rfl ?_
     refine tl_gskip 30 rfl rfl rfl ?_
     refine tl_gskip 30 rfl rfl rfl ?_
     refine tl_gskip 30 rfl rfl rfl ?_
     refine tl (v_pick_t rfl rfl) ?_
     refine tl (v_move rfl) ?_
     refine tl_gskip 37 rfl rfl rfl ?_
     refine tl_gskip 37 rfl rfl rfl ?_
     refine tl_gskip 37 rfl rfl rfl ?_
     refine tl_gskip 37 rfl rfl rfl ?_
     refine tl_gskip 37 rfl rfl rfl ?_
     refine tl (v_pick_t rfl rfl) ?_
     refine tl (v_move rfl) ?_
     refine tl_gskip 44 rfl rfl rfl ?_
     refine tl_gskip 44 rfl rfl rfl ?_
     refine tl_gskip 44 rfl rfl rfl ?_
     refine tl_gskipu 47 rfl rfl rfl ?_
     refine tl_gskipu 47 rfl rfl rfl ?_
     refine tl_gskip 44 rfl rfl rfl ?_
     refine tl (v_pick_t rfl rfl) ?_
     refine tl_nil ?_
     exact tx_cut hK50 (hle55) (trivial) ⟨rfl, rfl, rfl, rfl, rfl, by (refine congrArg (fun z => some (Value.bool z)) ?_; rw [Bool.eq_iff_iff, decide_eq_true_eq]; grind), trivial⟩ (fun w hw => hw)
    ·
     refine tl_grun 30 rfl rfl ?_
     refine tl (v_fieldAddr 0 rfl fo30_0 rfl) ?_
     refine tl_grun 30 rfl rfl ?_
     refine tl (v_ld_agg 2 [.slice A15 b.names.concepts.length d16, .slice A19 b.names.roles.length d20, .slice A23 b.names.inds.length d24] rfl ld24 rfl rfl) ?_
     refine tl_grun 30 rfl rfl ?_
     refine tl (v_ld_agg 1 [.slice A31 s.concepts.length d32, .slice A35 s.roles.length d36] rfl ld33 rfl rfl) ?_
     refine tl_grun 30 rfl rfl ?_
     refine tl_callv ca11 rfl (fun w hw => isagogeref19_Sig_ok b.names s hr2 hr_s hw) rfl ?_
     refine tl_grun 30 rfl rfl ?_
     refine tl (v_neg rfl) ?_
     refine tl (v_pick_f rfl rfl) ?_
     refine tl (v_move rfl) ?_
     refine tl_splitb 37 rfl (fun h59 => ?_) (fun h59 => ?_)
     ·
      refine tl_gskip 37 rfl rfl rfl ?_
      refine tl_gskip 37 rfl rfl rfl ?_
      refine tl_gskip 37 rfl rfl rfl ?_
      refine tl_gskip 37 rfl rfl rfl ?_
      refine tl_gskip 37 rfl rfl rfl ?_
      refine tl (v_pick_t rfl rfl) ?_
      refine tl (v_move rfl) ?_
      refine tl_gskip 44 rfl rfl rfl ?_
      refine tl_gskip 44 rfl rfl rfl ?_
      refine tl_gskip 44 rfl rfl rfl ?_
      refine tl_gskipu 47 rfl rfl rfl ?_
      refine tl_gskipu 47 rfl rfl rfl ?_
      refine tl_gskip 44 rfl rfl rfl ?_
      refine tl (v_pick_t rfl rfl) ?_
      refine tl_nil ?_
      exact tx_cut hK50 (hle55) (trivial) ⟨rfl, rfl, rfl, rfl, rfl, by (refine congrArg (fun z => some (Value.bool z)) ?_; rw [Bool.eq_iff_iff, decide_eq_true_eq]; grind), trivial⟩ (fun w hw => hw)
     ·
      refine tl_grun 37 rfl rfl ?_
      refine tl (v_fieldAddr 0 rfl fo30_0 rfl) ?_
      refine tl_grun 37 rfl rfl ?_
      refine tl (v_ld_agg 2 [.slice A15 b.names.concepts.length d16, .slice A19 b.names.roles.length d20, .slice A23 b.names.inds.length d24] rfl ld24 rfl rfl) ?_
      refine tl_grun 37 rfl rfl ?_
      refine tl (v_ld_agg 0 [.slice A39 t.concepts.length d40, .slice A43 t.roles.length d44] rfl ld33 rfl rfl) ?_
      refine tl_grun 37 rfl rfl ?_
      refine tl_callv ca11 rfl (fun w hw => isagogeref19_Sig_ok b.names t hr2 hr_t hw) rfl ?_
      refine tl_grun 37 rfl rfl ?_
      refine tl (v_neg rfl) ?_
      refine tl (v_pick_f rfl rfl) ?_
      refine tl (v_move rfl) ?_
      refine tl_splitb 44 rfl (fun h60 => ?_) (fun h60 => ?_)
      ·
       refine tl_gskip 44 rfl rfl rfl ?_
       refine tl_gskip 44 rfl rfl rfl ?_
       refine tl_gskip 44 rfl rfl rfl ?_
       refine tl_gskipu 47 rfl rfl rfl ?_
       refine tl_gskipu 47 rfl rfl rfl ?_
       refine tl_gskip 44 rfl rfl rfl ?_
       refine tl (v_pick_t rfl rfl) ?_
       refine tl_nil ?_
       exact tx_cut hK50 (hle55) (trivial) ⟨rfl, rfl, rfl, rfl, rfl, by (refine congrArg (fun z => some (Value.bool z)) ?_; rw [Bool.eq_iff_iff, decide_eq_true_eq]; grind), trivial⟩ (fun w hw => hw)
      ·
       refine tl_grun 44 rfl rfl ?_
       refine tl (v_move rfl) ?_
       refine tl_grun 44 rfl rfl ?_
       refine tl (v_ib rfl rfl rfl) ?_
       refine tl_grun 44 rfl rfl ?_
       refine tl (v_move rfl) ?_
       refine tl_split 47 rfl (fun h61 => ?_) (fun h61 => ?_)
       ·
        refine tl_grun 47 rfl rfl ?_
        refine tl (v_move rfl) ?_
        refine tl_grun 47 rfl rfl ?_
        refine tl (v_ib rfl rfl rfl) ?_
        refine tl_grun 44 rfl rfl ?_
        refine tl (v_pick_t rfl rfl) ?_
        refine tl (v_pick_f rfl rfl) ?_
        refine tl_nil ?_
        exact tx_cut hK50 (hle55) (trivial) ⟨rfl, rfl, rfl, rfl, rfl, by (refine congrArg (fun z => some (Value.bool z)) ?_; rw [Bool.eq_iff_iff, decide_eq_true_eq]; grind), trivial⟩ (fun w hw => hw)
       ·
        refine tl_gskip 47 rfl rfl rfl ?_
        refine tl_gskip 47 rfl rfl rfl ?_
        refine tl_grun 44 rfl rfl ?_
        refine tl (v_pick_f rfl rfl) ?_
        refine tl (v_pick_f rfl rfl) ?_
        refine tl_nil ?_
        exact tx_cut hK50 (hle55) (trivial) ⟨rfl, rfl, rfl, rfl, rfl, by (refine congrArg (fun z => some (Value.bool z)) ?_; rw [Bool.eq_iff_iff, decide_eq_true_eq]; grind), trivial⟩ (fun w hw => hw)
  ·
   refine fun R63 hle64 hj62 => ?_
   try replace hr_b := kBase.mono _ _ _ _ hle64 hr_b
   try replace hs33 := hs33.mono hle64
   try replace hs37 := hs37.mono hle64
   try replace hr_s := kSig.mono _ _ _ _ hle64 hr_s
   try replace hs41 := hs41.mono hle64
   try replace hs45 := hs45.mono hle64
   try replace hG := hG.mono hle64
   refine tc_split 51 rfl (fun h65 => ?_) (fun h65 => ?_)
   ·
    refine tc_yes rfl ?_
    refine tc_seq <| tc_region ?_
    refine tl_callv ca8 rfl (fun w hw => isagogelaw19_awake_ok (by first | assumption | omega) hw) rfl ?_
    refine tl (v_assign rfl) ?_
    refine tl_nil <| tx_then <| tc_ret <| tx_then_ret ?_
    refine tx_ret1 (.inl rfl) rfl rfl ?_
    have e66 : (true : Bool) = true := by rfl
    exact fun w hw => ⟨congrArg Ending.returned (congrArg (fun x0 => Value.bool x0) e66), (hw.drop 3).weaken hle64⟩
   ·
    refine tc_no rfl ?_
    refine tc_skip <| tx_then ?_
    refine tc_cutX (X := Nat × Option Addr × Nat × Option Addr × Nat × List Value × List Value) (fun (z_ : Nat × Option Addr × Nat × Option Addr × Nat × List Value × List Value) => match z_ with | (b89, A70, c71, A81, c82, l83, l72) => [(3, .int .i64 kind), (4, .pointer (some ⟨b47, 0, none⟩)), (5, .pointer (some ⟨b48, 0, none⟩)), (6, .pointer (some ⟨b49, 0, none⟩)), (8, .bool false), (9, .pointer (some ⟨b89, 0, none⟩))]) (fun (z_ : Nat × Option Addr × Nat × Option Addr × Nat × List Value × List Value) => match z_ with | (b89, A70, c71, A81, c82, l83, l72) => (.blk b89 [.slice A70 ((([] : List (Int)) ++ s.concepts).length) c71, .slice A81 ((([] : List (Int)) ++ s.roles).length) c82] 33 :: .vec (.slice A81 ((([] : List (Int)) ++ s.roles).length) c82) ((([] : List (Int)) ++ s.roles).length) 3 1 l83 :: .vec (.slice A70 ((([] : List (Int)) ++ s.concepts).length) c71) ((([] : List (Int)) ++ s.concepts).length) 3 1 l72 :: .blk b49 [.slice A39 t.concepts.length d40, .slice A43 t.roles.length d44] 33 :: .blk b48 [.slice A31 s.concepts.length d32, .slice A35 s.roles.length d36] 33 :: .blk b47 [.slice A15 b.names.concepts.length d16, .slice A19 b.names.roles.length d20, .slice A23 b.names.inds.length d24, .slice A3 b.incls.length d4, .slice A6 b.roles.length d7, .slice A9 b.facts.length d10, .slice A12 b.links.length d13] 30 :: G)) (fun (z_ : Nat × Option Addr × Nat × Option Addr × Nat × List Value × List Value) (R_ : RO) => match z_ with | (b89, A70, c71, A81, c82, l83, l72) => (kInt).reps R_ (([] : List (Int)) ++ s.roles) l83 ∧ (kInt).reps R_ (([] : List (Int)) ++ s.concepts) l72) (fun K hK90 hE91 => ?_) ?_
    ·
     refine tc_draw R63 (.blk b49 [.slice A39 t.concepts.length d40, .slice A43 t.roles.length d44] 33 :: .blk b48 [.slice A31 s.concepts.length d32, .slice A35 s.roles.length d36] 33 :: .blk b47 [.slice A15 b.names.concepts.length d16, .slice A19 b.names.roles.length d20, .slice A23 b.names.inds.length d24, .slice A3 b.incls.length d4, .slice A6 b.roles.length d7, .slice A9 b.facts.length d10, .slice A12 b.links.length d13] 30 :: G) 10 mixed ?_
     refine td 1 rfl (by kernel_rfl) (v_fieldAddr 0 rfl fo33_0 rfl) (fun w hw => hw) ?_
     refine td 2 rfl (by kernel_rfl) (v_ld 1 rfl ld31 rfl rfl) (fun w hw => hw) ?_
     refine td 5 rfl (by kernel_rfl) (v_fieldAddr 1 rfl fo33_1 rfl) (fun w hw => hw) ?_
     refine td 6 rfl (by kernel_rfl) (v_ld 1 rfl ld31 rfl rfl) (fun w hw => hw) ?_
     refine td_all [0, 4, 9] (by kernel_rfl) rfl ?_
     refine tds rfl ?_ ?_
     ·
      refine tl_bslice [] ap31 rfl rfl rfl rfl rfl rfl rfl fun b92 => ?_
      refine tl_nil ?_
      refine tx_td (fun w hw => hw.drop 1) ?_
      refine td_all [3, 4, 9] (by kernel_rfl) rfl ?_
      refine tds rfl ?_ ?_
      ·
       refine tl_blkvec 0 0 1 rfl rfl rfl ?_
       have hv93 : (kInt).reps R63 ([] : List (Int)) [] := rfl
       obtain ⟨ds99, rp100, src101⟩ := src_slAt ones_int hs33
       refine tl_appS' (k := kInt) (m := s.concepts) 0 hv93 (rp100) ap31 rfl rfl rfl (rfl) (src101 _) (by (have q_ := sig_small (b := b) (s := s) (by grind) (by grind); simp; omega)) rfl rfl fun A95 c96 l97 hv98 => ?_
       refine tl_nil ?_
       refine tx_td (fun w hw => hw.drop 1) ?_
       refine td_all [4, 9] (by kernel_rfl) rfl ?_
       refine tds rfl ?_ ?_
       ·
        refine tl_bslice [] ap31 rfl rfl rfl rfl rfl rfl rfl fun b103 => ?_
        refine tl_nil ?_
        refine tx_td (fun w hw => hw.drop 2) ?_
        refine td_all [7, 9] (by kernel_rfl) rfl ?_
        refine tds rfl ?_ ?_
        ·
         refine tl_blkvec 0 0 1 rfl rfl rfl ?_
         have hv104 : (kInt).reps R63 ([] : List (Int)) [] := rfl
         obtain ⟨ds110, rp111, src112⟩ := src_slAt ones_int hs37
         refine tl_appS' (k := kInt) (m := s.roles) 0 hv104 (rp111) ap31 rfl rfl rfl (rfl) (src112 _) (by (have q_ := sig_small (b := b) (s := s) (by grind) (by grind); simp; omega)) rfl rfl fun A106 c107 l108 hv109 => ?_
         refine tl_nil ?_
         refine tx_td (fun w hw => hw.drop 2) ?_
         refine td 8 rfl (by kernel_rfl) (v_build [.slice A95 ((([] : List (Int)) ++ s.concepts).length) c96, .slice A106 ((([] : List (Int)) ++ s.roles).length) c107] zc33 pl33 rfl rfl) (fun w hw => hw.drop 2) ?_
         refine td1 9 (by kernel_rfl) rfl ?_
         refine tl_alloc zc33 rfl fun b114 => ?_
         refine tl_nil ?_
         refine tx_td (fun w hw => hw.drop 3) ?_
         refine td1 10 (by kernel_rfl) rfl ?_
         refine tl_st 0 [.slice A95 ((([] : List (Int)) ++ s.concepts).length) c96, .slice A106 ((([] : List (Int)) ++ s.roles).length) c107] rfl rfl ld33 rfl rfl rfl rfl rfl rfl ?_
         refine tl_nil ?_
         refine tx_tdz ?_
         refine td_done (by kernel_rfl) ?_
         exact tx_cutX hK90 (b114, A95, c96, A106, c107, l108, l97) (.refl _) (⟨hv109, hv98⟩) ⟨rfl, rfl, rfl, rfl, rfl, rfl, trivial⟩ (fun w hw => hw)
        refine tds rfl ?_ ?_
        ·
         refine tl_alloc zc33 rfl fun b115 => ?_
         refine tl_nil ?_
         refine tx_td (fun w hw => hw.drop 3) ?_
         refine td1 7 (by kernel_rfl) rfl ?_
         refine tl_blkvec 1 0 1 rfl rfl rfl ?_
         have hv116 : (kInt).reps R63 ([] : List (Int)) [] := rfl
         obtain ⟨ds122, rp123, src124⟩ := src_slAt ones_int hs37
         refine tl_appS' (k := kInt) (m := s.roles) 0 hv116 (rp123) ap31 rfl rfl rfl (rfl) (src124 _) (by (have q_ := sig_small (b := b) (s := s) (by grind) (by grind); simp; omega)) rfl rfl fun A118 c119 l120 hv121 => ?_
         refine tl_nil ?_
         refine tx_td (fun w hw => hw.drop 3) ?_
         refine td 8 rfl (by kernel_rfl) (v_build [.slice A95 ((([] : List (Int)) ++ s.concepts).length) c96, .slice A118 ((([] : List (Int)) ++ s.roles).length) c119] zc33 pl33 rfl rfl) (fun w hw => hw.drop 3) ?_
         refine td1 10 (by kernel_rfl) rfl ?_
         refine tl_st 1 [.slice A95 ((([] : List (Int)) ++ s.concepts).length) c96, .slice A118 ((([] : List (Int)) ++ s.roles).length) c119] rfl rfl ld33 rfl rfl rfl rfl rfl rfl ?_
         refine tl_nil ?_
         refine tx_tdz ?_
         refine td_done (by kernel_rfl) ?_
         exact tx_cutX hK90 (b115, A95, c96, A118, c119, l120, l97) (.refl _) (⟨hv121, hv98⟩) ⟨rfl, rfl, rfl, rfl, rfl, rfl, trivial⟩ (fun w hw => ((((((hw.pick 5).pick 5).pick 5).pick 5).pick 4).pick 5))
        exact tds_nil
       refine tds rfl ?_ ?_
       ·
        refine tl_alloc zc33 rfl fun b126 => ?_
        refine tl_nil ?_
        refine tx_td (fun w hw => hw.drop 2) ?_
        refine td1 4 (by kernel_rfl) rfl ?_
        refine tl_bslice [] ap31 rfl rfl rfl rfl rfl rfl rfl fun b127 => ?_
        refine tl_nil ?_
        refine tx_td (fun w hw => hw.drop 3) ?_
        refine td1 7 (by kernel_rfl) rfl ?_
        refine tl_blkvec 0 0 1 rfl rfl rfl ?_
        have hv128 : (kInt).reps R63 ([] : List (Int)) [] := rfl
        obtain ⟨ds134, rp135, src136⟩ := src_slAt ones_int hs37
        refine tl_appS' (k := kInt) (m := s.roles) 0 hv128 (rp135) ap31 rfl rfl rfl (rfl) (src136 _) (by (have q_ := sig_small (b := b) (s := s) (by grind) (by grind); simp; omega)) rfl rfl fun A130 c131 l132 hv133 => ?_
        refine tl_nil ?_
        refine tx_td (fun w hw => hw.drop 3) ?_
        refine td 8 rfl (by kernel_rfl) (v_build [.slice A95 ((([] : List (Int)) ++ s.concepts).length) c96, .slice A130 ((([] : List (Int)) ++ s.roles).length) c131] zc33 pl33 rfl rfl) (fun w hw => hw.drop 3) ?_
        refine td1 10 (by kernel_rfl) rfl ?_
        refine tl_st 1 [.slice A95 ((([] : List (Int)) ++ s.concepts).length) c96, .slice A130 ((([] : List (Int)) ++ s.roles).length) c131] rfl rfl ld33 rfl rfl rfl rfl rfl rfl ?_
        refine tl_nil ?_
        refine tx_tdz ?_
        refine td_done (by kernel_rfl) ?_
        exact tx_cutX hK90 (b126, A95, c96, A130, c131, l132, l97) (.refl _) (⟨hv133, hv98⟩) ⟨rfl, rfl, rfl, rfl, rfl, rfl, trivial⟩ (fun w hw => ((((((hw.pick 5).pick 5).pick 5).pick 5).pick 4).pick 5))
       exact tds_nil
      refine tds rfl ?_ ?_
      ·
       refine tl_bslice [] ap31 rfl rfl rfl rfl rfl rfl rfl fun b138 => ?_
       refine tl_nil ?_
       refine tx_td (fun w hw => hw.drop 2) ?_
       refine td_all [3, 9] (by kernel_rfl) rfl ?_
       refine tds rfl ?_ ?_
       ·
        refine tl_blkvec 1 0 1 rfl rfl rfl ?_
        have hv139 : (kInt).reps R63 ([] : List (Int)) [] := rfl
        obtain ⟨ds145, rp146, src147⟩ := src_slAt ones_int hs33
        refine tl_appS' (k := kInt) (m := s.concepts) 0 hv139 (rp146) ap31 rfl rfl rfl (rfl) (src147 _) (by (have q_ := sig_small (b := b) (s := s) (by grind) (by grind); simp; omega)) rfl rfl fun A141 c142 l143 hv144 => ?_
        refine tl_nil ?_
        refine tx_td (fun w hw => hw.drop 2) ?_
        refine td_all [7, 9] (by kernel_rfl) rfl ?_
        refine tds rfl ?_ ?_
        ·
         refine tl_blkvec 1 0 1 rfl rfl rfl ?_
         have hv149 : (kInt).reps R63 ([] : List (Int)) [] := rfl
         obtain ⟨ds155, rp156, src157⟩ := src_slAt ones_int hs37
         refine tl_appS' (k := kInt) (m := s.roles) 0 hv149 (rp156) ap31 rfl rfl rfl (rfl) (src157 _) (by (have q_ := sig_small (b := b) (s := s) (by grind) (by grind); simp; omega)) rfl rfl fun A151 c152 l153 hv154 => ?_
         refine tl_nil ?_
         refine tx_td (fun w hw => hw.drop 2) ?_
         refine td 8 rfl (by kernel_rfl) (v_build [.slice A141 ((([] : List (Int)) ++ s.concepts).length) c142, .slice A151 ((([] : List (Int)) ++ s.roles).length) c152] zc33 pl33 rfl rfl) (fun w hw => hw.drop 2) ?_
         refine td1 9 (by kernel_rfl) rfl ?_
         refine tl_alloc zc33 rfl fun b159 => ?_
         refine tl_nil ?_
         refine tx_td (fun w hw => hw.drop 3) ?_
         refine td1 10 (by kernel_rfl) rfl ?_
         refine tl_st 0 [.slice A141 ((([] : List (Int)) ++ s.concepts).length) c142, .slice A151 ((([] : List (Int)) ++ s.roles).length) c152] rfl rfl ld33 rfl rfl rfl rfl rfl rfl ?_
         refine tl_nil ?_
         refine tx_tdz ?_
         refine td_done (by kernel_rfl) ?_
         exact tx_cutX hK90 (b159, A141, c142, A151, c152, l153, l143) (.refl _) (⟨hv154, hv144⟩) ⟨rfl, rfl, rfl, rfl, rfl, rfl, trivial⟩ (fun w hw => hw)
        refine tds rfl ?_ ?_
        ·
         refine tl_alloc zc33 rfl fun b160 => ?_
         refine tl_nil ?_
         refine tx_td (fun w hw => hw.drop 3) ?_
         refine td1 7 (by kernel_rfl) rfl ?_
         refine tl_blkvec 2 0 1 rfl rfl rfl ?_
         have hv161 : (kInt).reps R63 ([] : List (Int)) [] := rfl
         obtain ⟨ds167, rp168, src169⟩ := src_slAt ones_int hs37
         refine tl_appS' (k := kInt) (m := s.roles) 0 hv161 (rp168) ap31 rfl rfl rfl (rfl) (src169 _) (by (have q_ := sig_small (b := b) (s := s) (by grind) (by grind); simp; omega)) rfl rfl fun A163 c164 l165 hv166 => ?_
         refine tl_nil ?_
         refine tx_td (fun w hw => hw.drop 3) ?_
         refine td 8 rfl (by kernel_rfl) (v_build [.slice A141 ((([] : List (Int)) ++ s.concepts).length) c142, .slice A163 ((([] : List (Int)) ++ s.roles).length) c164] zc33 pl33 rfl rfl) (fun w hw => hw.drop 3) ?_
         refine td1 10 (by kernel_rfl) rfl ?_
         refine tl_st 1 [.slice A141 ((([] : List (Int)) ++ s.concepts).length) c142, .slice A163 ((([] : List (Int)) ++ s.roles).length) c164] rfl rfl ld33 rfl rfl rfl rfl rfl rfl ?_
         refine tl_nil ?_
         refine tx_tdz ?_
         refine td_done (by kernel_rfl) ?_
         exact tx_cutX hK90 (b160, A141, c142, A163, c164, l165, l143) (.refl _) (⟨hv166, hv144⟩) ⟨rfl, rfl, rfl, rfl, rfl, rfl, trivial⟩ (fun w hw => ((((((hw.pick 5).pick 5).pick 5).pick 5).pick 4).pick 5))
        exact tds_nil
       refine tds rfl ?_ ?_
       ·
        refine tl_alloc zc33 rfl fun b171 => ?_
        refine tl_nil ?_
        refine tx_td (fun w hw => hw.drop 3) ?_
        refine td1 3 (by kernel_rfl) rfl ?_
        refine tl_blkvec 2 0 1 rfl rfl rfl ?_
        have hv172 : (kInt).reps R63 ([] : List (Int)) [] := rfl
        obtain ⟨ds178, rp179, src180⟩ := src_slAt ones_int hs33
        refine tl_appS' (k := kInt) (m := s.concepts) 0 hv172 (rp179) ap31 rfl rfl rfl (rfl) (src180 _) (by (have q_ := sig_small (b := b) (s := s) (by grind) (by grind); simp; omega)) rfl rfl fun A174 c175 l176 hv177 => ?_
        refine tl_nil ?_
        refine tx_td (fun w hw => hw.drop 3) ?_
        refine td1 7 (by kernel_rfl) rfl ?_
        refine tl_blkvec 2 0 1 rfl rfl rfl ?_
        have hv182 : (kInt).reps R63 ([] : List (Int)) [] := rfl
        obtain ⟨ds188, rp189, src190⟩ := src_slAt ones_int hs37
        refine tl_appS' (k := kInt) (m := s.roles) 0 hv182 (rp189) ap31 rfl rfl rfl (rfl) (src190 _) (by (have q_ := sig_small (b := b) (s := s) (by grind) (by grind); simp; omega)) rfl rfl fun A184 c185 l186 hv187 => ?_
        refine tl_nil ?_
        refine tx_td (fun w hw => hw.drop 3) ?_
        refine td 8 rfl (by kernel_rfl) (v_build [.slice A174 ((([] : List (Int)) ++ s.concepts).length) c175, .slice A184 ((([] : List (Int)) ++ s.roles).length) c185] zc33 pl33 rfl rfl) (fun w hw => hw.drop 3) ?_
        refine td1 10 (by kernel_rfl) rfl ?_
        refine tl_st 2 [.slice A174 ((([] : List (Int)) ++ s.concepts).length) c175, .slice A184 ((([] : List (Int)) ++ s.roles).length) c185] rfl rfl ld33 rfl rfl rfl rfl rfl rfl ?_
        refine tl_nil ?_
        refine tx_tdz ?_
        refine td_done (by kernel_rfl) ?_
        exact tx_cutX hK90 (b171, A174, c175, A184, c185, l186, l176) (.refl _) (⟨hv187, hv177⟩) ⟨rfl, rfl, rfl, rfl, rfl, rfl, trivial⟩ (fun w hw => ((((((hw.pick 5).pick 5).pick 5).pick 4).pick 4).pick 5))
       exact tds_nil
      refine tds rfl ?_ ?_
      ·
       refine tl_alloc zc33 rfl fun b192 => ?_
       refine tl_nil ?_
       refine tx_td (fun w hw => hw.drop 2) ?_
       refine td_all [3, 4] (by kernel_rfl) rfl ?_
       refine tds rfl ?_ ?_
       ·
        refine tl_blkvec 1 0 1 rfl rfl rfl ?_
        have hv193 : (kInt).reps R63 ([] : List (Int)) [] := rfl
        obtain ⟨ds199, rp200, src201⟩ := src_slAt ones_int hs33
        refine tl_appS' (k := kInt) (m := s.concepts) 0 hv193 (rp200) ap31 rfl rfl rfl (rfl) (src201 _) (by (have q_ := sig_small (b := b) (s := s) (by grind) (by grind); simp; omega)) rfl rfl fun A195 c196 l197 hv198 => ?_
        refine tl_nil ?_
        refine tx_td (fun w hw => hw.drop 2) ?_
        refine td1 4 (by kernel_rfl) rfl ?_
        refine tl_bslice [] ap31 rfl rfl rfl rfl rfl rfl rfl fun b203 => ?_
        refine tl_nil ?_
        refine tx_td (fun w hw => hw.drop 3) ?_
        refine td1 7 (by kernel_rfl) rfl ?_
        refine tl_blkvec 0 0 1 rfl rfl rfl ?_
        have hv204 : (kInt).reps R63 ([] : List (Int)) [] := rfl
        obtain ⟨ds210, rp211, src212⟩ := src_slAt ones_int hs37
        refine tl_appS' (k := kInt) (m := s.roles) 0 hv204 (rp211) ap31 rfl rfl rfl (rfl) (src212 _) (by (have q_ := sig_small (b := b) (s := s) (by grind) (by grind); simp; omega)) rfl rfl fun A206 c207 l208 hv209 => ?_
        refine tl_nil ?_
        refine tx_td (fun w hw => hw.drop 3) ?_
        refine td 8 rfl (by kernel_rfl) (v_build [.slice A195 ((([] : List (Int)) ++ s.concepts).length) c196, .slice A206 ((([] : List (Int)) ++ s.roles).length) c207] zc33 pl33 rfl rfl) (fun w hw => hw.drop 3) ?_
        refine td1 10 (by kernel_rfl) rfl ?_
        refine tl_st 2 [.slice A195 ((([] : List (Int)) ++ s.concepts).length) c196, .slice A206 ((([] : List (Int)) ++ s.roles).length) c207] rfl rfl ld33 rfl rfl rfl rfl rfl rfl ?_
        refine tl_nil ?_
        refine tx_tdz ?_
        refine td_done (by kernel_rfl) ?_
        exact tx_cutX hK90 (b192, A195, c196, A206, c207, l208, l197) (.refl _) (⟨hv209, hv198⟩) ⟨rfl, rfl, rfl, rfl, rfl, rfl, trivial⟩ (fun w hw => ((((((hw.pick 5).pick 5).pick 5).pick 4).pick 4).pick 5))
       refine tds rfl ?_ ?_
       ·
        refine tl_bslice [] ap31 rfl rfl rfl rfl rfl rfl rfl fun b214 => ?_
        refine tl_nil ?_
        refine tx_td (fun w hw => hw.drop 3) ?_
        refine td1 3 (by kernel_rfl) rfl ?_
        refine tl_blkvec 2 0 1 rfl rfl rfl ?_
        have hv215 : (kInt).reps R63 ([] : List (Int)) [] := rfl
        obtain ⟨ds221, rp222, src223⟩ := src_slAt ones_int hs33
        refine tl_appS' (k := kInt) (m := s.concepts) 0 hv215 (rp222) ap31 rfl rfl rfl (rfl) (src223 _) (by (have q_ := sig_small (b := b) (s := s) (by grind) (by grind); simp; omega)) rfl rfl fun A217 c218 l219 hv220 => ?_
        refine tl_nil ?_
        refine tx_td (fun w hw => hw.drop 3) ?_
        refine td1 7 (by kernel_rfl) rfl ?_
        refine tl_blkvec 1 0 1 rfl rfl rfl ?_
        have hv225 : (kInt).reps R63 ([] : List (Int)) [] := rfl
        obtain ⟨ds231, rp232, src233⟩ := src_slAt ones_int hs37
        refine tl_appS' (k := kInt) (m := s.roles) 0 hv225 (rp232) ap31 rfl rfl rfl (rfl) (src233 _) (by (have q_ := sig_small (b := b) (s := s) (by grind) (by grind); simp; omega)) rfl rfl fun A227 c228 l229 hv230 => ?_
        refine tl_nil ?_
        refine tx_td (fun w hw => hw.drop 3) ?_
        refine td 8 rfl (by kernel_rfl) (v_build [.slice A217 ((([] : List (Int)) ++ s.concepts).length) c218, .slice A227 ((([] : List (Int)) ++ s.roles).length) c228] zc33 pl33 rfl rfl) (fun w hw => hw.drop 3) ?_
        refine td1 10 (by kernel_rfl) rfl ?_
        refine tl_st 2 [.slice A217 ((([] : List (Int)) ++ s.concepts).length) c218, .slice A227 ((([] : List (Int)) ++ s.roles).length) c228] rfl rfl ld33 rfl rfl rfl rfl rfl rfl ?_
        refine tl_nil ?_
        refine tx_tdz ?_
        refine td_done (by kernel_rfl) ?_
        exact tx_cutX hK90 (b192, A217, c218, A227, c228, l229, l219) (.refl _) (⟨hv230, hv220⟩) ⟨rfl, rfl, rfl, rfl, rfl, rfl, trivial⟩ (fun w hw => ((((((hw.pick 5).pick 5).pick 5).pick 4).pick 4).pick 5))
       exact tds_nil
      exact tds_nil
     refine tds rfl ?_ ?_
     ·
      refine tl_bslice [] ap31 rfl rfl rfl rfl rfl rfl rfl fun b235 => ?_
      refine tl_nil ?_
      refine tx_td (fun w hw => hw.drop 1) ?_
      refine td_all [0, 9] (by kernel_rfl) rfl ?_
      refine tds rfl ?_ ?_
      ·
       refine tl_bslice [] ap31 rfl rfl rfl rfl rfl rfl rfl fun b236 => ?_
       refine tl_nil ?_
       refine tx_td (fun w hw => hw.drop 2) ?_
       refine td_all [3, 9] (by kernel_rfl) rfl ?_
       refine tds rfl ?_ ?_
       ·
        refine tl_blkvec 0 0 1 rfl rfl rfl ?_
        have hv237 : (kInt).reps R63 ([] : List (Int)) [] := rfl
        obtain ⟨ds243, rp244, src245⟩ := src_slAt ones_int hs33
        refine tl_appS' (k := kInt) (m := s.concepts) 0 hv237 (rp244) ap31 rfl rfl rfl (rfl) (src245 _) (by (have q_ := sig_small (b := b) (s := s) (by grind) (by grind); simp; omega)) rfl rfl fun A239 c240 l241 hv242 => ?_
        refine tl_nil ?_
        refine tx_td (fun w hw => hw.drop 2) ?_
        refine td_all [7, 9] (by kernel_rfl) rfl ?_
        refine tds rfl ?_ ?_
        ·
         refine tl_blkvec 1 0 1 rfl rfl rfl ?_
         have hv247 : (kInt).reps R63 ([] : List (Int)) [] := rfl
         obtain ⟨ds253, rp254, src255⟩ := src_slAt ones_int hs37
         refine tl_appS' (k := kInt) (m := s.roles) 0 hv247 (rp254) ap31 rfl rfl rfl (rfl) (src255 _) (by (have q_ := sig_small (b := b) (s := s) (by grind) (by grind); simp; omega)) rfl rfl fun A249 c250 l251 hv252 => ?_
         refine tl_nil ?_
         refine tx_td (fun w hw => hw.drop 2) ?_
         refine td 8 rfl (by kernel_rfl) (v_build [.slice A239 ((([] : List (Int)) ++ s.concepts).length) c240, .slice A249 ((([] : List (Int)) ++ s.roles).length) c250] zc33 pl33 rfl rfl) (fun w hw => hw.drop 2) ?_
         refine td1 9 (by kernel_rfl) rfl ?_
         refine tl_alloc zc33 rfl fun b257 => ?_
         refine tl_nil ?_
         refine tx_td (fun w hw => hw.drop 3) ?_
         refine td1 10 (by kernel_rfl) rfl ?_
         refine tl_st 0 [.slice A239 ((([] : List (Int)) ++ s.concepts).length) c240, .slice A249 ((([] : List (Int)) ++ s.roles).length) c250] rfl rfl ld33 rfl rfl rfl rfl rfl rfl ?_
         refine tl_nil ?_
         refine tx_tdz ?_
         refine td_done (by kernel_rfl) ?_
         exact tx_cutX hK90 (b257, A239, c240, A249, c250, l251, l241) (.refl _) (⟨hv252, hv242⟩) ⟨rfl, rfl, rfl, rfl, rfl, rfl, trivial⟩ (fun w hw => hw)
        refine tds rfl ?_ ?_
        ·
         refine tl_alloc zc33 rfl fun b258 => ?_
         refine tl_nil ?_
         refine tx_td (fun w hw => hw.drop 3) ?_
         refine td1 7 (by kernel_rfl) rfl ?_
         refine tl_blkvec 2 0 1 rfl rfl rfl ?_
         have hv259 : (kInt).reps R63 ([] : List (Int)) [] := rfl
         obtain ⟨ds265, rp266, src267⟩ := src_slAt ones_int hs37
         refine tl_appS' (k := kInt) (m := s.roles) 0 hv259 (rp266) ap31 rfl rfl rfl (rfl) (src267 _) (by (have q_ := sig_small (b := b) (s := s) (by grind) (by grind); simp; omega)) rfl rfl fun A261 c262 l263 hv264 => ?_
         refine tl_nil ?_
         refine tx_td (fun w hw => hw.drop 3) ?_
         refine td 8 rfl (by kernel_rfl) (v_build [.slice A239 ((([] : List (Int)) ++ s.concepts).length) c240, .slice A261 ((([] : List (Int)) ++ s.roles).length) c262] zc33 pl33 rfl rfl) (fun w hw => hw.drop 3) ?_
         refine td1 10 (by kernel_rfl) rfl ?_
         refine tl_st 1 [.slice A239 ((([] : List (Int)) ++ s.concepts).length) c240, .slice A261 ((([] : List (Int)) ++ s.roles).length) c262] rfl rfl ld33 rfl rfl rfl rfl rfl rfl ?_
         refine tl_nil ?_
         refine tx_tdz ?_
         refine td_done (by kernel_rfl) ?_
         exact tx_cutX hK90 (b258, A239, c240, A261, c262, l263, l241) (.refl _) (⟨hv264, hv242⟩) ⟨rfl, rfl, rfl, rfl, rfl, rfl, trivial⟩ (fun w hw => ((((((hw.pick 5).pick 5).pick 5).pick 5).pick 4).pick 5))
        exact tds_nil
       refine tds rfl ?_ ?_
       ·
        refine tl_alloc zc33 rfl fun b269 => ?_
        refine tl_nil ?_
        refine tx_td (fun w hw => hw.drop 3) ?_
        refine td1 3 (by kernel_rfl) rfl ?_
        refine tl_blkvec 1 0 1 rfl rfl rfl ?_
        have hv270 : (kInt).reps R63 ([] : List (Int)) [] := rfl
        obtain ⟨ds276, rp277, src278⟩ := src_slAt ones_int hs33
        refine tl_appS' (k := kInt) (m := s.concepts) 0 hv270 (rp277) ap31 rfl rfl rfl (rfl) (src278 _) (by (have q_ := sig_small (b := b) (s := s) (by grind) (by grind); simp; omega)) rfl rfl fun A272 c273 l274 hv275 => ?_
        refine tl_nil ?_
        refine tx_td (fun w hw => hw.drop 3) ?_
        refine td1 7 (by kernel_rfl) rfl ?_
        refine tl_blkvec 2 0 1 rfl rfl rfl ?_
        have hv280 : (kInt).reps R63 ([] : List (Int)) [] := rfl
        obtain ⟨ds286, rp287, src288⟩ := src_slAt ones_int hs37
        refine tl_appS' (k := kInt) (m := s.roles) 0 hv280 (rp287) ap31 rfl rfl rfl (rfl) (src288 _) (by (have q_ := sig_small (b := b) (s := s) (by grind) (by grind); simp; omega)) rfl rfl fun A282 c283 l284 hv285 => ?_
        refine tl_nil ?_
        refine tx_td (fun w hw => hw.drop 3) ?_
        refine td 8 rfl (by kernel_rfl) (v_build [.slice A272 ((([] : List (Int)) ++ s.concepts).length) c273, .slice A282 ((([] : List (Int)) ++ s.roles).length) c283] zc33 pl33 rfl rfl) (fun w hw => hw.drop 3) ?_
        refine td1 10 (by kernel_rfl) rfl ?_
        refine tl_st 2 [.slice A272 ((([] : List (Int)) ++ s.concepts).length) c273, .slice A282 ((([] : List (Int)) ++ s.roles).length) c283] rfl rfl ld33 rfl rfl rfl rfl rfl rfl ?_
        refine tl_nil ?_
        refine tx_tdz ?_
        refine td_done (by kernel_rfl) ?_
        exact tx_cutX hK90 (b269, A272, c273, A282, c283, l284, l274) (.refl _) (⟨hv285, hv275⟩) ⟨rfl, rfl, rfl, rfl, rfl, rfl, trivial⟩ (fun w hw => ((((((hw.pick 5).pick 5).pick 5).pick 4).pick 4).pick 5))
       exact tds_nil
      refine tds rfl ?_ ?_
      ·
       refine tl_alloc zc33 rfl fun b290 => ?_
       refine tl_nil ?_
       refine tx_td (fun w hw => hw.drop 2) ?_
       refine td1 0 (by kernel_rfl) rfl ?_
       refine tl_bslice [] ap31 rfl rfl rfl rfl rfl rfl rfl fun b291 => ?_
       refine tl_nil ?_
       refine tx_td (fun w hw => hw.drop 3) ?_
       refine td1 3 (by kernel_rfl) rfl ?_
       refine tl_blkvec 0 0 1 rfl rfl rfl ?_
       have hv292 : (kInt).reps R63 ([] : List (Int)) [] := rfl
       obtain ⟨ds298, rp299, src300⟩ := src_slAt ones_int hs33
       refine tl_appS' (k := kInt) (m := s.concepts) 0 hv292 (rp299) ap31 rfl rfl rfl (rfl) (src300 _) (by (have q_ := sig_small (b := b) (s := s) (by grind) (by grind); simp; omega)) rfl rfl fun A294 c295 l296 hv297 => ?_
       refine tl_nil ?_
       refine tx_td (fun w hw => hw.drop 3) ?_
       refine td1 7 (by kernel_rfl) rfl ?_
       refine tl_blkvec 2 0 1 rfl rfl rfl ?_
       have hv302 : (kInt).reps R63 ([] : List (Int)) [] := rfl
       obtain ⟨ds308, rp309, src310⟩ := src_slAt ones_int hs37
       refine tl_appS' (k := kInt) (m := s.roles) 0 hv302 (rp309) ap31 rfl rfl rfl (rfl) (src310 _) (by (have q_ := sig_small (b := b) (s := s) (by grind) (by grind); simp; omega)) rfl rfl fun A304 c305 l306 hv307 => ?_
       refine tl_nil ?_
       refine tx_td (fun w hw => hw.drop 3) ?_
       refine td 8 rfl (by kernel_rfl) (v_build [.slice A294 ((([] : List (Int)) ++ s.concepts).length) c295, .slice A304 ((([] : List (Int)) ++ s.roles).length) c305] zc33 pl33 rfl rfl) (fun w hw => hw.drop 3) ?_
       refine td1 10 (by kernel_rfl) rfl ?_
       refine tl_st 2 [.slice A294 ((([] : List (Int)) ++ s.concepts).length) c295, .slice A304 ((([] : List (Int)) ++ s.roles).length) c305] rfl rfl ld33 rfl rfl rfl rfl rfl rfl ?_
       refine tl_nil ?_
       refine tx_tdz ?_
       refine td_done (by kernel_rfl) ?_
       exact tx_cutX hK90 (b290, A294, c295, A304, c305, l306, l296) (.refl _) (⟨hv307, hv297⟩) ⟨rfl, rfl, rfl, rfl, rfl, rfl, trivial⟩ (fun w hw => ((((((hw.pick 5).pick 5).pick 5).pick 4).pick 4).pick 5))
      exact tds_nil
     refine tds rfl ?_ ?_
     ·
      refine tl_alloc zc33 rfl fun b312 => ?_
      refine tl_nil ?_
      refine tx_td (fun w hw => hw.drop 1) ?_
      refine td_all [0, 4] (by kernel_rfl) rfl ?_
      refine tds rfl ?_ ?_
      ·
       refine tl_bslice [] ap31 rfl rfl rfl rfl rfl rfl rfl fun b313 => ?_
       refine tl_nil ?_
       refine tx_td (fun w hw => hw.drop 2) ?_
       refine td_all [3, 4] (by kernel_rfl) rfl ?_
       refine tds rfl ?_ ?_
       ·
        refine tl_blkvec 0 0 1 rfl rfl rfl ?_
        have hv314 : (kInt).reps R63 ([] : List (Int)) [] := rfl
        obtain ⟨ds320, rp321, src322⟩ := src_slAt ones_int hs33
        refine tl_appS' (k := kInt) (m := s.concepts) 0 hv314 (rp321) ap31 rfl rfl rfl (rfl) (src322 _) (by (have q_ := sig_small (b := b) (s := s) (by grind) (by grind); simp; omega)) rfl rfl fun A316 c317 l318 hv319 => ?_
        refine tl_nil ?_
        refine tx_td (fun w hw => hw.drop 2) ?_
        refine td1 4 (by kernel_rfl) rfl ?_
        refine tl_bslice [] ap31 rfl rfl rfl rfl rfl rfl rfl fun b324 => ?_
        refine tl_nil ?_
        refine tx_td (fun w hw => hw.drop 3) ?_
        refine td1 7 (by kernel_rfl) rfl ?_
        refine tl_blkvec 0 0 1 rfl rfl rfl ?_
        have hv325 : (kInt).reps R63 ([] : List (Int)) [] := rfl
        obtain ⟨ds331, rp332, src333⟩ := src_slAt ones_int hs37
        refine tl_appS' (k := kInt) (m := s.roles) 0 hv325 (rp332) ap31 rfl rfl rfl (rfl) (src333 _) (by (have q_ := sig_small (b := b) (s := s) (by grind) (by grind); simp; omega)) rfl rfl fun A327 c328 l329 hv330 => ?_
        refine tl_nil ?_
        refine tx_td (fun w hw => hw.drop 3) ?_
        refine td 8 rfl (by kernel_rfl) (v_build [.slice A316 ((([] : List (Int)) ++ s.concepts).length) c317, .slice A327 ((([] : List (Int)) ++ s.roles).length) c328] zc33 pl33 rfl rfl) (fun w hw => hw.drop 3) ?_
        refine td1 10 (by kernel_rfl) rfl ?_
        refine tl_st 2 [.slice A316 ((([] : List (Int)) ++ s.concepts).length) c317, .slice A327 ((([] : List (Int)) ++ s.roles).length) c328] rfl rfl ld33 rfl rfl rfl rfl rfl rfl ?_
        refine tl_nil ?_
        refine tx_tdz ?_
        refine td_done (by kernel_rfl) ?_
        exact tx_cutX hK90 (b312, A316, c317, A327, c328, l329, l318) (.refl _) (⟨hv330, hv319⟩) ⟨rfl, rfl, rfl, rfl, rfl, rfl, trivial⟩ (fun w hw => ((((((hw.pick 5).pick 5).pick 5).pick 4).pick 4).pick 5))
       refine tds rfl ?_ ?_
       ·
        refine tl_bslice [] ap31 rfl rfl rfl rfl rfl rfl rfl fun b335 => ?_
        refine tl_nil ?_
        refine tx_td (fun w hw => hw.drop 3) ?_
        refine td1 3 (by kernel_rfl) rfl ?_
        refine tl_blkvec 1 0 1 rfl rfl rfl ?_
        have hv336 : (kInt).reps R63 ([] : List (Int)) [] := rfl
        obtain ⟨ds342, rp343, src344⟩ := src_slAt ones_int hs33
        refine tl_appS' (k := kInt) (m := s.concepts) 0 hv336 (rp343) ap31 rfl rfl rfl (rfl) (src344 _) (by (have q_ := sig_small (b := b) (s := s) (by grind) (by grind); simp; omega)) rfl rfl fun A338 c339 l340 hv341 => ?_
        refine tl_nil ?_
        refine tx_td (fun w hw => hw.drop 3) ?_
        refine td1 7 (by kernel_rfl) rfl ?_
        refine tl_blkvec 1 0 1 rfl rfl rfl ?_
        have hv346 : (kInt).reps R63 ([] : List (Int)) [] := rfl
        obtain ⟨ds352, rp353, src354⟩ := src_slAt ones_int hs37
        refine tl_appS' (k := kInt) (m := s.roles) 0 hv346 (rp353) ap31 rfl rfl rfl (rfl) (src354 _) (by (have q_ := sig_small (b := b) (s := s) (by grind) (by grind); simp; omega)) rfl rfl fun A348 c349 l350 hv351 => ?_
        refine tl_nil ?_
        refine tx_td (fun w hw => hw.drop 3) ?_
        refine td 8 rfl (by kernel_rfl) (v_build [.slice A338 ((([] : List (Int)) ++ s.concepts).length) c339, .slice A348 ((([] : List (Int)) ++ s.roles).length) c349] zc33 pl33 rfl rfl) (fun w hw => hw.drop 3) ?_
        refine td1 10 (by kernel_rfl) rfl ?_
        refine tl_st 2 [.slice A338 ((([] : List (Int)) ++ s.concepts).length) c339, .slice A348 ((([] : List (Int)) ++ s.roles).length) c349] rfl rfl ld33 rfl rfl rfl rfl rfl rfl ?_
        refine tl_nil ?_
        refine tx_tdz ?_
        refine td_done (by kernel_rfl) ?_
        exact tx_cutX hK90 (b312, A338, c339, A348, c349, l350, l340) (.refl _) (⟨hv351, hv341⟩) ⟨rfl, rfl, rfl, rfl, rfl, rfl, trivial⟩ (fun w hw => ((((((hw.pick 5).pick 5).pick 5).pick 4).pick 4).pick 5))
       exact tds_nil
      refine tds rfl ?_ ?_
      ·
       refine tl_bslice [] ap31 rfl rfl rfl rfl rfl rfl rfl fun b356 => ?_
       refine tl_nil ?_
       refine tx_td (fun w hw => hw.drop 2) ?_
       refine td1 0 (by kernel_rfl) rfl ?_
       refine tl_bslice [] ap31 rfl rfl rfl rfl rfl rfl rfl fun b357 => ?_
       refine tl_nil ?_
       refine tx_td (fun w hw => hw.drop 3) ?_
       refine td1 3 (by kernel_rfl) rfl ?_
       refine tl_blkvec 0 0 1 rfl rfl rfl ?_
       have hv358 : (kInt).reps R63 ([] : List (Int)) [] := rfl
       obtain ⟨ds364, rp365, src366⟩ := src_slAt ones_int hs33
       refine tl_appS' (k := kInt) (m := s.concepts) 0 hv358 (rp365) ap31 rfl rfl rfl (rfl) (src366 _) (by (have q_ := sig_small (b := b) (s := s) (by grind) (by grind); simp; omega)) rfl rfl fun A360 c361 l362 hv363 => ?_
       refine tl_nil ?_
       refine tx_td (fun w hw => hw.drop 3) ?_
       refine td1 7 (by kernel_rfl) rfl ?_
       refine tl_blkvec 1 0 1 rfl rfl rfl ?_
       have hv368 : (kInt).reps R63 ([] : List (Int)) [] := rfl
       obtain ⟨ds374, rp375, src376⟩ := src_slAt ones_int hs37
       refine tl_appS' (k := kInt) (m := s.roles) 0 hv368 (rp375) ap31 rfl rfl rfl (rfl) (src376 _) (by (have q_ := sig_small (b := b) (s := s) (by grind) (by grind); simp; omega)) rfl rfl fun A370 c371 l372 hv373 => ?_
       refine tl_nil ?_
       refine tx_td (fun w hw => hw.drop 3) ?_
       refine td 8 rfl (by kernel_rfl) (v_build [.slice A360 ((([] : List (Int)) ++ s.concepts).length) c361, .slice A370 ((([] : List (Int)) ++ s.roles).length) c371] zc33 pl33 rfl rfl) (fun w hw => hw.drop 3) ?_
       refine td1 10 (by kernel_rfl) rfl ?_
       refine tl_st 2 [.slice A360 ((([] : List (Int)) ++ s.concepts).length) c361, .slice A370 ((([] : List (Int)) ++ s.roles).length) c371] rfl rfl ld33 rfl rfl rfl rfl rfl rfl ?_
       refine tl_nil ?_
       refine tx_tdz ?_
       refine td_done (by kernel_rfl) ?_
       exact tx_cutX hK90 (b312, A360, c361, A370, c371, l372, l362) (.refl _) (⟨hv373, hv363⟩) ⟨rfl, rfl, rfl, rfl, rfl, rfl, trivial⟩ (fun w hw => ((((((hw.pick 5).pick 5).pick 5).pick 4).pick 4).pick 5))
      exact tds_nil
     exact tds_nil
    ·
     rintro ⟨b89, A70, c71, A81, c82, l83, l72⟩ R379 hle380 hj378
     obtain ⟨hv381, hv382⟩ := hj378
     try replace hr_b := kBase.mono _ _ _ _ hle380 hr_b
     try replace hr_s := kSig.mono _ _ _ _ hle380 hr_s
     try replace hs41 := hs41.mono hle380
     try replace hs45 := hs45.mono hle380
     try replace hG := hG.mono hle380
     have hle383 := hle64.trans hle380
     show TC Tryz.prog _ _ _ [] [(3, .int .i64 kind), (4, .pointer (some ⟨b47, 0, none⟩)), (5, .pointer (some ⟨b48, 0, none⟩)), (6, .pointer (some ⟨b49, 0, none⟩)), (8, .bool false), (9, .pointer (some ⟨b89, 0, none⟩))] R379 (.blk b89 [.slice A70 ((([] : List (Int)) ++ s.concepts).length) c71, .slice A81 ((([] : List (Int)) ++ s.roles).length) c82] 33 :: .vec (.slice A81 ((([] : List (Int)) ++ s.roles).length) c82) ((([] : List (Int)) ++ s.roles).length) 3 1 l83 :: .vec (.slice A70 ((([] : List (Int)) ++ s.concepts).length) c71) ((([] : List (Int)) ++ s.concepts).length) 3 1 l72 :: .blk b49 [.slice A39 t.concepts.length d40, .slice A43 t.roles.length d44] 33 :: .blk b48 [.slice A31 s.concepts.length d32, .slice A35 s.roles.length d36] 33 :: .blk b47 [.slice A15 b.names.concepts.length d16, .slice A19 b.names.roles.length d20, .slice A23 b.names.inds.length d24, .slice A3 b.incls.length d4, .slice A6 b.roles.length d7, .slice A9 b.facts.length d10, .slice A12 b.links.length d13] 30 :: G)
     refine tc_seq <| tc_seq <| tc_region ?_
     refine tl (v_fieldAddr 0 rfl fo33_0 rfl) ?_
     refine tl (v_ld 3 rfl ld31 rfl rfl) ?_
     refine tl (v_len rfl sl31) ?_
     refine tl (v_move rfl) ?_
     refine tl_nil <| tx_then <| tc_block ?_
     refine tc_loop ?_
     refine th_loop (fun b_ : Nat × List (Int) × Option Addr × Nat × List Value => match b_ with | (i, u, A_u, c_u, l_u) => t.concepts.length - i) (fun b_ : Nat × List (Int) × Option Addr × Nat × List Value => match b_ with | (i, u, A_u, c_u, l_u) => [(3, .int .i64 kind), (4, .pointer (some ⟨b47, 0, none⟩)), (5, .pointer (some ⟨b48, 0, none⟩)), (6, .pointer (some ⟨b49, 0, none⟩)), (8, .bool false), (9, .pointer (some ⟨b89, 0, none⟩)), (63, .slice A39 t.concepts.length d40), (64, .int .i64 (t.concepts.length : Int)), (65, .int .i64 (i : Int))]) (fun b_ : Nat × List (Int) × Option Addr × Nat × List Value => match b_ with | (i, u, A_u, c_u, l_u) => (.blk b89 [.slice A_u u.length c_u, .slice A81 ((([] : List (Int)) ++ s.roles).length) c82] 33 :: .vec (.slice A81 ((([] : List (Int)) ++ s.roles).length) c82) ((([] : List (Int)) ++ s.roles).length) 3 1 l83 :: .vec (.slice A_u u.length c_u) u.length 3 1 l_u :: .blk b49 [.slice A39 t.concepts.length d40, .slice A43 t.roles.length d44] 33 :: .blk b48 [.slice A31 s.concepts.length d32, .slice A35 s.roles.length d36] 33 :: .blk b47 [.slice A15 b.names.concepts.length d16, .slice A19 b.names.roles.length d20, .slice A23 b.names.inds.length d24, .slice A3 b.incls.length d4, .slice A6 b.roles.length d7, .slice A9 b.facts.length d10, .slice A12 b.links.length d13] 30 :: G)) (fun (b_ : Nat × List (Int) × Option Addr × Nat × List Value) (R_ : RO) => match b_ with | (i, u, A_u, c_u, l_u) => (kInt).reps R_ u l_u ∧ (i ≤ t.concepts.length ∧ Grow b.names.concepts.length s.concepts u)) (0, (([] : List (Int)) ++ s.concepts), A70, c71, l72) ⟨rfl, rfl, rfl, rfl, rfl, rfl, rfl, rfl, rfl, trivial⟩ (by refine ⟨hv382, ?_⟩; exact ⟨by omega, Grow.init (sigB_iff.1 (by grind)).1⟩) (fun w hw => hw) ?_
     rintro ⟨i, u, A_u, c_u, l_u⟩ R388 hle389 hI386 ih387
     try replace hr_b := kBase.mono _ _ _ _ hle389 hr_b
     try replace hr_s := kSig.mono _ _ _ _ hle389 hr_s
     try replace hs41 := hs41.mono hle389
     try replace hs45 := hs45.mono hle389
     try replace hG := hG.mono hle389
     try replace hv381 := Kd.reps_mono hle389 hv381
     have hle390 := hle383.trans hle389
     have hle391 := hle380.trans hle389
     show TC Tryz.prog _ _ _ [] [(3, .int .i64 kind), (4, .pointer (some ⟨b47, 0, none⟩)), (5, .pointer (some ⟨b48, 0, none⟩)), (6, .pointer (some ⟨b49, 0, none⟩)), (8, .bool false), (9, .pointer (some ⟨b89, 0, none⟩)), (63, .slice A39 t.concepts.length d40), (64, .int .i64 (t.concepts.length : Int)), (65, .int .i64 (i : Int))] R388 (.blk b89 [.slice A_u u.length c_u, .slice A81 ((([] : List (Int)) ++ s.roles).length) c82] 33 :: .vec (.slice A81 ((([] : List (Int)) ++ s.roles).length) c82) ((([] : List (Int)) ++ s.roles).length) 3 1 l83 :: .vec (.slice A_u u.length c_u) u.length 3 1 l_u :: .blk b49 [.slice A39 t.concepts.length d40, .slice A43 t.roles.length d44] 33 :: .blk b48 [.slice A31 s.concepts.length d32, .slice A35 s.roles.length d36] 33 :: .blk b47 [.slice A15 b.names.concepts.length d16, .slice A19 b.names.roles.length d20, .slice A23 b.names.inds.length d24, .slice A3 b.incls.length d4, .slice A6 b.roles.length d7, .slice A9 b.facts.length d10, .slice A12 b.links.length d13] 30 :: G)
     obtain ⟨hv385, hI392⟩ := hI386
     obtain ⟨hi1, hi2⟩ := hI392
     have hb_ : baseB b = true := by grind
     have hs_ : sigB b.names s = true := by grind
     have ht_ : sigB b.names t = true := by grind
     have hn_ := (baseB_ok hb_).namesLen
     refine tc_seq <| tc_region ?_
     refine tl (v_ib rfl rfl rfl) ?_
     refine tl_nil <| tx_then <| tc_seq ?_
     refine tc_split 66 rfl (fun h393 => ?_) (fun h393 => ?_)
     ·
      refine tc_yes rfl ?_
      refine tc_skip <| tx_then <| tc_seq <| tc_block <| tc_seq <| tc_region ?_
      have hb399 : i < t.concepts.length := by omega
      obtain ⟨x394, hx395⟩ : ∃ x, t.concepts[i]? = some x := ⟨_, List.getElem?_eq_getElem hb399⟩
      obtain ⟨c396, hr397, ha398⟩ := hs41.get _ x394 hx395
      obtain ⟨rfl, i400⟩ := hr397
      unfold i64 at i400
      refine tl (v_idxS (i := i) hs41 rfl rfl rfl sl31 hb399) ?_
      refine tl (v_ldA 0 ha398 rfl ld3 rfl rfl) ?_
      refine tl (v_assign rfl) ?_
      refine tl_nil <| tx_then <| tc_region ?_
      refine tl (v_fieldAddr 0 rfl fo33_0 rfl) ?_
      refine tl (v_ld 0 rfl ld31 rfl rfl) ?_
      refine tl (v_move rfl) ?_
      refine tl_G (.vec (.slice A_u u.length c_u) u.length 3 1 l_u :: .blk b89 [.slice A_u u.length c_u, .slice A81 ((([] : List (Int)) ++ s.roles).length) c82] 33 :: .vec (.slice A81 ((([] : List (Int)) ++ s.roles).length) c82) ((([] : List (Int)) ++ s.roles).length) 3 1 l83 :: .blk b49 [.slice A39 t.concepts.length d40, .slice A43 t.roles.length d44] 33 :: .blk b48 [.slice A31 s.concepts.length d32, .slice A35 s.roles.length d36] 33 :: .blk b47 [.slice A15 b.names.concepts.length d16, .slice A19 b.names.roles.length d20, .slice A23 b.names.inds.length d24, .slice A3 b.incls.length d4, .slice A6 b.roles.length d7, .slice A9 b.facts.length d10, .slice A12 b.links.length d13] 30 :: G) (fun w hw => (hw.pick 2)) ?_
      refine tl_callo ca16 rfl (fun w hw => isagogeref01_Insert_ok u x394 hv385 (by unfold i64; omega) (by first | (have q1_ := hj2.len; omega) | (have q1_ := hi2.len; omega)) hw) rfl ?_
      rintro _ R402 _ hle403 ⟨A_z401_0, c_z401_0, l_z401_0, rfl, rfl, hv_z401_0⟩
      try replace hr_b := kBase.mono _ _ _ _ hle403 hr_b
      try replace hr_s := kSig.mono _ _ _ _ hle403 hr_s
      try replace hs45 := hs45.mono hle403
      try replace hG := hG.mono hle403
      try replace hv381 := Kd.reps_mono hle403 hv381
      try replace hv385 := Kd.reps_mono hle403 hv385
      have hle404 := hle390.trans hle403
      have hle405 := hle391.trans hle403
      have hle406 := hle389.trans hle403
      refine tl (v_fieldAddr 0 rfl fo33_0 rfl) ?_
      refine tl_st 1 [.slice A_z401_0 ((insI u x394).length) c_z401_0, .slice A81 ((([] : List (Int)) ++ s.roles).length) c82] rfl rfl ld31 rfl rfl rfl rfl rfl rfl ?_
      refine tl_nil <| tx_blk <| tx_then <| tc_region ?_
      refine tl (v_add rfl rfl (by omega) (by omega)) ?_
      refine tl (v_move rfl) ?_
      refine tl_nil ?_
      refine tx_round ?_
      exact fun a w ha hw => ih387.out (i + 1, (insI u x394), A_z401_0, c_z401_0, l_z401_0) _ (hle403) (by refine ⟨hv_z401_0, ?_⟩; exact ⟨by omega, hi2.step ((sig_at ht_).1 hx395)⟩) (by (try dsimp only); omega) a w (ha.sub (lkAll_lk ⟨rfl, rfl, rfl, rfl, rfl, rfl, rfl, rfl, rfl, trivial⟩)) (((((((hw.pick 5).pick 5).pick 5).pick 3).pick 5).pick 5))
     ·
      refine tc_no rfl ?_
      refine tc_exit <| tx_then_exit <| tx_then_exit <| tx_blk_exit <| tx_then <| tc_seq <| tc_seq <| tc_region ?_
      refine tl (v_fieldAddr 1 rfl fo33_1 rfl) ?_
      refine tl (v_ld 3 rfl ld31 rfl rfl) ?_
      refine tl (v_len rfl sl31) ?_
      refine tl (v_move rfl) ?_
      refine tl_nil <| tx_then <| tc_block ?_
      refine tc_loop ?_
      refine th_loop (fun b_ : Nat × List (Int) × Option Addr × Nat × List Value => match b_ with | (j, v, A_v, c_v, l_v) => t.roles.length - j) (fun b_ : Nat × List (Int) × Option Addr × Nat × List Value => match b_ with | (j, v, A_v, c_v, l_v) => [(3, .int .i64 kind), (4, .pointer (some ⟨b47, 0, none⟩)), (5, .pointer (some ⟨b48, 0, none⟩)), (8, .bool false), (9, .pointer (some ⟨b89, 0, none⟩)), (76, .slice A43 t.roles.length d44), (77, .int .i64 (t.roles.length : Int)), (78, .int .i64 (j : Int))]) (fun b_ : Nat × List (Int) × Option Addr × Nat × List Value => match b_ with | (j, v, A_v, c_v, l_v) => (.blk b89 [.slice A_u u.length c_u, .slice A_v v.length c_v] 33 :: .vec (.slice A_v v.length c_v) v.length 3 1 l_v :: .vec (.slice A_u u.length c_u) u.length 3 1 l_u :: .blk b49 [.slice A39 t.concepts.length d40, .slice A43 t.roles.length d44] 33 :: .blk b48 [.slice A31 s.concepts.length d32, .slice A35 s.roles.length d36] 33 :: .blk b47 [.slice A15 b.names.concepts.length d16, .slice A19 b.names.roles.length d20, .slice A23 b.names.inds.length d24, .slice A3 b.incls.length d4, .slice A6 b.roles.length d7, .slice A9 b.facts.length d10, .slice A12 b.links.length d13] 30 :: G)) (fun (b_ : Nat × List (Int) × Option Addr × Nat × List Value) (R_ : RO) => match b_ with | (j, v, A_v, c_v, l_v) => (kInt).reps R_ v l_v ∧ (j ≤ t.roles.length ∧ Grow b.names.roles.length s.roles v)) (0, (([] : List (Int)) ++ s.roles), A81, c82, l83) ⟨rfl, rfl, rfl, rfl, rfl, rfl, rfl, rfl, trivial⟩ (by refine ⟨hv381, ?_⟩; exact ⟨by omega, Grow.init (sigB_iff.1 (by grind)).2⟩) (fun w hw => hw) ?_
      rintro ⟨j, v, A_v, c_v, l_v⟩ R411 hle412 hI409 ih410
      try replace hr_b := kBase.mono _ _ _ _ hle412 hr_b
      try replace hr_s := kSig.mono _ _ _ _ hle412 hr_s
      try replace hs45 := hs45.mono hle412
      try replace hG := hG.mono hle412
      try replace hv385 := Kd.reps_mono hle412 hv385
      have hle413 := hle390.trans hle412
      have hle414 := hle391.trans hle412
      have hle415 := hle389.trans hle412
      show TC Tryz.prog _ _ _ [] [(3, .int .i64 kind), (4, .pointer (some ⟨b47, 0, none⟩)), (5, .pointer (some ⟨b48, 0, none⟩)), (8, .bool false), (9, .pointer (some ⟨b89, 0, none⟩)), (76, .slice A43 t.roles.length d44), (77, .int .i64 (t.roles.length : Int)), (78, .int .i64 (j : Int))] R411 (.blk b89 [.slice A_u u.length c_u, .slice A_v v.length c_v] 33 :: .vec (.slice A_v v.length c_v) v.length 3 1 l_v :: .vec (.slice A_u u.length c_u) u.length 3 1 l_u :: .blk b49 [.slice A39 t.concepts.length d40, .slice A43 t.roles.length d44] 33 :: .blk b48 [.slice A31 s.concepts.length d32, .slice A35 s.roles.length d36] 33 :: .blk b47 [.slice A15 b.names.concepts.length d16, .slice A19 b.names.roles.length d20, .slice A23 b.names.inds.length d24, .slice A3 b.incls.length d4, .slice A6 b.roles.length d7, .slice A9 b.facts.length d10, .slice A12 b.links.length d13] 30 :: G)
      obtain ⟨hv408, hI416⟩ := hI409
      obtain ⟨hj1, hj2⟩ := hI416
      refine tc_seq <| tc_region ?_
      refine tl (v_ib rfl rfl rfl) ?_
      refine tl_nil <| tx_then <| tc_seq ?_
      refine tc_split 79 rfl (fun h417 => ?_) (fun h417 => ?_)
      ·
       refine tc_yes rfl ?_
       refine tc_skip <| tx_then <| tc_seq <| tc_block <| tc_seq <| tc_region ?_
       have hb423 : j < t.roles.length := by omega
       obtain ⟨x418, hx419⟩ : ∃ x, t.roles[j]? = some x := ⟨_, List.getElem?_eq_getElem hb423⟩
       obtain ⟨c420, hr421, ha422⟩ := hs45.get _ x418 hx419
       obtain ⟨rfl, i424⟩ := hr421
       unfold i64 at i424
       refine tl (v_idxS (i := j) hs45 rfl rfl rfl sl31 hb423) ?_
       refine tl (v_ldA 0 ha422 rfl ld3 rfl rfl) ?_
       refine tl (v_assign rfl) ?_
       refine tl_nil <| tx_then <| tc_region ?_
       refine tl (v_fieldAddr 1 rfl fo33_1 rfl) ?_
       refine tl (v_ld 0 rfl ld31 rfl rfl) ?_
       refine tl (v_move rfl) ?_
       refine tl_G (.vec (.slice A_v v.length c_v) v.length 3 1 l_v :: .blk b89 [.slice A_u u.length c_u, .slice A_v v.length c_v] 33 :: .vec (.slice A_u u.length c_u) u.length 3 1 l_u :: .blk b49 [.slice A39 t.concepts.length d40, .slice A43 t.roles.length d44] 33 :: .blk b48 [.slice A31 s.concepts.length d32, .slice A35 s.roles.length d36] 33 :: .blk b47 [.slice A15 b.names.concepts.length d16, .slice A19 b.names.roles.length d20, .slice A23 b.names.inds.length d24, .slice A3 b.incls.length d4, .slice A6 b.roles.length d7, .slice A9 b.facts.length d10, .slice A12 b.links.length d13] 30 :: G) (fun w hw => (hw.pick 1)) ?_
       refine tl_callo ca16 rfl (fun w hw => isagogeref01_Insert_ok v x418 hv408 (by unfold i64; omega) (by first | (have q1_ := hj2.len; omega) | (have q1_ := hi2.len; omega)) hw) rfl ?_
       rintro _ R426 _ hle427 ⟨A_z425_0, c_z425_0, l_z425_0, rfl, rfl, hv_z425_0⟩
       try replace hr_b := kBase.mono _ _ _ _ hle427 hr_b
       try replace hr_s := kSig.mono _ _ _ _ hle427 hr_s
       try replace hG := hG.mono hle427
       try replace hv385 := Kd.reps_mono hle427 hv385
       try replace hv408 := Kd.reps_mono hle427 hv408
       have hle428 := hle413.trans hle427
       have hle429 := hle414.trans hle427
       have hle430 := hle415.trans hle427
       have hle431 := hle412.trans hle427
       refine tl (v_fieldAddr 1 rfl fo33_1 rfl) ?_
       refine tl_st 1 [.slice A_u u.length c_u, .slice A_z425_0 ((insI v x418).length) c_z425_0] rfl rfl ld31 rfl rfl rfl rfl rfl rfl ?_
       refine tl_nil <| tx_blk <| tx_then <| tc_region ?_
       refine tl (v_add rfl rfl (by omega) (by omega)) ?_
       refine tl (v_move rfl) ?_
       refine tl_nil ?_
       refine tx_round ?_
       exact fun a w ha hw => ih410.out (j + 1, (insI v x418), A_z425_0, c_z425_0, l_z425_0) _ (hle427) (by refine ⟨hv_z425_0, ?_⟩; exact ⟨by omega, hj2.step ((sig_at ht_).2 hx419)⟩) (by (try dsimp only); omega) a w (ha.sub (lkAll_lk ⟨rfl, rfl, rfl, rfl, rfl, rfl, rfl, congrArg (fun z => some (Value.int .i64 z)) (show ((j : Int) + 1 : Int) = ((j + 1) : Int) by first | rfl | omega), trivial⟩)) (((((((hw.pick 5).pick 5).pick 5).pick 5).pick 4).pick 5))
      ·
       refine tc_no rfl ?_
       refine tc_exit <| tx_then_exit <| tx_then_exit <| tx_blk_exit <| tx_then <| tc_seq <| tc_region ?_
       refine tl (v_ld_agg 5 [.slice A15 b.names.concepts.length d16, .slice A19 b.names.roles.length d20, .slice A23 b.names.inds.length d24, .slice A3 b.incls.length d4, .slice A6 b.roles.length d7, .slice A9 b.facts.length d10, .slice A12 b.links.length d13] rfl ld30 rfl rfl) ?_
       refine tl (v_ld_agg 4 [.slice A31 s.concepts.length d32, .slice A35 s.roles.length d36] rfl ld33 rfl rfl) ?_
       refine tl (v_move rfl) ?_
       refine tl_callo ca9 rfl (fun w hw => module_Module_ok b s kind hr_b hr_s (by unfold i64; omega) (by first | assumption | exact sig_small hb_ hs_ | exact sig_small hb_ (Grow.sig hi2 hj2).1) (by first | assumption | exact sig_small hb_ hs_ | exact sig_small hb_ (Grow.sig hi2 hj2).1) hw) rfl ?_
       rintro _ R433 _ hle434 ⟨A_z432_0, d_z432_0, rfl, rfl, hs_z432_0⟩
       try replace hr_b := kBase.mono _ _ _ _ hle434 hr_b
       try replace hG := hG.mono hle434
       try replace hv385 := Kd.reps_mono hle434 hv385
       try replace hv408 := Kd.reps_mono hle434 hv408
       have hle435 := hle413.trans hle434
       have hle436 := hle414.trans hle434
       have hle437 := hle415.trans hle434
       have hle438 := hle412.trans hle434
       have z439 := hs_z432_0.size
       unfold big at z439
       refine tl (v_move rfl) ?_
       refine tl (v_extract rfl rfl) ?_
       refine tl (v_extract rfl rfl) ?_
       refine tl (v_assign rfl) ?_
       refine tl (v_assign rfl) ?_
       refine tl_nil <| tx_then <| tc_seq <| tc_region ?_
       refine tl (v_ld_agg 5 [.slice A15 b.names.concepts.length d16, .slice A19 b.names.roles.length d20, .slice A23 b.names.inds.length d24, .slice A3 b.incls.length d4, .slice A6 b.roles.length d7, .slice A9 b.facts.length d10, .slice A12 b.links.length d13] rfl ld30 rfl rfl) ?_
       refine tl (v_ld_agg 0 [.slice A_u u.length c_u, .slice A_v v.length c_v] rfl ld33 rfl rfl) ?_
       refine tl (v_move rfl) ?_
       refine tl_retireV (k := kInt) (l := u) 2 rfl hv385 rfl (by (unfold big; first | omega | (simp; done) | (have q1_ := hi2.len; have q2_ := hj2.len; omega))) fun R441 hle442 hs440 => ?_
       try replace hr_b := kBase.mono _ _ _ _ hle442 hr_b
       try replace hG := hG.mono hle442
       try replace hv408 := Kd.reps_mono hle442 hv408
       try replace hs_z432_0 := hs_z432_0.mono hle442
       have hle443 := hle435.trans hle442
       have hle444 := hle436.trans hle442
       have hle445 := hle437.trans hle442
       have hle446 := hle438.trans hle442
       have hle447 := hle434.trans hle442
       have z448 := hs440.size
       unfold big at z448
       refine tl_retireV (k := kInt) (l := v) 1 rfl hv408 rfl (by (unfold big; first | omega | (simp; done) | (have q1_ := hi2.len; have q2_ := hj2.len; omega))) fun R450 hle451 hs449 => ?_
       try replace hr_b := kBase.mono _ _ _ _ hle451 hr_b
       try replace hG := hG.mono hle451
       try replace hs_z432_0 := hs_z432_0.mono hle451
       try replace hs440 := hs440.mono hle451
       have hle452 := hle443.trans hle451
       have hle453 := hle444.trans hle451
       have hle454 := hle445.trans hle451
       have hle455 := hle446.trans hle451
       have hle456 := hle447.trans hle451
       have hle457 := hle442.trans hle451
       have z458 := hs449.size
       unfold big at z458
       refine tl_callo ca9 rfl (fun w hw => module_Module_ok b (Sig.mk u v) kind hr_b ⟨_, _, _, _, rfl, hs440, hs449⟩ (by unfold i64; omega) (by first | assumption | exact sig_small hb_ hs_ | exact sig_small hb_ (Grow.sig hi2 hj2).1) (by first | assumption | exact sig_small hb_ hs_ | exact sig_small hb_ (Grow.sig hi2 hj2).1) hw) rfl ?_
       rintro _ R460 _ hle461 ⟨A_z459_0, d_z459_0, rfl, rfl, hs_z459_0⟩
       try replace hG := hG.mono hle461
       try replace hs_z432_0 := hs_z432_0.mono hle461
       have hle462 := hle452.trans hle461
       have hle463 := hle453.trans hle461
       have hle464 := hle454.trans hle461
       have hle465 := hle455.trans hle461
       have hle466 := hle456.trans hle461
       have hle467 := hle457.trans hle461
       have hle468 := hle451.trans hle461
       have z469 := hs_z459_0.size
       unfold big at z469
       refine tl (v_move rfl) ?_
       refine tl (v_extract rfl rfl) ?_
       refine tl (v_extract rfl rfl) ?_
       refine tl (v_assign rfl) ?_
       refine tl (v_assign rfl) ?_
       refine tl_nil <| tx_then ?_
       refine tc_cut [(3, .int .i64 kind), (4, .pointer (some ⟨b47, 0, none⟩)), (5, .pointer (some ⟨b48, 0, none⟩)), (9, .pointer (some ⟨b89, 0, none⟩)), (76, .slice A43 t.roles.length d44), (77, .int .i64 (t.roles.length : Int)), (78, .int .i64 (j : Int)), (79, .bool false), (8, .bool (decide ((((((moduleP b s kind).2) = 0) ∧ (((moduleP b (Sig.mk u v) kind).2) = 0)) ∧ ((subB ((moduleP b s kind).1) ((moduleP b (Sig.mk u v) kind).1)) = true)) ∨ False)))] (.blk b89 [.slice A_u u.length c_u, .slice A_v v.length c_v] 33 :: .blk b49 [.slice A39 t.concepts.length d40, .slice A43 t.roles.length d44] 33 :: .blk b48 [.slice A31 s.concepts.length d32, .slice A35 s.roles.length d36] 33 :: .blk b47 [.slice A15 b.names.concepts.length d16, .slice A19 b.names.roles.length d20, .slice A23 b.names.inds.length d24, .slice A3 b.incls.length d4, .slice A6 b.roles.length d7, .slice A9 b.facts.length d10, .slice A12 b.links.length d13] 30 :: G) (fun _ => True) (fun K hK470 hE471 => ?_) ?_
       ·
        refine tc_region ?_
        refine tl (v_move rfl) ?_
        refine tl (v_ib rfl rfl rfl) ?_
        refine tl (v_move rfl) ?_
        refine tl_split 104 rfl (fun h472 => ?_) (fun h472 => ?_)
        ·
         refine tl_grun 104 rfl rfl ?_
         refine tl (v_move rfl) ?_
         refine tl_grun 104 rfl rfl ?_
         refine tl (v_ib rfl rfl rfl) ?_
         refine tl (v_pick_t rfl rfl) ?_
         refine tl (v_move rfl) ?_
         refine tl_split 108 rfl (fun h473 => ?_) (fun h473 => ?_)
         ·
          refine tl_grun 108 rfl rfl ?_
          refine tl (v_move rfl) ?_
          refine tl_grun 108 rfl rfl ?_
          refine tl (v_move rfl) ?_
          refine tl_grun 108 rfl rfl ?_
          refine tl_callv ca15 rfl (fun w hw => isagogeref19_Subset_ok ((moduleP b s kind).1) ((moduleP b (Sig.mk u v) kind).1) hs_z432_0 hs_z459_0 hw) rfl ?_
          refine tl (v_pick_t rfl rfl) ?_
          refine tl (v_move rfl) ?_
          refine tl_splitb 113 rfl (fun h474 => ?_) (fun h474 => ?_)
          ·
           refine tl_grun 113 rfl rfl ?_
           refine tl_callv ca8 rfl (fun w hw => isagogelaw19_awake_ok (by first | assumption | omega) hw) rfl ?_
           refine tl (v_pick_t rfl rfl) ?_
           refine tl (v_assign rfl) ?_
           refine tl_nil ?_
           exact tx_cut hK470 (.refl _) (trivial) ⟨rfl, rfl, rfl, rfl, rfl, rfl, rfl, rfl, show some (Value.bool true) = some (Value.bool (decide ((((((moduleP b s kind).2) = 0) ∧ (((moduleP b (Sig.mk u v) kind).2) = 0)) ∧ ((subB ((moduleP b s kind).1) ((moduleP b (Sig.mk u v) kind).1)) = true)) ∨ False))) by first | (simp [h472, h473, h474]; done) | grind | (simp [h472, h473, h474] <;> omega), trivial⟩ (fun w hw => hw)
          ·
           refine tl_gskip 113 rfl rfl rfl ?_
           refine tl (v_pick_f rfl rfl) ?_
           refine tl (v_assign rfl) ?_
           refine tl_nil ?_
           exact tx_cut hK470 (.refl _) (trivial) ⟨rfl, rfl, rfl, rfl, rfl, rfl, rfl, rfl, show some (Value.bool false) = some (Value.bool (decide ((((((moduleP b s kind).2) = 0) ∧ (((moduleP b (Sig.mk u v) kind).2) = 0)) ∧ ((subB ((moduleP b s kind).1) ((moduleP b (Sig.mk u v) kind).1)) = true)) ∨ False))) by first | (simp [h472, h473, h474]; done) | grind | (simp [h472, h473, h474] <;> omega), trivial⟩ (fun w hw => hw)
         ·
          refine tl_gskip 108 rfl rfl rfl ?_
          refine tl_gskip 108 rfl rfl rfl ?_
          refine tl_gskip 108 rfl rfl rfl ?_
          refine tl (v_pick_f rfl rfl) ?_
          refine tl (v_move rfl) ?_
          refine tl_gskip 113 rfl rfl rfl ?_
          refine tl (v_pick_f rfl rfl) ?_
          refine tl (v_assign rfl) ?_
          refine tl_nil ?_
          exact tx_cut hK470 (.refl _) (trivial) ⟨rfl, rfl, rfl, rfl, rfl, rfl, rfl, rfl, show some (Value.bool false) = some (Value.bool (decide ((((((moduleP b s kind).2) = 0) ∧ (((moduleP b (Sig.mk u v) kind).2) = 0)) ∧ ((subB ((moduleP b s kind).1) ((moduleP b (Sig.mk u v) kind).1)) = true)) ∨ False))) by first | (simp [h472, h473]; done) | grind | (simp [h472, h473] <;> omega), trivial⟩ (fun w hw => hw)
        ·
         refine tl_gskip 104 rfl rfl rfl ?_
         refine tl_gskip 104 rfl rfl rfl ?_
         refine tl (v_pick_f rfl rfl) ?_
         refine tl (v_move rfl) ?_
         refine tl_gskip 108 rfl rfl rfl ?_
         refine tl_gskip 108 rfl rfl rfl ?_
         refine tl_gskip 108 rfl rfl rfl ?_
         refine tl (v_pick_f rfl rfl) ?_
         refine tl (v_move rfl) ?_
         refine tl_gskip 113 rfl rfl rfl ?_
         refine tl (v_pick_f rfl rfl) ?_
         refine tl (v_assign rfl) ?_
         refine tl_nil ?_
         exact tx_cut hK470 (.refl _) (trivial) ⟨rfl, rfl, rfl, rfl, rfl, rfl, rfl, rfl, show some (Value.bool false) = some (Value.bool (decide ((((((moduleP b s kind).2) = 0) ∧ (((moduleP b (Sig.mk u v) kind).2) = 0)) ∧ ((subB ((moduleP b s kind).1) ((moduleP b (Sig.mk u v) kind).1)) = true)) ∨ False))) by first | (simp [h472]; done) | grind | (simp [h472] <;> omega), trivial⟩ (fun w hw => hw)
       ·
        refine fun R476 hle477 hj475 => tc_weaken hle477 ?_
        refine tc_ret ?_
        refine tx_ret1 (.inl rfl) rfl rfl ?_
        have e478 : (decide ((((((moduleP b s kind).2) = 0) ∧ (((moduleP b (Sig.mk u v) kind).2) = 0)) ∧ ((subB ((moduleP b s kind).1) ((moduleP b (Sig.mk u v) kind).1)) = true)) ∨ False) : Bool) = true := by (have g_ := grows hb_ hs_ (Grow.sig hi2 hj2).1 (kind := kind) (by grind) (Grow.sig hi2 hj2).2; first | rfl | grind)
        exact fun w hw => ⟨congrArg Ending.returned (congrArg (fun x0 => Value.bool x0) e478), (hw.drop 4).weaken hle462⟩

end Go.Proofs.YtcbcdlajnmkioaaGreatDoor
