/- A part of the proof of the statement ModuleModules of isagogelaw19: functions walked, and plain laws on what they answer. -/
import Derived.Test.YtcbcdlajnmkioaaGreatDoorH
namespace Go.Proofs.YtcbcdlajnmkioaaGreatDoor
open Go Go.Proofs
set_option linter.unusedSimpArgs false
set_option linter.unusedVariables false
set_option maxRecDepth 20000
set_option maxHeartbeats 8000000
theorem ca24 : Callable Tryz.prog 24 := ⟨by kernel_rfl⟩
theorem ca76 : Callable Tryz.prog 76 := ⟨by kernel_rfl⟩
theorem eK : kG Tryz.prog 33 0 = some 0 := by kernel_rfl
theorem pW : kG Tryz.prog 33 1 = some 1 := by kernel_rfl
theorem iA : kR Tryz.prog 31 = some (false, 1) := by kernel_rfl
theorem yM : kR Tryz.prog 33 = some (true, 2) := by kernel_rfl
theorem tS : zG Tryz.prog 33 = some [.slice none 0 0, .slice none 0 0] := by kernel_rfl

def dI (n : Names) (s : Sig) : Bool := kC s.concepts n.concepts.length && kC s.roles n.roles.length
def rL (a b : List Int) : Bool := decide (∀ x ∈ a, x ∈ b)
def zO (s : Sig) (c : Concept) : Sig := ⟨(kS c (s.concepts, s.roles)).1, (kS c (s.concepts, s.roles)).2⟩
theorem pH (s : Sig) (c : Concept) : (zO s c).concepts.length ≤ s.concepts.length + jW c ∧ (zO s c).roles.length ≤ s.roles.length + jW c := nX c _
theorem kE {b : Base} {i : Nat} {x : Incl} (hx : b.incls[i]? = some x) : x.sub ∈ xM b ∧ x.sup ∈ xM b := by
  have := List.mem_of_getElem? hx
  simp only [xM, wH, List.mem_append, List.mem_flatMap]
  exact ⟨.inl ⟨x, this, by simp⟩, .inl ⟨x, this, by simp⟩⟩
theorem wB {b : Base} {i : Nat} {x : Fact} (hx : b.facts[i]? = some x) : x.con ∈ xM b := by
  have := List.mem_of_getElem? hx
  simp only [xM, wF, List.mem_append, List.mem_map]
  exact .inr ⟨x, this, rfl⟩
theorem BaseOk.incl {b : Base} (h : BaseOk b) {i : Nat} {x : Incl} (hx : b.incls[i]? = some x) : (nnC x.sub = true ∧ jW x.sub ≤ 400) ∧ (nnC x.sup = true ∧ jW x.sup ≤ 400) := by
  have h1 := h.concepts _ (kE hx).1
  have h2 := h.concepts _ (kE hx).2
  exact ⟨⟨fZ _ _ _ rfl h1.2.2, h1.1⟩, ⟨fZ _ _ _ rfl h2.2.2, h2.1⟩⟩
theorem BaseOk.fact {b : Base} (h : BaseOk b) {i : Nat} {x : Fact} (hx : b.facts[i]? = some x) : nnC x.con = true ∧ jW x.con ≤ 400 := by
  have h1 := h.concepts _ (wB hx)
  exact ⟨fZ _ _ _ rfl h1.2.2, h1.1⟩
theorem BaseOk.role {b : Base} (h : BaseOk b) {i : Nat} {x : RoleIncl} (hx : b.roles[i]? = some x) : 0 ≤ x.sub ∧ 0 ≤ x.sup := by
  have := h.roles _ (List.mem_of_getElem? hx)
  exact ⟨this.1.1, this.2.1⟩
theorem BaseOk.link {b : Base} (h : BaseOk b) {i : Nat} {x : Link} (hx : b.links[i]? = some x) : 0 ≤ x.role := (h.links _ (List.mem_of_getElem? hx)).1
def wQ (b : Base) (k : Nat) (s : Sig) : Sig :=
  match b.incls[k]? with
  | some x => zO (zO s x.sub) x.sup
  | none => match b.roles[k - b.incls.length]? with
    | some x => ⟨s.concepts, wS (wS s.roles (x.sub / 2)) (x.sup / 2)⟩
    | none => match b.facts[k - b.incls.length - b.roles.length]? with
      | some x => zO s x.con
      | none => match b.links[k - b.incls.length - b.roles.length - b.facts.length]? with
        | some x => ⟨s.concepts, wS s.roles x.role⟩
        | none => s
theorem nZ {b : Base} (h : BaseOk b) (k : Nat) (s : Sig) : (wQ b k s).concepts.length ≤ s.concepts.length + 800 ∧ (wQ b k s).roles.length ≤ s.roles.length + 800 := by
  unfold wQ
  split
  · rename_i x hx
    have h1 := pH s x.sub; have h2 := pH (zO s x.sub) x.sup; have h3 := h.incl hx; omega
  · split
    · rename_i x hx
      have h1 := vC (l := s.roles) (n := x.sub / 2); have h2 := vC (l := wS s.roles (x.sub / 2)) (n := x.sup / 2); exact ⟨by simp, by simp only; omega⟩
    · split
      · rename_i x hx
        have h1 := pH s x.con; have h3 := h.fact hx; omega
      · split
        · rename_i x hx
          have h1 := vC (l := s.roles) (n := x.role); exact ⟨by simp, by simp only; omega⟩
        · omega
def jP (b : Base) (l : List Int) (s : Sig) : Sig := l.foldl (fun s k => wQ b k.toNat s) s
theorem iB {b : Base} {l : List Int} {i : Nat} {x : Int} (h : l[i]? = some x) (s : Sig) : jP b (l.take (i + 1)) s = wQ b x.toNat (jP b (l.take i) s) := by rw [jQ h]; simp [jP]

theorem bY {R : RO} {G : List Res} {w : World} {c_n : List Value} (n : Names) {c_s : List Value} (s : Sig) (hr_n : kNames.rep R n c_n) (hr_s : kSig.rep R s c_s) (hw : Own w R (G)) :
    Calls Tryz.prog 11 [.agg c_n.toArray, .agg c_s.toArray].toArray w (kK R G (.bool (dI n s))) := by
 obtain ⟨A1, d2, A5, d6, A9, d10, rfl, hs3, hs7, hs11⟩ := id hr_n
 have z4 := hs3.size
 unfold big at z4
 have z8 := hs7.size
 unfold big at z8
 have z12 := hs11.size
 unfold big at z12
 obtain ⟨A13, d14, A17, d18, rfl, hs15, hs19⟩ := id hr_s
 have z16 := hs15.size
 unfold big at z16
 have z20 := hs19.size
 unfold big at z20
 refine xH (vs := [.agg #[.slice A1 n.concepts.length d2, .slice A5 n.roles.length d6, .slice A9 n.inds.length d10], .agg #[.slice A13 s.concepts.length d14, .slice A17 s.roles.length d18]]) Tryz.func11 rfl rfl rfl ?_ hw
 refine qE <| qA ?_
 refine qW (l := [.slice A1 n.concepts.length d2, .slice A5 n.roles.length d6, .slice A9 n.inds.length d10]) rfl rfl fun b21 => ?_
 refine qW (l := [.slice A13 s.concepts.length d14, .slice A17 s.roles.length d18]) rfl rfl fun b22 => ?_
 refine tl (qD rfl) ?_
 refine qB <| qC ?_
 refine vH [(0, .agg #[.slice A1 n.concepts.length d2, .slice A5 n.roles.length d6, .slice A9 n.inds.length d10]), (1, .agg #[.slice A13 s.concepts.length d14, .slice A17 s.roles.length d18]), (4, .bool (decide (((kC s.concepts (n.concepts.length : Int)) = true) ∧ ((kC s.roles (n.roles.length : Int)) = true))))] (.blk b22 [.slice A13 s.concepts.length d14, .slice A17 s.roles.length d18] 33 :: .blk b21 [.slice A1 n.concepts.length d2, .slice A5 n.roles.length d6, .slice A9 n.inds.length d10] 24 :: G) (fun _ => True) (fun K hK23 hE24 => ?_) ?_
 refine qA ?_
 refine tl (qH 0 rfl eK rfl) ?_
 refine tl (jM 0 rfl iA rfl rfl) ?_
 refine tl (qH 0 rfl bN rfl) ?_
 refine tl (jM 1 rfl uO rfl rfl) ?_
 refine tl (jJ rfl uK) ?_
 refine xC ca24 rfl (fun w hw => gG s.concepts (n.concepts.length : Int) hs15 (by unfold i64; omega) hw) rfl ?_
 refine tl (qG rfl) ?_
 refine kQ 11 rfl (fun h25 => ?_) (fun h25 => ?_)
 refine qJ 11 rfl rfl ?_
 refine tl (qH 1 rfl pW rfl) ?_
 refine qJ 11 rfl rfl ?_
 refine tl (jM 0 rfl iA rfl rfl) ?_
 refine qJ 11 rfl rfl ?_
 refine tl (qH 1 rfl pP rfl) ?_
 refine qJ 11 rfl rfl ?_
 refine tl (jM 1 rfl uO rfl rfl) ?_
 refine qJ 11 rfl rfl ?_
 refine tl (jJ rfl uK) ?_
 refine qJ 11 rfl rfl ?_
 refine xC ca24 rfl (fun w hw => gG s.roles (n.roles.length : Int) hs19 (by unfold i64; omega) hw) rfl ?_
 refine tl (qR rfl rfl) ?_
 refine tl (qD rfl) ?_
 refine qB ?_
 exact xW hK23 (.refl _) (trivial) ⟨rfl, rfl, show some (Value.bool (kC s.roles (n.roles.length : Int))) = some (Value.bool (decide (((kC s.concepts (n.concepts.length : Int)) = true) ∧ ((kC s.roles (n.roles.length : Int)) = true)))) by first | (simp [h25]; done) | grind | (simp [h25] <;> omega), trivial⟩ (fun w hw => hw)
 refine qF 11 rfl rfl rfl ?_
 refine qF 11 rfl rfl rfl ?_
 refine qF 11 rfl rfl rfl ?_
 refine qF 11 rfl rfl rfl ?_
 refine qF 11 rfl rfl rfl ?_
 refine qF 11 rfl rfl rfl ?_
 refine tl (qO rfl rfl) ?_
 refine tl (qD rfl) ?_
 refine qB ?_
 exact xW hK23 (.refl _) (trivial) ⟨rfl, rfl, show some (Value.bool false) = some (Value.bool (decide (((kC s.concepts (n.concepts.length : Int)) = true) ∧ ((kC s.roles (n.roles.length : Int)) = true)))) by first | (simp [h25]; done) | grind | (simp [h25] <;> omega), trivial⟩ (fun w hw => hw)
 refine fun R27 hle28 hj26 => jH hle28 ?_
 refine qV ?_
 refine xB (.inl rfl) rfl rfl ?_
 have e29 : (decide (((kC s.concepts (n.concepts.length : Int)) = true) ∧ ((kC s.roles (n.roles.length : Int)) = true)) : Bool) = dI n s := by first | rfl | grind [dI]
 exact fun w hw => ⟨congrArg Ending.returned (congrArg (fun x0 => Value.bool x0) e29), hw.drop 2⟩

theorem uQ {R : RO} {G : List Res} {w : World} {A_a : Option Addr} {d_a : Nat} (a : List (Int)) {A_b : Option Addr} {d_b : Nat} (b : List (Int)) (hs_a : SlAt kInt R A_a a) (hs_b : SlAt kInt R A_b b) (hw : Own w R (G)) :
    Calls Tryz.prog 15 [.slice A_a a.length d_a, .slice A_b b.length d_b].toArray w (kK R G (.bool (rL a b))) := by
 have hz_a := hs_a.size
 unfold big at hz_a
 have hz_b := hs_b.size
 unfold big at hz_b
 refine xH (vs := [.slice A_a a.length d_a, .slice A_b b.length d_b]) Tryz.func15 rfl rfl rfl ?_ hw
 refine qE <| qA ?_
 refine tl (qD rfl) ?_
 refine qB <| qC <| qE <| qE <| qA ?_
 refine tl (qG rfl) ?_
 refine tl (jJ rfl pL) ?_
 refine tl (qG rfl) ?_
 refine qB <| qC <| qX ?_
 refine jF ?_
 refine jN (fun i : Nat => a.length - i) (fun i : Nat => [(1, .slice A_b b.length d_b), (7, .slice A_a a.length d_a), (8, .int .i64 (a.length : Int)), (9, .int .i64 (i : Int))]) (fun i : Nat => (G)) (fun (i : Nat) => i ≤ a.length ∧ ∀ y ∈ a.take i, y ∈ b) (0) ⟨rfl, rfl, rfl, rfl, trivial⟩ (by exact ⟨by omega, by simp⟩) (fun w hw => hw) ?_
 rintro i hI1 ih2
 show TC Tryz.prog _ _ _ [] [(1, .slice A_b b.length d_b), (7, .slice A_a a.length d_a), (8, .int .i64 (a.length : Int)), (9, .int .i64 (i : Int))] R (G)
 obtain ⟨hi1, hi2⟩ := hI1
 refine qE <| qA ?_
 refine tl (jR rfl rfl rfl) ?_
 refine qB <| qC <| qE ?_
 refine qP 10 rfl (fun h5 => ?_) (fun h5 => ?_)
 refine xE rfl ?_
 refine qZ <| qC <| qE <| qX <| qE <| qA ?_
 have hb11 : i < a.length := by omega
 obtain ⟨x6, hx7⟩ : ∃ x, a[i]? = some x := ⟨_, List.getElem?_eq_getElem hb11⟩
 obtain ⟨c8, hr9, ha10⟩ := hs_a.get _ x6 hx7
 obtain ⟨rfl, i12⟩ := hr9
 unfold i64 at i12
 refine tl (jV (i := i) hs_a rfl rfl rfl pL hb11) ?_
 refine tl (yN 0 ha10 rfl ld3 rfl rfl) ?_
 refine tl (qD rfl) ?_
 refine qB <| qC <| qE <| qA ?_
 refine tl (qG rfl) ?_
 refine tl (qG rfl) ?_
 refine xC qJ4 rfl (fun w hw => kB b x6 hs_b (by unfold i64; omega) hw) rfl ?_
 refine tl (wZ rfl) ?_
 refine qB <| qC ?_
 refine qP 16 rfl (fun h13 => ?_) (fun h13 => ?_)
 refine xE rfl ?_
 refine qE <| qA ?_
 refine tl (qD rfl) ?_
 refine qB <| qC <| qV <| qN <| qI <| qI <| qN <| qI ?_
 refine xB (.inl rfl) rfl rfl ?_
 have e14 : (false : Bool) = rL a b := by (rw [eq_comm]; unfold rL; rw [decide_eq_false_iff_not]; intro h_; have h2_ := h_ _ (List.mem_of_getElem? hx7); grind)
 exact fun w hw => ⟨congrArg Ending.returned (congrArg (fun x0 => Value.bool x0) e14), hw⟩
 refine xV rfl ?_
 refine qZ <| jC <| qC <| qA ?_
 refine tl (jT rfl rfl (by omega) (by omega)) ?_
 refine tl (qG rfl) ?_
 refine qB ?_
 refine xQ ?_
 exact fun a w ha hw => ih2.out (i + 1) (by exact ⟨by omega, vQ hi2 hx7 (by grind)⟩) (by (try dsimp only); omega) a w (ha.sub (xL ⟨rfl, rfl, rfl, rfl, trivial⟩)) (hw)
 refine xV rfl ?_
 refine jE <| qK <| qK <| xG <| qC <| qE <| qA ?_
 refine tl (qD rfl) ?_
 refine qB <| qC <| qV ?_
 refine xB (.inl rfl) rfl rfl ?_
 have e15 : (true : Bool) = rL a b := by (rw [xF (by assumption) (by assumption)] at hi2; rw [eq_comm]; unfold rL; rw [decide_eq_true_eq]; exact hi2)
 exact fun w hw => ⟨congrArg Ending.returned (congrArg (fun x0 => Value.bool x0) e15), hw⟩

theorem zU {R : RO} {G : List Res} {w : World} (s : Sig) {A1_s : Option Addr} {c1_s : Nat} {l1_s : List Value} {A2_s : Option Addr} {c2_s : Nat} {l2_s : List Value} {c_c : List Value} (c : Concept) (hv1_s : kInt.reps R s.concepts l1_s) (hv2_s : kInt.reps R s.roles l2_s) (hr_c : kConcept.rep R c c_c) (hb : s.concepts.length + jW c ≤ 1000000 ∧ s.roles.length + jW c ≤ 1000000) (hn : nnC c = true) (hw : Own w R (.vec (.slice A1_s s.concepts.length c1_s) s.concepts.length 3 1 l1_s :: .vec (.slice A2_s s.roles.length c2_s) s.roles.length 3 1 l2_s :: G)) :
    Calls Tryz.prog 76 [.agg #[.slice A1_s s.concepts.length c1_s, .slice A2_s s.roles.length c2_s], .agg c_c.toArray].toArray w (gZ R G (fun v_ R' L_ => ∃ (A_01 : Option Addr) (c_01 : Nat) (l_01 : List Value) (A_02 : Option Addr) (c_02 : Nat) (l_02 : List Value), v_ = (.agg #[.slice A_01 ((zO s c).concepts.length) c_01, .slice A_02 ((zO s c).roles.length) c_02] : Value) ∧ L_ = ([.vec (.slice A_01 ((zO s c).concepts.length) c_01) ((zO s c).concepts.length) 3 1 l_01, .vec (.slice A_02 ((zO s c).roles.length) c_02) ((zO s c).roles.length) 3 1 l_02] : List Res) ∧ kInt.reps R' (zO s c).concepts l_01 ∧ kInt.reps R' (zO s c).roles l_02)) := by
 obtain ⟨A3, d4, rfl, i5, i6, hs7⟩ := qM hr_c
 unfold i64 at i5 i6
 have z8 := hs7.size
 unfold big at z8
 refine xH (vs := [.agg #[.slice A1_s s.concepts.length c1_s, .slice A2_s s.roles.length c2_s], .agg #[.int .i64 c.op, .int .i64 c.n, .slice A3 c.args.length d4]]) Tryz.func76 rfl rfl rfl ?_ hw
 refine qE <| qA ?_
 refine qW (l := [.slice A1_s s.concepts.length c1_s, .slice A2_s s.roles.length c2_s]) rfl rfl fun b11 => ?_
 refine qW (l := [.int .i64 c.op, .int .i64 c.n, .slice A3 c.args.length d4]) rfl rfl fun b12 => ?_
 refine qS tS rfl fun b13 => ?_
 refine qB <| qC <| qE <| qA ?_
 refine tl (qQ 1 [.int .i64 c.op, .int .i64 c.n, .slice A3 c.args.length d4] rfl vU rfl rfl) ?_
 refine tl (qH 0 rfl eK rfl) ?_
 refine tl (jM 2 rfl iA rfl rfl) ?_
 refine tl (qH 1 rfl pW rfl) ?_
 refine tl (jM 2 rfl iA rfl rfl) ?_
 refine tR (.vec (.slice A1_s s.concepts.length c1_s) s.concepts.length 3 1 l1_s :: .vec (.slice A2_s s.roles.length c2_s) s.roles.length 3 1 l2_s :: .blk b13 [.slice none 0 0, .slice none 0 0] 33 :: .blk b12 [.int .i64 c.op, .int .i64 c.n, .slice A3 c.args.length d4] 37 :: .blk b11 [.slice A1_s s.concepts.length c1_s, .slice A2_s s.roles.length c2_s] 33 :: G) (fun w hw => ((hw.pick 4).pick 4)) ?_
 refine xD ca97 rfl (fun w hw => bI c s.concepts s.roles hr_c hv1_s hv2_s (by first | assumption | omega) (by first | assumption | omega) hw) rfl ?_
 rintro _ R15 _ hle16 ⟨A_z14_0, c_z14_0, l_z14_0, A_z14_1, c_z14_1, l_z14_1, rfl, rfl, hv_z14_0, hv_z14_1⟩
 refine tl (qG rfl) ?_
 refine tl (jG rfl rfl) ?_
 refine tl (jG rfl rfl) ?_
 refine tl (qH 0 rfl eK rfl) ?_
 refine xN 4 [.slice A_z14_0 (((kS c (s.concepts, s.roles)).1).length) c_z14_0, .slice A2_s s.roles.length c2_s] rfl rfl iA rfl rfl rfl rfl rfl rfl ?_
 refine tl (qH 1 rfl pW rfl) ?_
 refine xN 4 [.slice A_z14_0 (((kS c (s.concepts, s.roles)).1).length) c_z14_0, .slice A_z14_1 (((kS c (s.concepts, s.roles)).2).length) c_z14_1] rfl rfl iA rfl rfl rfl rfl rfl rfl ?_
 refine qB <| qC <| qE <| qA ?_
 refine tl (qQ 4 [.slice A_z14_0 (((kS c (s.concepts, s.roles)).1).length) c_z14_0, .slice A_z14_1 (((kS c (s.concepts, s.roles)).2).length) c_z14_1] rfl yM rfl rfl) ?_
 refine xN 2 [.slice A_z14_0 (((kS c (s.concepts, s.roles)).1).length) c_z14_0, .slice A_z14_1 (((kS c (s.concepts, s.roles)).2).length) c_z14_1] rfl rfl yM rfl rfl rfl rfl rfl rfl ?_
 refine qB <| qC <| qV ?_
 refine kO (cells := [.slice A_z14_0 (((kS c (s.concepts, s.roles)).1).length) c_z14_0, .slice A_z14_1 (((kS c (s.concepts, s.roles)).2).length) c_z14_1]) 2 (.inl rfl) rfl rfl yM rfl ?_
 have e17 : (Sig.mk ((kS c (s.concepts, s.roles)).1) ((kS c (s.concepts, s.roles)).2) : Sig) = zO s c := by rfl
 intro w hw
 exact ⟨_, _, [.vec (.slice A_z14_0 (((kS c (s.concepts, s.roles)).1).length) c_z14_0) (((kS c (s.concepts, s.roles)).1).length) 3 1 l_z14_0, .vec (.slice A_z14_1 (((kS c (s.concepts, s.roles)).2).length) c_z14_1) (((kS c (s.concepts, s.roles)).2).length) 3 1 l_z14_1], rfl, hle16, (((((hw.pick 2).tail.pick 2).tail.pick 2).tail.pick 1).pick 1), A_z14_0, c_z14_0, l_z14_0, A_z14_1, c_z14_1, l_z14_1, (congrArg (fun (z0_ : Sig) => (.agg #[.slice A_z14_0 (Sig.concepts z0_).length c_z14_0, .slice A_z14_1 (Sig.roles z0_).length c_z14_1] : Value)) e17), (congrArg (fun (z0_ : Sig) => ([.vec (.slice A_z14_0 (Sig.concepts z0_).length c_z14_0) (Sig.concepts z0_).length 3 1 l_z14_0, .vec (.slice A_z14_1 (Sig.roles z0_).length c_z14_1) (Sig.roles z0_).length 3 1 l_z14_1] : List Res)) e17), (Eq.mp (congrArg (fun z => kInt.reps R15 (Sig.concepts z) l_z14_0) e17) hv_z14_0), (Eq.mp (congrArg (fun z => kInt.reps R15 (Sig.roles z) l_z14_1) e17) hv_z14_1)⟩

theorem bK {R : RO} {G : List Res} {w : World} {c_b : List Value} (b : Base) (k : Int) (s : Sig) {A1_s : Option Addr} {c1_s : Nat} {l1_s : List Value} {A2_s : Option Addr} {c2_s : Nat} {l2_s : List Value} (hr_b : kBase.rep R b c_b) (hi_k : i64 k) (hv1_s : kInt.reps R s.concepts l1_s) (hv2_s : kInt.reps R s.roles l2_s) (hB : BaseOk b) (hk : 0 ≤ k ∧ k < xT b) (hb : s.concepts.length ≤ 999000 ∧ s.roles.length ≤ 999000) (hw : Own w R (.vec (.slice A1_s s.concepts.length c1_s) s.concepts.length 3 1 l1_s :: .vec (.slice A2_s s.roles.length c2_s) s.roles.length 3 1 l2_s :: G)) :
    Calls Tryz.prog 56 [.agg c_b.toArray, .int .i64 k, .agg #[.slice A1_s s.concepts.length c1_s, .slice A2_s s.roles.length c2_s]].toArray w (gZ R G (fun v_ R' L_ => ∃ (A_01 : Option Addr) (c_01 : Nat) (l_01 : List Value) (A_02 : Option Addr) (c_02 : Nat) (l_02 : List Value), v_ = (.agg #[.slice A_01 ((wQ b k.toNat s).concepts.length) c_01, .slice A_02 ((wQ b k.toNat s).roles.length) c_02] : Value) ∧ L_ = ([.vec (.slice A_01 ((wQ b k.toNat s).concepts.length) c_01) ((wQ b k.toNat s).concepts.length) 3 1 l_01, .vec (.slice A_02 ((wQ b k.toNat s).roles.length) c_02) ((wQ b k.toNat s).roles.length) 3 1 l_02] : List Res) ∧ kInt.reps R' (wQ b k.toNat s).concepts l_01 ∧ kInt.reps R' (wQ b k.toNat s).roles l_02)) := by
 obtain ⟨c1, A3, d4, A6, d7, A9, d10, A12, d13, rfl, hr2, hs5, hs8, hs11, hs14⟩ := id hr_b
 have z27 := hs5.size
 unfold big at z27
 have z28 := hs8.size
 unfold big at z28
 have z29 := hs11.size
 unfold big at z29
 have z30 := hs14.size
 unfold big at z30
 obtain ⟨A15, d16, A19, d20, A23, d24, rfl, hs17, hs21, hs25⟩ := id hr2
 have z18 := hs17.size
 unfold big at z18
 have z22 := hs21.size
 unfold big at z22
 have z26 := hs25.size
 unfold big at z26
 unfold i64 at hi_k
 unfold xT at hk
 refine xH (vs := [.agg #[.slice A15 b.names.concepts.length d16, .slice A19 b.names.roles.length d20, .slice A23 b.names.inds.length d24, .slice A3 b.incls.length d4, .slice A6 b.roles.length d7, .slice A9 b.facts.length d10, .slice A12 b.links.length d13], .int .i64 k, .agg #[.slice A1_s s.concepts.length c1_s, .slice A2_s s.roles.length c2_s]]) Tryz.func56 rfl rfl rfl ?_ hw
 refine qE <| qA ?_
 refine qW (l := [.slice A15 b.names.concepts.length d16, .slice A19 b.names.roles.length d20, .slice A23 b.names.inds.length d24, .slice A3 b.incls.length d4, .slice A6 b.roles.length d7, .slice A9 b.facts.length d10, .slice A12 b.links.length d13]) rfl rfl fun b35 => ?_
 refine qW (l := [.slice A1_s s.concepts.length c1_s, .slice A2_s s.roles.length c2_s]) rfl rfl fun b36 => ?_
 refine qS tS rfl fun b37 => ?_
 refine qB <| qC <| qE <| qA ?_
 refine tl (qG rfl) ?_
 refine tl (qD rfl) ?_
 refine qB <| qC <| qE <| qE <| qA ?_
 refine tl (qG rfl) ?_
 refine tl (qH 3 rfl yK rfl) ?_
 refine tl (jM 2 rfl fG rfl rfl) ?_
 refine tl (jJ rfl eS) ?_
 refine tl (jR rfl rfl rfl) ?_
 refine qB <| qC ?_
 refine qP 13 rfl (fun h38 => ?_) (fun h38 => ?_)
 refine xE rfl ?_
 refine qE ?_
 refine vS R (.blk b37 [.slice none 0 0, .slice none 0 0] 33 :: .blk b36 [.slice A1_s s.concepts.length c1_s, .slice A2_s s.roles.length c2_s] 33 :: .blk b35 [.slice A15 b.names.concepts.length d16, .slice A19 b.names.roles.length d20, .slice A23 b.names.inds.length d24, .slice A3 b.incls.length d4, .slice A6 b.roles.length d7, .slice A9 b.facts.length d10, .slice A12 b.links.length d13] 30 :: G) 15 mixed ?_
 refine td 0 rfl (by kernel_rfl) (qQ 1 [.slice A1_s s.concepts.length c1_s, .slice A2_s s.roles.length c2_s] rfl yM rfl rfl) (fun w hw => (((((hw.pick 3).tail.pick 3).tail.pick 2).pick 2).pick 2)) ?_
 refine td 1 rfl (by kernel_rfl) (qH 3 rfl yK rfl) (fun w hw => (((((hw.pick 3).tail.pick 3).tail.pick 2).pick 2).pick 2)) ?_
 refine td 2 rfl (by kernel_rfl) (jM 2 rfl fG rfl rfl) (fun w hw => (((((hw.pick 3).tail.pick 3).tail.pick 2).pick 2).pick 2)) ?_
 refine td 3 rfl (by kernel_rfl) (qG rfl) (fun w hw => (((((hw.pick 3).tail.pick 3).tail.pick 2).pick 2).pick 2)) ?_
 have hb44 : 0 ≤ k ∧ (k).toNat < b.incls.length := by omega
 obtain ⟨x39, hx40⟩ : ∃ x, b.incls[(k).toNat]? = some x := ⟨_, List.getElem?_eq_getElem hb44.2⟩
 obtain ⟨c41, hr42, ha43⟩ := hs5.get _ x39 hx40
 obtain ⟨c45, c46, rfl, hr47, hr48⟩ := id hr42
 obtain ⟨A49, d50, rfl, i51, i52, hs53⟩ := qM hr47
 unfold i64 at i51 i52
 have z54 := hs53.size
 unfold big at z54
 obtain ⟨A55, d56, rfl, i57, i58, hs59⟩ := qM hr48
 unfold i64 at i57 i58
 have z60 := hs59.size
 unfold big at z60
 have hf61 := hB.incl hx40
 refine td 4 rfl (by kernel_rfl) (zH hs5 rfl rfl rfl eS hb44.1 hb44.2) (fun w hw => (((((hw.pick 3).tail.pick 3).tail.pick 2).pick 2).pick 2)) ?_
 refine td 5 rfl (by kernel_rfl) (qH _ rfl lS rfl) (fun w hw => (((((hw.pick 3).tail.pick 3).tail.pick 2).pick 2).pick 2)) ?_
 refine td 6 rfl (by kernel_rfl) (jA 0 [.int .i64 x39.sub.op, .int .i64 x39.sub.n, .slice A49 x39.sub.args.length d50] ha43 rfl vU rfl rfl) (fun w hw => (((((hw.pick 3).tail.pick 3).tail.pick 2).pick 2).pick 2)) ?_
 refine td 8 rfl (by kernel_rfl) (qH 3 rfl yK rfl) (fun w hw => (((((hw.pick 3).tail.pick 3).tail.pick 2).pick 2).pick 2)) ?_
 refine td 9 rfl (by kernel_rfl) (jM 2 rfl fG rfl rfl) (fun w hw => (((((hw.pick 3).tail.pick 3).tail.pick 2).pick 2).pick 2)) ?_
 refine td 10 rfl (by kernel_rfl) (qG rfl) (fun w hw => (((((hw.pick 3).tail.pick 3).tail.pick 2).pick 2).pick 2)) ?_
 have hb67 : 0 ≤ k ∧ (k).toNat < b.incls.length := by omega
 obtain ⟨x62, hx63⟩ : ∃ x, b.incls[(k).toNat]? = some x := ⟨_, List.getElem?_eq_getElem hb67.2⟩
 obtain ⟨c64, hr65, ha66⟩ := hs5.get _ x62 hx63
 obtain ⟨c68, c69, rfl, hr70, hr71⟩ := id hr65
 obtain ⟨A72, d73, rfl, i74, i75, hs76⟩ := qM hr70
 unfold i64 at i74 i75
 have z77 := hs76.size
 unfold big at z77
 obtain ⟨A78, d79, rfl, i80, i81, hs82⟩ := qM hr71
 unfold i64 at i80 i81
 have z83 := hs82.size
 unfold big at z83
 have hf84 := hB.incl hx63
 refine td 11 rfl (by kernel_rfl) (zH hs5 rfl rfl rfl eS hb67.1 hb67.2) (fun w hw => (((((hw.pick 3).tail.pick 3).tail.pick 2).pick 2).pick 2)) ?_
 refine td 12 rfl (by kernel_rfl) (qH _ rfl lT rfl) (fun w hw => (((((hw.pick 3).tail.pick 3).tail.pick 2).pick 2).pick 2)) ?_
 refine td 13 rfl (by kernel_rfl) (jA 3 [.int .i64 x62.sup.op, .int .i64 x62.sup.n, .slice A78 x62.sup.args.length d79] ha66 rfl vU rfl rfl) (fun w hw => (((((hw.pick 3).tail.pick 3).tail.pick 2).pick 2).pick 2)) ?_
 refine td1 7 (by kernel_rfl) rfl ?_
 refine tR (.vec (.slice A1_s s.concepts.length c1_s) s.concepts.length 3 1 l1_s :: .vec (.slice A2_s s.roles.length c2_s) s.roles.length 3 1 l2_s :: .blk b37 [.slice none 0 0, .slice none 0 0] 33 :: .blk b36 [.slice A1_s s.concepts.length c1_s, .slice A2_s s.roles.length c2_s] 33 :: .blk b35 [.slice A15 b.names.concepts.length d16, .slice A19 b.names.roles.length d20, .slice A23 b.names.inds.length d24, .slice A3 b.incls.length d4, .slice A6 b.roles.length d7, .slice A9 b.facts.length d10, .slice A12 b.links.length d13] 30 :: G) (fun w hw => ((hw.pick 4).pick 4)) ?_
 refine xD ca76 rfl (fun w hw => zU (Sig.mk s.concepts s.roles) x39.sub hv1_s hv2_s hr47 (by first | omega | grind | (have a_ := pH (Sig.mk s.concepts s.roles) x39.sub; simp only at a_ ⊢; first | omega | grind)) (by first | omega | grind | (have a_ := pH (Sig.mk s.concepts s.roles) x39.sub; simp only at a_ ⊢; first | omega | grind)) hw) rfl ?_
 rintro _ R86 _ hle87 ⟨A_z85_01, c_z85_01, l_z85_01, A_z85_02, c_z85_02, l_z85_02, rfl, rfl, hv_z85_01, hv_z85_02⟩
 try replace hs8 := hs8.mono hle87
 try replace hs11 := hs11.mono hle87
 try replace hs14 := hs14.mono hle87
 try replace hv1_s := Kd.reps_mono hle87 hv1_s
 try replace hv2_s := Kd.reps_mono hle87 hv2_s
 try replace hr71 := kConcept.mono _ _ _ _ hle87 hr71
 refine qB ?_
 refine qY (fun w hw => (hw.drop 2).weaken hle87) ?_
 refine td1 14 (by kernel_rfl) rfl ?_
 refine xD ca76 rfl (fun w hw => zU (Sig.mk ((zO (Sig.mk s.concepts s.roles) x39.sub).concepts) ((zO (Sig.mk s.concepts s.roles) x39.sub).roles)) x62.sup hv_z85_01 hv_z85_02 hr71 (by first | omega | grind | (have a_ := pH (Sig.mk s.concepts s.roles) x39.sub; simp only at a_ ⊢; first | omega | grind)) (by first | omega | grind | (have a_ := pH (Sig.mk s.concepts s.roles) x39.sub; simp only at a_ ⊢; first | omega | grind)) hw) rfl ?_
 rintro _ R89 _ hle90 ⟨A_z88_01, c_z88_01, l_z88_01, A_z88_02, c_z88_02, l_z88_02, rfl, rfl, hv_z88_01, hv_z88_02⟩
 try replace hs8 := hs8.mono hle90
 try replace hs11 := hs11.mono hle90
 try replace hs14 := hs14.mono hle90
 try replace hv1_s := Kd.reps_mono hle90 hv1_s
 try replace hv2_s := Kd.reps_mono hle90 hv2_s
 have hle91 := hle87.trans hle90
 refine qB ?_
 refine qY (fun w hw => (hw.drop 2).weaken hle91) ?_
 refine td1 15 (by kernel_rfl) rfl ?_
 refine xN 2 [.slice A_z88_01 ((zO (Sig.mk ((zO (Sig.mk s.concepts s.roles) x39.sub).concepts) ((zO (Sig.mk s.concepts s.roles) x39.sub).roles)) x62.sup).concepts.length) c_z88_01, .slice A_z88_02 ((zO (Sig.mk ((zO (Sig.mk s.concepts s.roles) x39.sub).concepts) ((zO (Sig.mk s.concepts s.roles) x39.sub).roles)) x62.sup).roles.length) c_z88_02] rfl rfl yM rfl rfl rfl rfl rfl rfl ?_
 refine qB ?_
 refine xZ ?_
 refine xK (by kernel_rfl) ?_
 refine qC <| qV <| qI ?_
 refine kO (cells := [.slice A_z88_01 ((zO (Sig.mk ((zO (Sig.mk s.concepts s.roles) x39.sub).concepts) ((zO (Sig.mk s.concepts s.roles) x39.sub).roles)) x62.sup).concepts.length) c_z88_01, .slice A_z88_02 ((zO (Sig.mk ((zO (Sig.mk s.concepts s.roles) x39.sub).concepts) ((zO (Sig.mk s.concepts s.roles) x39.sub).roles)) x62.sup).roles.length) c_z88_02]) 2 (.inl rfl) rfl rfl yM rfl ?_
 have e92 : (Sig.mk ((zO (Sig.mk ((zO (Sig.mk s.concepts s.roles) x39.sub).concepts) ((zO (Sig.mk s.concepts s.roles) x39.sub).roles)) x62.sup).concepts) ((zO (Sig.mk ((zO (Sig.mk s.concepts s.roles) x39.sub).concepts) ((zO (Sig.mk s.concepts s.roles) x39.sub).roles)) x62.sup).roles) : Sig) = wQ b k.toNat s := by (have q_ := hx63; rw [hx40] at q_; cases q_; unfold wQ; rw [hx40])
 intro w hw
 exact ⟨_, _, [.vec (.slice A_z88_01 ((zO (Sig.mk ((zO (Sig.mk s.concepts s.roles) x39.sub).concepts) ((zO (Sig.mk s.concepts s.roles) x39.sub).roles)) x62.sup).concepts.length) c_z88_01) ((zO (Sig.mk ((zO (Sig.mk s.concepts s.roles) x39.sub).concepts) ((zO (Sig.mk s.concepts s.roles) x39.sub).roles)) x62.sup).concepts.length) 3 1 l_z88_01, .vec (.slice A_z88_02 ((zO (Sig.mk ((zO (Sig.mk s.concepts s.roles) x39.sub).concepts) ((zO (Sig.mk s.concepts s.roles) x39.sub).roles)) x62.sup).roles.length) c_z88_02) ((zO (Sig.mk ((zO (Sig.mk s.concepts s.roles) x39.sub).concepts) ((zO (Sig.mk s.concepts s.roles) x39.sub).roles)) x62.sup).roles.length) 3 1 l_z88_02], rfl, hle91, (((((hw.pick 2).tail.pick 2).tail.pick 2).tail.pick 1).pick 1), A_z88_01, c_z88_01, l_z88_01, A_z88_02, c_z88_02, l_z88_02, (congrArg (fun (z0_ : Sig) => (.agg #[.slice A_z88_01 (Sig.concepts z0_).length c_z88_01, .slice A_z88_02 (Sig.roles z0_).length c_z88_02] : Value)) e92), (congrArg (fun (z0_ : Sig) => ([.vec (.slice A_z88_01 (Sig.concepts z0_).length c_z88_01) (Sig.concepts z0_).length 3 1 l_z88_01, .vec (.slice A_z88_02 (Sig.roles z0_).length c_z88_02) (Sig.roles z0_).length 3 1 l_z88_02] : List Res)) e92), (Eq.mp (congrArg (fun z => kInt.reps R89 (Sig.concepts z) l_z88_01) e92) hv_z88_01), (Eq.mp (congrArg (fun z => kInt.reps R89 (Sig.roles z) l_z88_02) e92) hv_z88_02)⟩
 refine xV rfl ?_
 refine qZ <| qC <| qE <| qA ?_
 refine tl (qG rfl) ?_
 refine tl (qH 3 rfl yK rfl) ?_
 refine tl (jM 2 rfl fG rfl rfl) ?_
 refine tl (jJ rfl eS) ?_
 refine tl (bV rfl rfl (by omega) (by omega)) ?_
 refine tl (qD rfl) ?_
 refine qB <| qC <| qE <| qE <| qA ?_
 refine tl (qG rfl) ?_
 refine tl (qH 4 rfl yL rfl) ?_
 refine tl (jM 2 rfl fH rfl rfl) ?_
 refine tl (jJ rfl eU) ?_
 refine tl (jR rfl rfl rfl) ?_
 refine qB <| qC ?_
 refine qP 38 rfl (fun h93 => ?_) (fun h93 => ?_)
 refine xE rfl ?_
 refine qE ?_
 refine vS R (.blk b37 [.slice none 0 0, .slice none 0 0] 33 :: .blk b36 [.slice A1_s s.concepts.length c1_s, .slice A2_s s.roles.length c2_s] 33 :: .blk b35 [.slice A15 b.names.concepts.length d16, .slice A19 b.names.roles.length d20, .slice A23 b.names.inds.length d24, .slice A3 b.incls.length d4, .slice A6 b.roles.length d7, .slice A9 b.facts.length d10, .slice A12 b.links.length d13] 30 :: G) 19 mixed ?_
 refine td 0 rfl (by kernel_rfl) (qH 1 rfl pW rfl) (fun w hw => (((((hw.pick 3).tail.pick 3).tail.pick 2).pick 2).pick 2)) ?_
 refine td 1 rfl (by kernel_rfl) (jM 1 rfl iA rfl rfl) (fun w hw => (((((hw.pick 3).tail.pick 3).tail.pick 2).pick 2).pick 2)) ?_
 refine td 2 rfl (by kernel_rfl) (qH 4 rfl yL rfl) (fun w hw => (((((hw.pick 3).tail.pick 3).tail.pick 2).pick 2).pick 2)) ?_
 refine td 3 rfl (by kernel_rfl) (jM 2 rfl fH rfl rfl) (fun w hw => (((((hw.pick 3).tail.pick 3).tail.pick 2).pick 2).pick 2)) ?_
 refine td 4 rfl (by kernel_rfl) (qG rfl) (fun w hw => (((((hw.pick 3).tail.pick 3).tail.pick 2).pick 2).pick 2)) ?_
 have hb99 : 0 ≤ k - (b.incls.length : Int) ∧ (k - (b.incls.length : Int)).toNat < b.roles.length := by omega
 obtain ⟨x94, hx95⟩ : ∃ x, b.roles[(k - (b.incls.length : Int)).toNat]? = some x := ⟨_, List.getElem?_eq_getElem hb99.2⟩
 obtain ⟨c96, hr97, ha98⟩ := hs8.get _ x94 hx95
 obtain ⟨rfl, i100, i101⟩ := id hr97
 unfold i64 at i100
 unfold i64 at i101
 have hf102 := hB.role hx95
 refine td 5 rfl (by kernel_rfl) (zH hs8 rfl rfl rfl eU hb99.1 hb99.2) (fun w hw => (((((hw.pick 3).tail.pick 3).tail.pick 2).pick 2).pick 2)) ?_
 refine td 6 rfl (by kernel_rfl) (qH _ rfl lU rfl) (fun w hw => (((((hw.pick 3).tail.pick 3).tail.pick 2).pick 2).pick 2)) ?_
 refine td 7 rfl (by kernel_rfl) (yN 0 ha98 rfl ld3 rfl rfl) (fun w hw => (((((hw.pick 3).tail.pick 3).tail.pick 2).pick 2).pick 2)) ?_
 refine td 8 rfl (by kernel_rfl) (dR rfl rfl (by omega) (by omega)) (fun w hw => (((((hw.pick 3).tail.pick 3).tail.pick 2).pick 2).pick 2)) ?_
 refine td 10 rfl (by kernel_rfl) (qH 4 rfl yL rfl) (fun w hw => (((((hw.pick 3).tail.pick 3).tail.pick 2).pick 2).pick 2)) ?_
 refine td 11 rfl (by kernel_rfl) (jM 2 rfl fH rfl rfl) (fun w hw => (((((hw.pick 3).tail.pick 3).tail.pick 2).pick 2).pick 2)) ?_
 refine td 12 rfl (by kernel_rfl) (qG rfl) (fun w hw => (((((hw.pick 3).tail.pick 3).tail.pick 2).pick 2).pick 2)) ?_
 have hb108 : 0 ≤ k - (b.incls.length : Int) ∧ (k - (b.incls.length : Int)).toNat < b.roles.length := by omega
 obtain ⟨x103, hx104⟩ : ∃ x, b.roles[(k - (b.incls.length : Int)).toNat]? = some x := ⟨_, List.getElem?_eq_getElem hb108.2⟩
 obtain ⟨c105, hr106, ha107⟩ := hs8.get _ x103 hx104
 obtain ⟨rfl, i109, i110⟩ := id hr106
 unfold i64 at i109
 unfold i64 at i110
 have hf111 := hB.role hx104
 refine td 13 rfl (by kernel_rfl) (zH hs8 rfl rfl rfl eU hb108.1 hb108.2) (fun w hw => (((((hw.pick 3).tail.pick 3).tail.pick 2).pick 2).pick 2)) ?_
 refine td 14 rfl (by kernel_rfl) (qH _ rfl lV rfl) (fun w hw => (((((hw.pick 3).tail.pick 3).tail.pick 2).pick 2).pick 2)) ?_
 refine td 15 rfl (by kernel_rfl) (yN 1 ha107 rfl ld3 rfl rfl) (fun w hw => (((((hw.pick 3).tail.pick 3).tail.pick 2).pick 2).pick 2)) ?_
 refine td 16 rfl (by kernel_rfl) (dR rfl rfl (by omega) (by omega)) (fun w hw => (((((hw.pick 3).tail.pick 3).tail.pick 2).pick 2).pick 2)) ?_
 refine td1 9 (by kernel_rfl) rfl ?_
 refine tR (.vec (.slice A2_s s.roles.length c2_s) s.roles.length 3 1 l2_s :: .blk b37 [.slice none 0 0, .slice none 0 0] 33 :: .blk b36 [.slice A1_s s.concepts.length c1_s, .slice A2_s s.roles.length c2_s] 33 :: .blk b35 [.slice A15 b.names.concepts.length d16, .slice A19 b.names.roles.length d20, .slice A23 b.names.inds.length d24, .slice A3 b.incls.length d4, .slice A6 b.roles.length d7, .slice A9 b.facts.length d10, .slice A12 b.links.length d13] 30 :: .vec (.slice A1_s s.concepts.length c1_s) s.concepts.length 3 1 l1_s :: G) (fun w hw => (hw.pick 4)) ?_
 refine xD ca16 rfl (fun w hw => kW s.roles (x94.sub / 2) hv2_s (by unfold i64; omega) (by first | omega | (have a_ := vC (l := s.roles) (n := x94.sub / 2); omega)) hw) rfl ?_
 rintro _ R113 _ hle114 ⟨A_z112_0, c_z112_0, l_z112_0, rfl, rfl, hv_z112_0⟩
 try replace hs11 := hs11.mono hle114
 try replace hs14 := hs14.mono hle114
 try replace hv1_s := Kd.reps_mono hle114 hv1_s
 try replace hv2_s := Kd.reps_mono hle114 hv2_s
 refine qB ?_
 refine qY (fun w hw => (((((hw.tail.pick 3).tail.pick 2).pick 2).pick 2)).weaken hle114) ?_
 refine td1 17 (by kernel_rfl) rfl ?_
 refine xD ca16 rfl (fun w hw => kW (wS s.roles (x94.sub / 2)) (x103.sup / 2) hv_z112_0 (by unfold i64; omega) (by first | omega | (have a_ := vC (l := s.roles) (n := x94.sub / 2); omega)) hw) rfl ?_
 rintro _ R116 _ hle117 ⟨A_z115_0, c_z115_0, l_z115_0, rfl, rfl, hv_z115_0⟩
 try replace hs11 := hs11.mono hle117
 try replace hs14 := hs14.mono hle117
 try replace hv1_s := Kd.reps_mono hle117 hv1_s
 try replace hv2_s := Kd.reps_mono hle117 hv2_s
 have hle118 := hle114.trans hle117
 refine qB ?_
 refine qY (fun w hw => (((((hw.tail.pick 3).tail.pick 2).pick 2).pick 2)).weaken hle118) ?_
 refine td 18 rfl (by kernel_rfl) (qH 1 rfl pW rfl) (fun w hw => (((((hw.tail.pick 3).tail.pick 2).pick 2).pick 2)).weaken hle118) ?_
 refine td1 19 (by kernel_rfl) rfl ?_
 refine xN 2 [.slice A1_s s.concepts.length c1_s, .slice A_z115_0 ((wS (wS s.roles (x94.sub / 2)) (x103.sup / 2)).length) c_z115_0] rfl rfl iA rfl rfl rfl rfl rfl rfl ?_
 refine qB ?_
 refine xZ ?_
 refine xK (by kernel_rfl) ?_
 refine qC <| qE <| qA ?_
 refine tl (qQ 2 [.slice A1_s s.concepts.length c1_s, .slice A_z115_0 ((wS (wS s.roles (x94.sub / 2)) (x103.sup / 2)).length) c_z115_0] rfl yM rfl rfl) ?_
 refine xN 1 [.slice A1_s s.concepts.length c1_s, .slice A_z115_0 ((wS (wS s.roles (x94.sub / 2)) (x103.sup / 2)).length) c_z115_0] rfl rfl yM rfl rfl rfl rfl rfl rfl ?_
 refine qB <| qC <| qV <| qI ?_
 refine kO (cells := [.slice A1_s s.concepts.length c1_s, .slice A_z115_0 ((wS (wS s.roles (x94.sub / 2)) (x103.sup / 2)).length) c_z115_0]) 1 (.inl rfl) rfl rfl yM rfl ?_
 have e119 : (Sig.mk s.concepts (wS (wS s.roles (x94.sub / 2)) (x103.sup / 2)) : Sig) = wQ b k.toNat s := by (have n1_ : b.incls[k.toNat]? = none := List.getElem?_eq_none (by omega); have q_ := hx95; have q2_ := hx104; rw [q_] at q2_; cases q2_; rw [show (k - (b.incls.length : Int)).toNat = k.toNat - b.incls.length by omega] at q_; unfold wQ; rw [n1_]; simp only []; rw [q_])
 intro w hw
 exact ⟨_, _, [.vec (.slice A1_s s.concepts.length c1_s) s.concepts.length 3 1 l1_s, .vec (.slice A_z115_0 ((wS (wS s.roles (x94.sub / 2)) (x103.sup / 2)).length) c_z115_0) ((wS (wS s.roles (x94.sub / 2)) (x103.sup / 2)).length) 3 1 l_z115_0], rfl, hle118, ((((hw.pick 1).tail.pick 1).tail.pick 1).tail.pick 1), A1_s, c1_s, l1_s, A_z115_0, c_z115_0, l_z115_0, (congrArg (fun (z0_ : Sig) => (.agg #[.slice A1_s (Sig.concepts z0_).length c1_s, .slice A_z115_0 (Sig.roles z0_).length c_z115_0] : Value)) e119), (congrArg (fun (z0_ : Sig) => ([.vec (.slice A1_s (Sig.concepts z0_).length c1_s) (Sig.concepts z0_).length 3 1 l1_s, .vec (.slice A_z115_0 (Sig.roles z0_).length c_z115_0) (Sig.roles z0_).length 3 1 l_z115_0] : List Res)) e119), (Eq.mp (congrArg (fun z => kInt.reps R116 (Sig.concepts z) l1_s) e119) hv1_s), (Eq.mp (congrArg (fun z => kInt.reps R116 (Sig.roles z) l_z115_0) e119) hv_z115_0)⟩
 refine xV rfl ?_
 refine qZ <| qC <| qE <| qA ?_
 refine tl (qG rfl) ?_
 refine tl (qH 4 rfl yL rfl) ?_
 refine tl (jM 2 rfl fH rfl rfl) ?_
 refine tl (jJ rfl eU) ?_
 refine tl (bV rfl rfl (by omega) (by omega)) ?_
 refine tl (qD rfl) ?_
 refine qB <| qC <| qE <| qE <| qA ?_
 refine tl (qG rfl) ?_
 refine tl (qH 5 rfl zB rfl) ?_
 refine tl (jM 2 rfl iZ rfl rfl) ?_
 refine tl (jJ rfl fI) ?_
 refine tl (jR rfl rfl rfl) ?_
 refine qB <| qC ?_
 refine qP 68 rfl (fun h120 => ?_) (fun h120 => ?_)
 refine xE rfl ?_
 refine qE ?_
 refine mN 7 mixed (by kernel_rfl) ?_
 refine ts (qQ 1 [.slice A1_s s.concepts.length c1_s, .slice A2_s s.roles.length c2_s] rfl yM rfl rfl) ?_
 refine ts (qH 5 rfl zB rfl) ?_
 refine ts (jM 2 rfl iZ rfl rfl) ?_
 refine ts (qG rfl) ?_
 have hb126 : 0 ≤ (k - (b.incls.length : Int)) - (b.roles.length : Int) ∧ ((k - (b.incls.length : Int)) - (b.roles.length : Int)).toNat < b.facts.length := by omega
 obtain ⟨x121, hx122⟩ : ∃ x, b.facts[((k - (b.incls.length : Int)) - (b.roles.length : Int)).toNat]? = some x := ⟨_, List.getElem?_eq_getElem hb126.2⟩
 obtain ⟨c123, hr124, ha125⟩ := hs11.get _ x121 hx122
 obtain ⟨c127, rfl, i128, hr129⟩ := id hr124
 unfold i64 at i128
 obtain ⟨A130, d131, rfl, i132, i133, hs134⟩ := qM hr129
 unfold i64 at i132 i133
 have z135 := hs134.size
 unfold big at z135
 have hf136 := hB.fact hx122
 refine ts (zH hs11 rfl rfl rfl fI hb126.1 hb126.2) ?_
 refine ts (qH _ rfl lR rfl) ?_
 refine ts (jA 1 [.int .i64 x121.con.op, .int .i64 x121.con.n, .slice A130 x121.con.args.length d131] ha125 rfl vU rfl rfl) ?_
 refine qI6 ?_
 refine tR (.vec (.slice A1_s s.concepts.length c1_s) s.concepts.length 3 1 l1_s :: .vec (.slice A2_s s.roles.length c2_s) s.roles.length 3 1 l2_s :: .blk b37 [.slice none 0 0, .slice none 0 0] 33 :: .blk b36 [.slice A1_s s.concepts.length c1_s, .slice A2_s s.roles.length c2_s] 33 :: .blk b35 [.slice A15 b.names.concepts.length d16, .slice A19 b.names.roles.length d20, .slice A23 b.names.inds.length d24, .slice A3 b.incls.length d4, .slice A6 b.roles.length d7, .slice A9 b.facts.length d10, .slice A12 b.links.length d13] 30 :: G) (fun w hw => ((hw.pick 4).pick 4)) ?_
 refine xD ca76 rfl (fun w hw => zU (Sig.mk s.concepts s.roles) x121.con hv1_s hv2_s hr129 (by first | omega | grind | (have a_ := pH (Sig.mk s.concepts s.roles) x121.sub; simp only at a_ ⊢; first | omega | grind)) (by first | omega | grind | (have a_ := pH (Sig.mk s.concepts s.roles) x121.sub; simp only at a_ ⊢; first | omega | grind)) hw) rfl ?_
 rintro _ R138 _ hle139 ⟨A_z137_01, c_z137_01, l_z137_01, A_z137_02, c_z137_02, l_z137_02, rfl, rfl, hv_z137_01, hv_z137_02⟩
 try replace hs14 := hs14.mono hle139
 try replace hv1_s := Kd.reps_mono hle139 hv1_s
 try replace hv2_s := Kd.reps_mono hle139 hv2_s
 refine xN 2 [.slice A_z137_01 ((zO (Sig.mk s.concepts s.roles) x121.con).concepts.length) c_z137_01, .slice A_z137_02 ((zO (Sig.mk s.concepts s.roles) x121.con).roles.length) c_z137_02] rfl rfl yM rfl rfl rfl rfl rfl rfl ?_
 refine qB <| qC <| qV <| qI ?_
 refine kO (cells := [.slice A_z137_01 ((zO (Sig.mk s.concepts s.roles) x121.con).concepts.length) c_z137_01, .slice A_z137_02 ((zO (Sig.mk s.concepts s.roles) x121.con).roles.length) c_z137_02]) 2 (.inl rfl) rfl rfl yM rfl ?_
 have e140 : (Sig.mk ((zO (Sig.mk s.concepts s.roles) x121.con).concepts) ((zO (Sig.mk s.concepts s.roles) x121.con).roles) : Sig) = wQ b k.toNat s := by (have n1_ : b.incls[k.toNat]? = none := List.getElem?_eq_none (by omega); have n2_ : b.roles[k.toNat - b.incls.length]? = none := List.getElem?_eq_none (by omega); have q_ := hx122; rw [show (k - (b.incls.length : Int) - (b.roles.length : Int)).toNat = k.toNat - b.incls.length - b.roles.length by omega] at q_; unfold wQ; rw [n1_]; simp only []; rw [n2_]; simp only []; rw [q_])
 intro w hw
 exact ⟨_, _, [.vec (.slice A_z137_01 ((zO (Sig.mk s.concepts s.roles) x121.con).concepts.length) c_z137_01) ((zO (Sig.mk s.concepts s.roles) x121.con).concepts.length) 3 1 l_z137_01, .vec (.slice A_z137_02 ((zO (Sig.mk s.concepts s.roles) x121.con).roles.length) c_z137_02) ((zO (Sig.mk s.concepts s.roles) x121.con).roles.length) 3 1 l_z137_02], rfl, hle139, (((((hw.pick 2).tail.pick 2).tail.pick 2).tail.pick 1).pick 1), A_z137_01, c_z137_01, l_z137_01, A_z137_02, c_z137_02, l_z137_02, (congrArg (fun (z0_ : Sig) => (.agg #[.slice A_z137_01 (Sig.concepts z0_).length c_z137_01, .slice A_z137_02 (Sig.roles z0_).length c_z137_02] : Value)) e140), (congrArg (fun (z0_ : Sig) => ([.vec (.slice A_z137_01 (Sig.concepts z0_).length c_z137_01) (Sig.concepts z0_).length 3 1 l_z137_01, .vec (.slice A_z137_02 (Sig.roles z0_).length c_z137_02) (Sig.roles z0_).length 3 1 l_z137_02] : List Res)) e140), (Eq.mp (congrArg (fun z => kInt.reps R138 (Sig.concepts z) l_z137_01) e140) hv_z137_01), (Eq.mp (congrArg (fun z => kInt.reps R138 (Sig.roles z) l_z137_02) e140) hv_z137_02)⟩
 refine xV rfl ?_
 refine qZ <| qC <| qE ?_
 refine mN 12 mixed (by kernel_rfl) ?_
 refine ts (qH 1 rfl pW rfl) ?_
 refine ts (jM 1 rfl iA rfl rfl) ?_
 refine ts (qH 6 rfl pV rfl) ?_
 refine ts (jM 2 rfl rK rfl rfl) ?_
 refine ts (qG rfl) ?_
 refine ts (qH 5 rfl zB rfl) ?_
 refine ts (jM 2 rfl iZ rfl rfl) ?_
 refine ts (jJ rfl fI) ?_
 refine ts (bV rfl rfl (by omega) (by omega)) ?_
 have hb146 : 0 ≤ ((k - (b.incls.length : Int)) - (b.roles.length : Int)) - (b.facts.length : Int) ∧ (((k - (b.incls.length : Int)) - (b.roles.length : Int)) - (b.facts.length : Int)).toNat < b.links.length := by omega
 obtain ⟨x141, hx142⟩ : ∃ x, b.links[(((k - (b.incls.length : Int)) - (b.roles.length : Int)) - (b.facts.length : Int)).toNat]? = some x := ⟨_, List.getElem?_eq_getElem hb146.2⟩
 obtain ⟨c143, hr144, ha145⟩ := hs14.get _ x141 hx142
 obtain ⟨rfl, i147, i148, i149⟩ := id hr144
 unfold i64 at i147
 unfold i64 at i148
 unfold i64 at i149
 have hf150 := hB.link hx142
 refine ts (zH hs14 rfl rfl rfl rA hb146.1 hb146.2) ?_
 refine ts (qH _ rfl cS rfl) ?_
 refine ts (yN 0 ha145 rfl ld3 rfl rfl) ?_
 refine qI6 ?_
 refine tR (.vec (.slice A2_s s.roles.length c2_s) s.roles.length 3 1 l2_s :: .blk b37 [.slice none 0 0, .slice none 0 0] 33 :: .blk b36 [.slice A1_s s.concepts.length c1_s, .slice A2_s s.roles.length c2_s] 33 :: .blk b35 [.slice A15 b.names.concepts.length d16, .slice A19 b.names.roles.length d20, .slice A23 b.names.inds.length d24, .slice A3 b.incls.length d4, .slice A6 b.roles.length d7, .slice A9 b.facts.length d10, .slice A12 b.links.length d13] 30 :: .vec (.slice A1_s s.concepts.length c1_s) s.concepts.length 3 1 l1_s :: G) (fun w hw => (hw.pick 4)) ?_
 refine xD ca16 rfl (fun w hw => kW s.roles x141.role hv2_s (by unfold i64; omega) (by first | omega | (have a_ := vC (l := s.roles) (n := x141.sub / 2); omega)) hw) rfl ?_
 rintro _ R152 _ hle153 ⟨A_z151_0, c_z151_0, l_z151_0, rfl, rfl, hv_z151_0⟩
 try replace hv1_s := Kd.reps_mono hle153 hv1_s
 refine tl (qH 1 rfl pW rfl) ?_
 refine xN 2 [.slice A1_s s.concepts.length c1_s, .slice A_z151_0 ((wS s.roles x141.role).length) c_z151_0] rfl rfl iA rfl rfl rfl rfl rfl rfl ?_
 refine qB <| qC <| qE <| qA ?_
 refine tl (qQ 2 [.slice A1_s s.concepts.length c1_s, .slice A_z151_0 ((wS s.roles x141.role).length) c_z151_0] rfl yM rfl rfl) ?_
 refine xN 1 [.slice A1_s s.concepts.length c1_s, .slice A_z151_0 ((wS s.roles x141.role).length) c_z151_0] rfl rfl yM rfl rfl rfl rfl rfl rfl ?_
 refine qB <| qC <| qV ?_
 refine kO (cells := [.slice A1_s s.concepts.length c1_s, .slice A_z151_0 ((wS s.roles x141.role).length) c_z151_0]) 1 (.inl rfl) rfl rfl yM rfl ?_
 have e154 : (Sig.mk s.concepts (wS s.roles x141.role) : Sig) = wQ b k.toNat s := by (have n1_ : b.incls[k.toNat]? = none := List.getElem?_eq_none (by omega); have n2_ : b.roles[k.toNat - b.incls.length]? = none := List.getElem?_eq_none (by omega); have n3_ : b.facts[k.toNat - b.incls.length - b.roles.length]? = none := List.getElem?_eq_none (by omega); have q_ := hx142; rw [show (k - (b.incls.length : Int) - (b.roles.length : Int) - (b.facts.length : Int)).toNat = k.toNat - b.incls.length - b.roles.length - b.facts.length by omega] at q_; unfold wQ; rw [n1_]; simp only []; rw [n2_]; simp only []; rw [n3_]; simp only []; rw [q_])
 intro w hw
 exact ⟨_, _, [.vec (.slice A1_s s.concepts.length c1_s) s.concepts.length 3 1 l1_s, .vec (.slice A_z151_0 ((wS s.roles x141.role).length) c_z151_0) ((wS s.roles x141.role).length) 3 1 l_z151_0], rfl, hle153, ((((hw.pick 1).tail.pick 1).tail.pick 1).tail.pick 1), A1_s, c1_s, l1_s, A_z151_0, c_z151_0, l_z151_0, (congrArg (fun (z0_ : Sig) => (.agg #[.slice A1_s (Sig.concepts z0_).length c1_s, .slice A_z151_0 (Sig.roles z0_).length c_z151_0] : Value)) e154), (congrArg (fun (z0_ : Sig) => ([.vec (.slice A1_s (Sig.concepts z0_).length c1_s) (Sig.concepts z0_).length 3 1 l1_s, .vec (.slice A_z151_0 (Sig.roles z0_).length c_z151_0) (Sig.roles z0_).length 3 1 l_z151_0] : List Res)) e154), (Eq.mp (congrArg (fun z => kInt.reps R152 (Sig.concepts z) l1_s) e154) hv1_s), (Eq.mp (congrArg (fun z => kInt.reps R152 (Sig.roles z) l_z151_0) e154) hv_z151_0)⟩

theorem ca56 : Callable Tryz.prog 56 := ⟨by kernel_rfl⟩
theorem mT : pR Tryz.prog 33 = some (true, [(0, 1), (1, 1)], 0) := by kernel_rfl

theorem bC {b : Base} (h : BaseOk b) : ∀ (l : List Int) (s : Sig), (jP b l s).concepts.length ≤ s.concepts.length + l.length * 800 ∧ (jP b l s).roles.length ≤ s.roles.length + l.length * 800
  | [], s => by simp [jP]
  | x :: xs, s => by
    have h1 := nZ h x.toNat s
    have h2 := bC h xs (wQ b x.toNat s)
    have e : jP b (x :: xs) s = jP b xs (wQ b x.toNat s) := rfl
    rw [e]; simp only [List.length_cons, Nat.add_mul]; omega

theorem uA {R : RO} {G : List Res} {w : World} {c_b : List Value} (b : Base) (l : List (Int)) {A_l : Option Addr} {c_l : Nat} {l_l : List Value} {c_s : List Value} (s : Sig) (hr_b : kBase.rep R b c_b) (hv_l : (kInt).reps R l l_l) (hr_s : kSig.rep R s c_s) (hB : BaseOk b) (hl : l.length ≤ 1000 ∧ ∀ x ∈ l, 0 ≤ x ∧ x < xT b) (hb : s.concepts.length ≤ 1000 ∧ s.roles.length ≤ 1000) (hw : Own w R (.vec (.slice A_l l.length c_l) l.length 3 1 l_l :: G)) :
    Calls Tryz.prog 26 [.agg c_b.toArray, .slice A_l l.length c_l, .agg c_s.toArray].toArray w (gZ R G (fun v_ R' L_ => ∃ (A_01 : Option Addr) (c_01 : Nat) (l_01 : List Value) (A_02 : Option Addr) (c_02 : Nat) (l_02 : List Value), v_ = (.agg #[.slice A_01 ((jP b l s).concepts.length) c_01, .slice A_02 ((jP b l s).roles.length) c_02] : Value) ∧ L_ = ([.vec (.slice A_01 ((jP b l s).concepts.length) c_01) ((jP b l s).concepts.length) 3 1 l_01, .vec (.slice A_02 ((jP b l s).roles.length) c_02) ((jP b l s).roles.length) 3 1 l_02, .vec (.slice A_l l.length c_l) l.length 3 1 l_l] : List Res) ∧ kInt.reps R' (jP b l s).concepts l_01 ∧ kInt.reps R' (jP b l s).roles l_02)) := by
 obtain ⟨c1, A3, d4, A6, d7, A9, d10, A12, d13, rfl, hr2, hs5, hs8, hs11, hs14⟩ := id hr_b
 have z27 := hs5.size
 unfold big at z27
 have z28 := hs8.size
 unfold big at z28
 have z29 := hs11.size
 unfold big at z29
 have z30 := hs14.size
 unfold big at z30
 obtain ⟨A15, d16, A19, d20, A23, d24, rfl, hs17, hs21, hs25⟩ := id hr2
 have z18 := hs17.size
 unfold big at z18
 have z22 := hs21.size
 unfold big at z22
 have z26 := hs25.size
 unfold big at z26
 obtain ⟨A32, d33, A36, d37, rfl, hs34, hs38⟩ := id hr_s
 have z35 := hs34.size
 unfold big at z35
 have z39 := hs38.size
 unfold big at z39
 refine xH (vs := [.agg #[.slice A15 b.names.concepts.length d16, .slice A19 b.names.roles.length d20, .slice A23 b.names.inds.length d24, .slice A3 b.incls.length d4, .slice A6 b.roles.length d7, .slice A9 b.facts.length d10, .slice A12 b.links.length d13], .slice A_l l.length c_l, .agg #[.slice A32 s.concepts.length d33, .slice A36 s.roles.length d37]]) Tryz.func26 rfl rfl rfl ?_ hw
 refine qE <| qA ?_
 refine qW (l := [.slice A15 b.names.concepts.length d16, .slice A19 b.names.roles.length d20, .slice A23 b.names.inds.length d24, .slice A3 b.incls.length d4, .slice A6 b.roles.length d7, .slice A9 b.facts.length d10, .slice A12 b.links.length d13]) rfl rfl fun b42 => ?_
 refine qW (l := [.slice A32 s.concepts.length d33, .slice A36 s.roles.length d37]) rfl rfl fun b43 => ?_
 refine qS tS rfl fun b44 => ?_
 refine qB <| qC ?_
 refine aJ (X := Nat × Option Addr × Nat × Option Addr × Nat × List Value × List Value) (fun (z_ : Nat × Option Addr × Nat × Option Addr × Nat × List Value × List Value) => match z_ with | (b67, A48, c49, A59, c60, l61, l50) => [(1, .slice A_l l.length c_l), (3, .pointer (some ⟨b42, 0, none⟩)), (6, .pointer (some ⟨b44, 0, none⟩)), (7, .pointer (some ⟨b67, 0, none⟩))]) (fun (z_ : Nat × Option Addr × Nat × Option Addr × Nat × List Value × List Value) => match z_ with | (b67, A48, c49, A59, c60, l61, l50) => (.blk b67 [.slice A48 ((([] : List (Int)) ++ s.concepts).length) c49, .slice A59 ((([] : List (Int)) ++ s.roles).length) c60] 33 :: .vec (.slice A59 ((([] : List (Int)) ++ s.roles).length) c60) ((([] : List (Int)) ++ s.roles).length) 3 1 l61 :: .vec (.slice A48 ((([] : List (Int)) ++ s.concepts).length) c49) ((([] : List (Int)) ++ s.concepts).length) 3 1 l50 :: .blk b44 [.slice none 0 0, .slice none 0 0] 33 :: .blk b43 [.slice A32 s.concepts.length d33, .slice A36 s.roles.length d37] 33 :: .blk b42 [.slice A15 b.names.concepts.length d16, .slice A19 b.names.roles.length d20, .slice A23 b.names.inds.length d24, .slice A3 b.incls.length d4, .slice A6 b.roles.length d7, .slice A9 b.facts.length d10, .slice A12 b.links.length d13] 30 :: .vec (.slice A_l l.length c_l) l.length 3 1 l_l :: G)) (fun (z_ : Nat × Option Addr × Nat × Option Addr × Nat × List Value × List Value) (R_ : RO) => match z_ with | (b67, A48, c49, A59, c60, l61, l50) => (kInt).reps R_ (([] : List (Int)) ++ s.roles) l61 ∧ (kInt).reps R_ (([] : List (Int)) ++ s.concepts) l50) (fun K hK68 hE69 => ?_) ?_
 refine vS R (.blk b44 [.slice none 0 0, .slice none 0 0] 33 :: .blk b43 [.slice A32 s.concepts.length d33, .slice A36 s.roles.length d37] 33 :: .blk b42 [.slice A15 b.names.concepts.length d16, .slice A19 b.names.roles.length d20, .slice A23 b.names.inds.length d24, .slice A3 b.incls.length d4, .slice A6 b.roles.length d7, .slice A9 b.facts.length d10, .slice A12 b.links.length d13] 30 :: .vec (.slice A_l l.length c_l) l.length 3 1 l_l :: G) 10 mixed ?_
 refine td 1 rfl (by kernel_rfl) (qH 0 rfl eK rfl) (fun w hw => hw) ?_
 refine td 2 rfl (by kernel_rfl) (jM 1 rfl iA rfl rfl) (fun w hw => hw) ?_
 refine td 5 rfl (by kernel_rfl) (qH 1 rfl pW rfl) (fun w hw => hw) ?_
 refine td 6 rfl (by kernel_rfl) (jM 1 rfl iA rfl rfl) (fun w hw => hw) ?_
 refine jO [0, 4, 9] (by kernel_rfl) rfl ?_
 refine tds rfl ?_ ?_
 refine jB [] zR rfl rfl rfl rfl rfl rfl rfl fun b70 => ?_
 refine qB ?_
 refine qY (fun w hw => hw.drop 1) ?_
 refine jO [3, 4, 9] (by kernel_rfl) rfl ?_
 refine tds rfl ?_ ?_
 refine kJ 0 0 1 rfl rfl rfl ?_
 have hv71 : (kInt).reps R ([] : List (Int)) [] := rfl
 obtain ⟨ds77, rp78, src79⟩ := kX kN hs34
 refine kH (k := kInt) (m := s.concepts) 0 hv71 (rp78) zR rfl rfl rfl (rfl) (src79 _) (by first | omega | (simp; omega)) rfl rfl fun A73 c74 l75 hv76 => ?_
 refine qB ?_
 refine qY (fun w hw => hw.drop 1) ?_
 refine jO [4, 9] (by kernel_rfl) rfl ?_
 refine tds rfl ?_ ?_
 refine jB [] zR rfl rfl rfl rfl rfl rfl rfl fun b81 => ?_
 refine qB ?_
 refine qY (fun w hw => hw.drop 2) ?_
 refine jO [7, 9] (by kernel_rfl) rfl ?_
 refine tds rfl ?_ ?_
 refine kJ 0 0 1 rfl rfl rfl ?_
 have hv82 : (kInt).reps R ([] : List (Int)) [] := rfl
 obtain ⟨ds88, rp89, src90⟩ := kX kN hs38
 refine kH (k := kInt) (m := s.roles) 0 hv82 (rp89) zR rfl rfl rfl (rfl) (src90 _) (by first | omega | (simp; omega)) rfl rfl fun A84 c85 l86 hv87 => ?_
 refine qB ?_
 refine qY (fun w hw => hw.drop 2) ?_
 refine td 8 rfl (by kernel_rfl) (xP [.slice A73 ((([] : List (Int)) ++ s.concepts).length) c74, .slice A84 ((([] : List (Int)) ++ s.roles).length) c85] tS mT rfl rfl) (fun w hw => hw.drop 2) ?_
 refine td1 9 (by kernel_rfl) rfl ?_
 refine qS tS rfl fun b92 => ?_
 refine qB ?_
 refine qY (fun w hw => hw.drop 3) ?_
 refine td1 10 (by kernel_rfl) rfl ?_
 refine xN 0 [.slice A73 ((([] : List (Int)) ++ s.concepts).length) c74, .slice A84 ((([] : List (Int)) ++ s.roles).length) c85] rfl rfl yM rfl rfl rfl rfl rfl rfl ?_
 refine qB ?_
 refine xZ ?_
 refine xK (by kernel_rfl) ?_
 exact xR hK68 (b92, A73, c74, A84, c85, l86, l75) (.refl _) (⟨hv87, hv76⟩) ⟨rfl, rfl, rfl, rfl, trivial⟩ (fun w hw => hw)
 refine tds rfl ?_ ?_
 refine qS tS rfl fun b93 => ?_
 refine qB ?_
 refine qY (fun w hw => hw.drop 3) ?_
 refine td1 7 (by kernel_rfl) rfl ?_
 refine kJ 1 0 1 rfl rfl rfl ?_
 have hv94 : (kInt).reps R ([] : List (Int)) [] := rfl
 obtain ⟨ds100, rp101, src102⟩ := kX kN hs38
 refine kH (k := kInt) (m := s.roles) 0 hv94 (rp101) zR rfl rfl rfl (rfl) (src102 _) (by first | omega | (simp; omega)) rfl rfl fun A96 c97 l98 hv99 => ?_
 refine qB ?_
 refine qY (fun w hw => hw.drop 3) ?_
 refine td 8 rfl (by kernel_rfl) (xP [.slice A73 ((([] : List (Int)) ++ s.concepts).length) c74, .slice A96 ((([] : List (Int)) ++ s.roles).length) c97] tS mT rfl rfl) (fun w hw => hw.drop 3) ?_
 refine td1 10 (by kernel_rfl) rfl ?_
 refine xN 1 [.slice A73 ((([] : List (Int)) ++ s.concepts).length) c74, .slice A96 ((([] : List (Int)) ++ s.roles).length) c97] rfl rfl yM rfl rfl rfl rfl rfl rfl ?_
 refine qB ?_
 refine xZ ?_
 refine xK (by kernel_rfl) ?_
 exact xR hK68 (b93, A73, c74, A96, c97, l98, l75) (.refl _) (⟨hv99, hv76⟩) ⟨rfl, rfl, rfl, rfl, trivial⟩ (fun w hw => (((((((hw.pick 6).pick 6).pick 6).pick 6).pick 6).pick 5).pick 6))
 exact jD
 refine tds rfl ?_ ?_
 refine qS tS rfl fun b104 => ?_
 refine qB ?_
 refine qY (fun w hw => hw.drop 2) ?_
 refine td1 4 (by kernel_rfl) rfl ?_
 refine jB [] zR rfl rfl rfl rfl rfl rfl rfl fun b105 => ?_
 refine qB ?_
 refine qY (fun w hw => hw.drop 3) ?_
 refine td1 7 (by kernel_rfl) rfl ?_
 refine kJ 0 0 1 rfl rfl rfl ?_
 have hv106 : (kInt).reps R ([] : List (Int)) [] := rfl
 obtain ⟨ds112, rp113, src114⟩ := kX kN hs38
 refine kH (k := kInt) (m := s.roles) 0 hv106 (rp113) zR rfl rfl rfl (rfl) (src114 _) (by first | omega | (simp; omega)) rfl rfl fun A108 c109 l110 hv111 => ?_
 refine qB ?_
 refine qY (fun w hw => hw.drop 3) ?_
 refine td 8 rfl (by kernel_rfl) (xP [.slice A73 ((([] : List (Int)) ++ s.concepts).length) c74, .slice A108 ((([] : List (Int)) ++ s.roles).length) c109] tS mT rfl rfl) (fun w hw => hw.drop 3) ?_
 refine td1 10 (by kernel_rfl) rfl ?_
 refine xN 1 [.slice A73 ((([] : List (Int)) ++ s.concepts).length) c74, .slice A108 ((([] : List (Int)) ++ s.roles).length) c109] rfl rfl yM rfl rfl rfl rfl rfl rfl ?_
 refine qB ?_
 refine xZ ?_
 refine xK (by kernel_rfl) ?_
 exact xR hK68 (b104, A73, c74, A108, c109, l110, l75) (.refl _) (⟨hv111, hv76⟩) ⟨rfl, rfl, rfl, rfl, trivial⟩ (fun w hw => (((((((hw.pick 6).pick 6).pick 6).pick 6).pick 6).pick 5).pick 6))
 exact jD
 refine tds rfl ?_ ?_
 refine jB [] zR rfl rfl rfl rfl rfl rfl rfl fun b116 => ?_
 refine qB ?_
 refine qY (fun w hw => hw.drop 2) ?_
 refine jO [3, 9] (by kernel_rfl) rfl ?_
 refine tds rfl ?_ ?_
 refine kJ 1 0 1 rfl rfl rfl ?_
 have hv117 : (kInt).reps R ([] : List (Int)) [] := rfl
 obtain ⟨ds123, rp124, src125⟩ := kX kN hs34
 refine kH (k := kInt) (m := s.concepts) 0 hv117 (rp124) zR rfl rfl rfl (rfl) (src125 _) (by first | omega | (simp; omega)) rfl rfl fun A119 c120 l121 hv122 => ?_
 refine qB ?_
 refine qY (fun w hw => hw.drop 2) ?_
 refine jO [7, 9] (by kernel_rfl) rfl ?_
 refine tds rfl ?_ ?_
 refine kJ 1 0 1 rfl rfl rfl ?_
 have hv127 : (kInt).reps R ([] : List (Int)) [] := rfl
 obtain ⟨ds133, rp134, src135⟩ := kX kN hs38
 refine kH (k := kInt) (m := s.roles) 0 hv127 (rp134) zR rfl rfl rfl (rfl) (src135 _) (by first | omega | (simp; omega)) rfl rfl fun A129 c130 l131 hv132 => ?_
 refine qB ?_
 refine qY (fun w hw => hw.drop 2) ?_
 refine td 8 rfl (by kernel_rfl) (xP [.slice A119 ((([] : List (Int)) ++ s.concepts).length) c120, .slice A129 ((([] : List (Int)) ++ s.roles).length) c130] tS mT rfl rfl) (fun w hw => hw.drop 2) ?_
 refine td1 9 (by kernel_rfl) rfl ?_
 refine qS tS rfl fun b137 => ?_
 refine qB ?_
 refine qY (fun w hw => hw.drop 3) ?_
 refine td1 10 (by kernel_rfl) rfl ?_
 refine xN 0 [.slice A119 ((([] : List (Int)) ++ s.concepts).length) c120, .slice A129 ((([] : List (Int)) ++ s.roles).length) c130] rfl rfl yM rfl rfl rfl rfl rfl rfl ?_
 refine qB ?_
 refine xZ ?_
 refine xK (by kernel_rfl) ?_
 exact xR hK68 (b137, A119, c120, A129, c130, l131, l121) (.refl _) (⟨hv132, hv122⟩) ⟨rfl, rfl, rfl, rfl, trivial⟩ (fun w hw => hw)
 refine tds rfl ?_ ?_
 refine qS tS rfl fun b138 => ?_
 refine qB ?_
 refine qY (fun w hw => hw.drop 3) ?_
 refine td1 7 (by kernel_rfl) rfl ?_
 refine kJ 2 0 1 rfl rfl rfl ?_
 have hv139 : (kInt).reps R ([] : List (Int)) [] := rfl
 obtain ⟨ds145, rp146, src147⟩ := kX kN hs38
 refine kH (k := kInt) (m := s.roles) 0 hv139 (rp146) zR rfl rfl rfl (rfl) (src147 _) (by first | omega | (simp; omega)) rfl rfl fun A141 c142 l143 hv144 => ?_
 refine qB ?_
 refine qY (fun w hw => hw.drop 3) ?_
 refine td 8 rfl (by kernel_rfl) (xP [.slice A119 ((([] : List (Int)) ++ s.concepts).length) c120, .slice A141 ((([] : List (Int)) ++ s.roles).length) c142] tS mT rfl rfl) (fun w hw => hw.drop 3) ?_
 refine td1 10 (by kernel_rfl) rfl ?_
 refine xN 1 [.slice A119 ((([] : List (Int)) ++ s.concepts).length) c120, .slice A141 ((([] : List (Int)) ++ s.roles).length) c142] rfl rfl yM rfl rfl rfl rfl rfl rfl ?_
 refine qB ?_
 refine xZ ?_
 refine xK (by kernel_rfl) ?_
 exact xR hK68 (b138, A119, c120, A141, c142, l143, l121) (.refl _) (⟨hv144, hv122⟩) ⟨rfl, rfl, rfl, rfl, trivial⟩ (fun w hw => (((((((hw.pick 6).pick 6).pick 6).pick 6).pick 6).pick 5).pick 6))
 exact jD
 refine tds rfl ?_ ?_
 refine qS tS rfl fun b149 => ?_
 refine qB ?_
 refine qY (fun w hw => hw.drop 3) ?_
 refine td1 3 (by kernel_rfl) rfl ?_
 refine kJ 2 0 1 rfl rfl rfl ?_
 have hv150 : (kInt).reps R ([] : List (Int)) [] := rfl
 obtain ⟨ds156, rp157, src158⟩ := kX kN hs34
 refine kH (k := kInt) (m := s.concepts) 0 hv150 (rp157) zR rfl rfl rfl (rfl) (src158 _) (by first | omega | (simp; omega)) rfl rfl fun A152 c153 l154 hv155 => ?_
 refine qB ?_
 refine qY (fun w hw => hw.drop 3) ?_
 refine td1 7 (by kernel_rfl) rfl ?_
 refine kJ 2 0 1 rfl rfl rfl ?_
 have hv160 : (kInt).reps R ([] : List (Int)) [] := rfl
 obtain ⟨ds166, rp167, src168⟩ := kX kN hs38
 refine kH (k := kInt) (m := s.roles) 0 hv160 (rp167) zR rfl rfl rfl (rfl) (src168 _) (by first | omega | (simp; omega)) rfl rfl fun A162 c163 l164 hv165 => ?_
 refine qB ?_
 refine qY (fun w hw => hw.drop 3) ?_
 refine td 8 rfl (by kernel_rfl) (xP [.slice A152 ((([] : List (Int)) ++ s.concepts).length) c153, .slice A162 ((([] : List (Int)) ++ s.roles).length) c163] tS mT rfl rfl) (fun w hw => hw.drop 3) ?_
 refine td1 10 (by kernel_rfl) rfl ?_
 refine xN 2 [.slice A152 ((([] : List (Int)) ++ s.concepts).length) c153, .slice A162 ((([] : List (Int)) ++ s.roles).length) c163] rfl rfl yM rfl rfl rfl rfl rfl rfl ?_
 refine qB ?_
 refine xZ ?_
 refine xK (by kernel_rfl) ?_
 exact xR hK68 (b149, A152, c153, A162, c163, l164, l154) (.refl _) (⟨hv165, hv155⟩) ⟨rfl, rfl, rfl, rfl, trivial⟩ (fun w hw => (((((((hw.pick 6).pick 6).pick 6).pick 6).pick 5).pick 5).pick 6))
 exact jD
 refine tds rfl ?_ ?_
 refine qS tS rfl fun b170 => ?_
 refine qB ?_
 refine qY (fun w hw => hw.drop 2) ?_
 refine jO [3, 4] (by kernel_rfl) rfl ?_
 refine tds rfl ?_ ?_
 refine kJ 1 0 1 rfl rfl rfl ?_
 have hv171 : (kInt).reps R ([] : List (Int)) [] := rfl
 obtain ⟨ds177, rp178, src179⟩ := kX kN hs34
 refine kH (k := kInt) (m := s.concepts) 0 hv171 (rp178) zR rfl rfl rfl (rfl) (src179 _) (by first | omega | (simp; omega)) rfl rfl fun A173 c174 l175 hv176 => ?_
 refine qB ?_
 refine qY (fun w hw => hw.drop 2) ?_
 refine td1 4 (by kernel_rfl) rfl ?_
 refine jB [] zR rfl rfl rfl rfl rfl rfl rfl fun b181 => ?_
 refine qB ?_
 refine qY (fun w hw => hw.drop 3) ?_
 refine td1 7 (by kernel_rfl) rfl ?_
 refine kJ 0 0 1 rfl rfl rfl ?_
 have hv182 : (kInt).reps R ([] : List (Int)) [] := rfl
 obtain ⟨ds188, rp189, src190⟩ := kX kN hs38
 refine kH (k := kInt) (m := s.roles) 0 hv182 (rp189) zR rfl rfl rfl (rfl) (src190 _) (by first | omega | (simp; omega)) rfl rfl fun A184 c185 l186 hv187 => ?_
 refine qB ?_
 refine qY (fun w hw => hw.drop 3) ?_
 refine td 8 rfl (by kernel_rfl) (xP [.slice A173 ((([] : List (Int)) ++ s.concepts).length) c174, .slice A184 ((([] : List (Int)) ++ s.roles).length) c185] tS mT rfl rfl) (fun w hw => hw.drop 3) ?_
 refine td1 10 (by kernel_rfl) rfl ?_
 refine xN 2 [.slice A173 ((([] : List (Int)) ++ s.concepts).length) c174, .slice A184 ((([] : List (Int)) ++ s.roles).length) c185] rfl rfl yM rfl rfl rfl rfl rfl rfl ?_
 refine qB ?_
 refine xZ ?_
 refine xK (by kernel_rfl) ?_
 exact xR hK68 (b170, A173, c174, A184, c185, l186, l175) (.refl _) (⟨hv187, hv176⟩) ⟨rfl, rfl, rfl, rfl, trivial⟩ (fun w hw => (((((((hw.pick 6).pick 6).pick 6).pick 6).pick 5).pick 5).pick 6))
 refine tds rfl ?_ ?_
 refine jB [] zR rfl rfl rfl rfl rfl rfl rfl fun b192 => ?_
 refine qB ?_
 refine qY (fun w hw => hw.drop 3) ?_
 refine td1 3 (by kernel_rfl) rfl ?_
 refine kJ 2 0 1 rfl rfl rfl ?_
 have hv193 : (kInt).reps R ([] : List (Int)) [] := rfl
 obtain ⟨ds199, rp200, src201⟩ := kX kN hs34
 refine kH (k := kInt) (m := s.concepts) 0 hv193 (rp200) zR rfl rfl rfl (rfl) (src201 _) (by first | omega | (simp; omega)) rfl rfl fun A195 c196 l197 hv198 => ?_
 refine qB ?_
 refine qY (fun w hw => hw.drop 3) ?_
 refine td1 7 (by kernel_rfl) rfl ?_
 refine kJ 1 0 1 rfl rfl rfl ?_
 have hv203 : (kInt).reps R ([] : List (Int)) [] := rfl
 obtain ⟨ds209, rp210, src211⟩ := kX kN hs38
 refine kH (k := kInt) (m := s.roles) 0 hv203 (rp210) zR rfl rfl rfl (rfl) (src211 _) (by first | omega | (simp; omega)) rfl rfl fun A205 c206 l207 hv208 => ?_
 refine qB ?_
 refine qY (fun w hw => hw.drop 3) ?_
 refine td 8 rfl (by kernel_rfl) (xP [.slice A195 ((([] : List (Int)) ++ s.concepts).length) c196, .slice A205 ((([] : List (Int)) ++ s.roles).length) c206] tS mT rfl rfl) (fun w hw => hw.drop 3) ?_
 refine td1 10 (by kernel_rfl) rfl ?_
 refine xN 2 [.slice A195 ((([] : List (Int)) ++ s.concepts).length) c196, .slice A205 ((([] : List (Int)) ++ s.roles).length) c206] rfl rfl yM rfl rfl rfl rfl rfl rfl ?_
 refine qB ?_
 refine xZ ?_
 refine xK (by kernel_rfl) ?_
 exact xR hK68 (b170, A195, c196, A205, c206, l207, l197) (.refl _) (⟨hv208, hv198⟩) ⟨rfl, rfl, rfl, rfl, trivial⟩ (fun w hw => (((((((hw.pick 6).pick 6).pick 6).pick 6).pick 5).pick 5).pick 6))
 exact jD
 exact jD
 refine tds rfl ?_ ?_
 refine jB [] zR rfl rfl rfl rfl rfl rfl rfl fun b213 => ?_
 refine qB ?_
 refine qY (fun w hw => hw.drop 1) ?_
 refine jO [0, 9] (by kernel_rfl) rfl ?_
 refine tds rfl ?_ ?_
 refine jB [] zR rfl rfl rfl rfl rfl rfl rfl fun b214 => ?_
 refine qB ?_
 refine qY (fun w hw => hw.drop 2) ?_
 refine jO [3, 9] (by kernel_rfl) rfl ?_
 refine tds rfl ?_ ?_
 refine kJ 0 0 1 rfl rfl rfl ?_
 have hv215 : (kInt).reps R ([] : List (Int)) [] := rfl
 obtain ⟨ds221, rp222, src223⟩ := kX kN hs34
 refine kH (k := kInt) (m := s.concepts) 0 hv215 (rp222) zR rfl rfl rfl (rfl) (src223 _) (by first | omega | (simp; omega)) rfl rfl fun A217 c218 l219 hv220 => ?_
 refine qB ?_
 refine qY (fun w hw => hw.drop 2) ?_
 refine jO [7, 9] (by kernel_rfl) rfl ?_
 refine tds rfl ?_ ?_
 refine kJ 1 0 1 rfl rfl rfl ?_
 have hv225 : (kInt).reps R ([] : List (Int)) [] := rfl
 obtain ⟨ds231, rp232, src233⟩ := kX kN hs38
 refine kH (k := kInt) (m := s.roles) 0 hv225 (rp232) zR rfl rfl rfl (rfl) (src233 _) (by first | omega | (simp; omega)) rfl rfl fun A227 c228 l229 hv230 => ?_
 refine qB ?_
 refine qY (fun w hw => hw.drop 2) ?_
 refine td 8 rfl (by kernel_rfl) (xP [.slice A217 ((([] : List (Int)) ++ s.concepts).length) c218, .slice A227 ((([] : List (Int)) ++ s.roles).length) c228] tS mT rfl rfl) (fun w hw => hw.drop 2) ?_
 refine td1 9 (by kernel_rfl) rfl ?_
 refine qS tS rfl fun b235 => ?_
 refine qB ?_
 refine qY (fun w hw => hw.drop 3) ?_
 refine td1 10 (by kernel_rfl) rfl ?_
 refine xN 0 [.slice A217 ((([] : List (Int)) ++ s.concepts).length) c218, .slice A227 ((([] : List (Int)) ++ s.roles).length) c228] rfl rfl yM rfl rfl rfl rfl rfl rfl ?_
 refine qB ?_
 refine xZ ?_
 refine xK (by kernel_rfl) ?_
 exact xR hK68 (b235, A217, c218, A227, c228, l229, l219) (.refl _) (⟨hv230, hv220⟩) ⟨rfl, rfl, rfl, rfl, trivial⟩ (fun w hw => hw)
 refine tds rfl ?_ ?_
 refine qS tS rfl fun b236 => ?_
 refine qB ?_
 refine qY (fun w hw => hw.drop 3) ?_
 refine td1 7 (by kernel_rfl) rfl ?_
 refine kJ 2 0 1 rfl rfl rfl ?_
 have hv237 : (kInt).reps R ([] : List (Int)) [] := rfl
 obtain ⟨ds243, rp244, src245⟩ := kX kN hs38
 refine kH (k := kInt) (m := s.roles) 0 hv237 (rp244) zR rfl rfl rfl (rfl) (src245 _) (by first | omega | (simp; omega)) rfl rfl fun A239 c240 l241 hv242 => ?_
 refine qB ?_
 refine qY (fun w hw => hw.drop 3) ?_
 refine td 8 rfl (by kernel_rfl) (xP [.slice A217 ((([] : List (Int)) ++ s.concepts).length) c218, .slice A239 ((([] : List (Int)) ++ s.roles).length) c240] tS mT rfl rfl) (fun w hw => hw.drop 3) ?_
 refine td1 10 (by kernel_rfl) rfl ?_
 refine xN 1 [.slice A217 ((([] : List (Int)) ++ s.concepts).length) c218, .slice A239 ((([] : List (Int)) ++ s.roles).length) c240] rfl rfl yM rfl rfl rfl rfl rfl rfl ?_
 refine qB ?_
 refine xZ ?_
 refine xK (by kernel_rfl) ?_
 exact xR hK68 (b236, A217, c218, A239, c240, l241, l219) (.refl _) (⟨hv242, hv220⟩) ⟨rfl, rfl, rfl, rfl, trivial⟩ (fun w hw => (((((((hw.pick 6).pick 6).pick 6).pick 6).pick 6).pick 5).pick 6))
 exact jD
 refine tds rfl ?_ ?_
 refine qS tS rfl fun b247 => ?_
 refine qB ?_
 refine qY (fun w hw => hw.drop 3) ?_
 refine td1 3 (by kernel_rfl) rfl ?_
 refine kJ 1 0 1 rfl rfl rfl ?_
 have hv248 : (kInt).reps R ([] : List (Int)) [] := rfl
 obtain ⟨ds254, rp255, src256⟩ := kX kN hs34
 refine kH (k := kInt) (m := s.concepts) 0 hv248 (rp255) zR rfl rfl rfl (rfl) (src256 _) (by first | omega | (simp; omega)) rfl rfl fun A250 c251 l252 hv253 => ?_
 refine qB ?_
 refine qY (fun w hw => hw.drop 3) ?_
 refine td1 7 (by kernel_rfl) rfl ?_
 refine kJ 2 0 1 rfl rfl rfl ?_
 have hv258 : (kInt).reps R ([] : List (Int)) [] := rfl
 obtain ⟨ds264, rp265, src266⟩ := kX kN hs38
 refine kH (k := kInt) (m := s.roles) 0 hv258 (rp265) zR rfl rfl rfl (rfl) (src266 _) (by first | omega | (simp; omega)) rfl rfl fun A260 c261 l262 hv263 => ?_
 refine qB ?_
 refine qY (fun w hw => hw.drop 3) ?_
 refine td 8 rfl (by kernel_rfl) (xP [.slice A250 ((([] : List (Int)) ++ s.concepts).length) c251, .slice A260 ((([] : List (Int)) ++ s.roles).length) c261] tS mT rfl rfl) (fun w hw => hw.drop 3) ?_
 refine td1 10 (by kernel_rfl) rfl ?_
 refine xN 2 [.slice A250 ((([] : List (Int)) ++ s.concepts).length) c251, .slice A260 ((([] : List (Int)) ++ s.roles).length) c261] rfl rfl yM rfl rfl rfl rfl rfl rfl ?_
 refine qB ?_
 refine xZ ?_
 refine xK (by kernel_rfl) ?_
 exact xR hK68 (b247, A250, c251, A260, c261, l262, l252) (.refl _) (⟨hv263, hv253⟩) ⟨rfl, rfl, rfl, rfl, trivial⟩ (fun w hw => (((((((hw.pick 6).pick 6).pick 6).pick 6).pick 5).pick 5).pick 6))
 exact jD
 refine tds rfl ?_ ?_
 refine qS tS rfl fun b268 => ?_
 refine qB ?_
 refine qY (fun w hw => hw.drop 2) ?_
 refine td1 0 (by kernel_rfl) rfl ?_
 refine jB [] zR rfl rfl rfl rfl rfl rfl rfl fun b269 => ?_
 refine qB ?_
 refine qY (fun w hw => hw.drop 3) ?_
 refine td1 3 (by kernel_rfl) rfl ?_
 refine kJ 0 0 1 rfl rfl rfl ?_
 have hv270 : (kInt).reps R ([] : List (Int)) [] := rfl
 obtain ⟨ds276, rp277, src278⟩ := kX kN hs34
 refine kH (k := kInt) (m := s.concepts) 0 hv270 (rp277) zR rfl rfl rfl (rfl) (src278 _) (by first | omega | (simp; omega)) rfl rfl fun A272 c273 l274 hv275 => ?_
 refine qB ?_
 refine qY (fun w hw => hw.drop 3) ?_
 refine td1 7 (by kernel_rfl) rfl ?_
 refine kJ 2 0 1 rfl rfl rfl ?_
 have hv280 : (kInt).reps R ([] : List (Int)) [] := rfl
 obtain ⟨ds286, rp287, src288⟩ := kX kN hs38
 refine kH (k := kInt) (m := s.roles) 0 hv280 (rp287) zR rfl rfl rfl (rfl) (src288 _) (by first | omega | (simp; omega)) rfl rfl fun A282 c283 l284 hv285 => ?_
 refine qB ?_
 refine qY (fun w hw => hw.drop 3) ?_
 refine td 8 rfl (by kernel_rfl) (xP [.slice A272 ((([] : List (Int)) ++ s.concepts).length) c273, .slice A282 ((([] : List (Int)) ++ s.roles).length) c283] tS mT rfl rfl) (fun w hw => hw.drop 3) ?_
 refine td1 10 (by kernel_rfl) rfl ?_
 refine xN 2 [.slice A272 ((([] : List (Int)) ++ s.concepts).length) c273, .slice A282 ((([] : List (Int)) ++ s.roles).length) c283] rfl rfl yM rfl rfl rfl rfl rfl rfl ?_
 refine qB ?_
 refine xZ ?_
 refine xK (by kernel_rfl) ?_
 exact xR hK68 (b268, A272, c273, A282, c283, l284, l274) (.refl _) (⟨hv285, hv275⟩) ⟨rfl, rfl, rfl, rfl, trivial⟩ (fun w hw => (((((((hw.pick 6).pick 6).pick 6).pick 6).pick 5).pick 5).pick 6))
 exact jD
 refine tds rfl ?_ ?_
 refine qS tS rfl fun b290 => ?_
 refine qB ?_
 refine qY (fun w hw => hw.drop 1) ?_
 refine jO [0, 4] (by kernel_rfl) rfl ?_
 refine tds rfl ?_ ?_
 refine jB [] zR rfl rfl rfl rfl rfl rfl rfl fun b291 => ?_
 refine qB ?_
 refine qY (fun w hw => hw.drop 2) ?_
 refine jO [3, 4] (by kernel_rfl) rfl ?_
 refine tds rfl ?_ ?_
 refine kJ 0 0 1 rfl rfl rfl ?_
 have hv292 : (kInt).reps R ([] : List (Int)) [] := rfl
 obtain ⟨ds298, rp299, src300⟩ := kX kN hs34
 refine kH (k := kInt) (m := s.concepts) 0 hv292 (rp299) zR rfl rfl rfl (rfl) (src300 _) (by first | omega | (simp; omega)) rfl rfl fun A294 c295 l296 hv297 => ?_
 refine qB ?_
 refine qY (fun w hw => hw.drop 2) ?_
 refine td1 4 (by kernel_rfl) rfl ?_
 refine jB [] zR rfl rfl rfl rfl rfl rfl rfl fun b302 => ?_
 refine qB ?_
 refine qY (fun w hw => hw.drop 3) ?_
 refine td1 7 (by kernel_rfl) rfl ?_
 refine kJ 0 0 1 rfl rfl rfl ?_
 have hv303 : (kInt).reps R ([] : List (Int)) [] := rfl
 obtain ⟨ds309, rp310, src311⟩ := kX kN hs38
 refine kH (k := kInt) (m := s.roles) 0 hv303 (rp310) zR rfl rfl rfl (rfl) (src311 _) (by first | omega | (simp; omega)) rfl rfl fun A305 c306 l307 hv308 => ?_
 refine qB ?_
 refine qY (fun w hw => hw.drop 3) ?_
 refine td 8 rfl (by kernel_rfl) (xP [.slice A294 ((([] : List (Int)) ++ s.concepts).length) c295, .slice A305 ((([] : List (Int)) ++ s.roles).length) c306] tS mT rfl rfl) (fun w hw => hw.drop 3) ?_
 refine td1 10 (by kernel_rfl) rfl ?_
 refine xN 2 [.slice A294 ((([] : List (Int)) ++ s.concepts).length) c295, .slice A305 ((([] : List (Int)) ++ s.roles).length) c306] rfl rfl yM rfl rfl rfl rfl rfl rfl ?_
 refine qB ?_
 refine xZ ?_
 refine xK (by kernel_rfl) ?_
 exact xR hK68 (b290, A294, c295, A305, c306, l307, l296) (.refl _) (⟨hv308, hv297⟩) ⟨rfl, rfl, rfl, rfl, trivial⟩ (fun w hw => (((((((hw.pick 6).pick 6).pick 6).pick 6).pick 5).pick 5).pick 6))
 refine tds rfl ?_ ?_
 refine jB [] zR rfl rfl rfl rfl rfl rfl rfl fun b313 => ?_
 refine qB ?_
 refine qY (fun w hw => hw.drop 3) ?_
 refine td1 3 (by kernel_rfl) rfl ?_
 refine kJ 1 0 1 rfl rfl rfl ?_
 have hv314 : (kInt).reps R ([] : List (Int)) [] := rfl
 obtain ⟨ds320, rp321, src322⟩ := kX kN hs34
 refine kH (k := kInt) (m := s.concepts) 0 hv314 (rp321) zR rfl rfl rfl (rfl) (src322 _) (by first | omega | (simp; omega)) rfl rfl fun A316 c317 l318 hv319 => ?_
 refine qB ?_
 refine qY (fun w hw => hw.drop 3) ?_
 refine td1 7 (by kernel_rfl) rfl ?_
 refine kJ 1 0 1 rfl rfl rfl ?_
 have hv324 : (kInt).reps R ([] : List (Int)) [] := rfl
 obtain ⟨ds330, rp331, src332⟩ := kX kN hs38
 refine kH (k := kInt) (m := s.roles) 0 hv324 (rp331) zR rfl rfl rfl (rfl) (src332 _) (by first | omega | (simp; omega)) rfl rfl fun A326 c327 l328 hv329 => ?_
 refine qB ?_
 refine qY (fun w hw => hw.drop 3) ?_
 refine td 8 rfl (by kernel_rfl) (xP [.slice A316 ((([] : List (Int)) ++ s.concepts).length) c317, .slice A326 ((([] : List (Int)) ++ s.roles).length) c327] tS mT rfl rfl) (fun w hw => hw.drop 3) ?_
 refine td1 10 (by kernel_rfl) rfl ?_
 refine xN 2 [.slice A316 ((([] : List (Int)) ++ s.concepts).length) c317, .slice A326 ((([] : List (Int)) ++ s.roles).length) c327] rfl rfl yM rfl rfl rfl rfl rfl rfl ?_
 refine qB ?_
 refine xZ ?_
 refine xK (by kernel_rfl) ?_
 exact xR hK68 (b290, A316, c317, A326, c327, l328, l318) (.refl _) (⟨hv329, hv319⟩) ⟨rfl, rfl, rfl, rfl, trivial⟩ (fun w hw => (((((((hw.pick 6).pick 6).pick 6).pick 6).pick 5).pick 5).pick 6))
 exact jD
 refine tds rfl ?_ ?_
 refine jB [] zR rfl rfl rfl rfl rfl rfl rfl fun b334 => ?_
 refine qB ?_
 refine qY (fun w hw => hw.drop 2) ?_
 refine td1 0 (by kernel_rfl) rfl ?_
 refine jB [] zR rfl rfl rfl rfl rfl rfl rfl fun b335 => ?_
 refine qB ?_
 refine qY (fun w hw => hw.drop 3) ?_
 refine td1 3 (by kernel_rfl) rfl ?_
 refine kJ 0 0 1 rfl rfl rfl ?_
 have hv336 : (kInt).reps R ([] : List (Int)) [] := rfl
 obtain ⟨ds342, rp343, src344⟩ := kX kN hs34
 refine kH (k := kInt) (m := s.concepts) 0 hv336 (rp343) zR rfl rfl rfl (rfl) (src344 _) (by first | omega | (simp; omega)) rfl rfl fun A338 c339 l340 hv341 => ?_
 refine qB ?_
 refine qY (fun w hw => hw.drop 3) ?_
 refine td1 7 (by kernel_rfl) rfl ?_
 refine kJ 1 0 1 rfl rfl rfl ?_
 have hv346 : (kInt).reps R ([] : List (Int)) [] := rfl
 obtain ⟨ds352, rp353, src354⟩ := kX kN hs38
 refine kH (k := kInt) (m := s.roles) 0 hv346 (rp353) zR rfl rfl rfl (rfl) (src354 _) (by first | omega | (simp; omega)) rfl rfl fun A348 c349 l350 hv351 => ?_
 refine qB ?_
 refine qY (fun w hw => hw.drop 3) ?_
 refine td 8 rfl (by kernel_rfl) (xP [.slice A338 ((([] : List (Int)) ++ s.concepts).length) c339, .slice A348 ((([] : List (Int)) ++ s.roles).length) c349] tS mT rfl rfl) (fun w hw => hw.drop 3) ?_
 refine td1 10 (by kernel_rfl) rfl ?_
 refine xN 2 [.slice A338 ((([] : List (Int)) ++ s.concepts).length) c339, .slice A348 ((([] : List (Int)) ++ s.roles).length) c349] rfl rfl yM rfl rfl rfl rfl rfl rfl ?_
 refine qB ?_
 refine xZ ?_
 refine xK (by kernel_rfl) ?_
 exact xR hK68 (b290, A338, c339, A348, c349, l350, l340) (.refl _) (⟨hv351, hv341⟩) ⟨rfl, rfl, rfl, rfl, trivial⟩ (fun w hw => (((((((hw.pick 6).pick 6).pick 6).pick 6).pick 5).pick 5).pick 6))
 exact jD
 exact jD
 rintro ⟨b67, A48, c49, A59, c60, l61, l50⟩ R357 hle358 hj356
 obtain ⟨hv359, hv360⟩ := hj356
 try replace hr_b := kBase.mono _ _ _ _ hle358 hr_b
 try replace hv_l := Kd.reps_mono hle358 hv_l
 show TC Tryz.prog _ _ _ [] [(1, .slice A_l l.length c_l), (3, .pointer (some ⟨b42, 0, none⟩)), (6, .pointer (some ⟨b44, 0, none⟩)), (7, .pointer (some ⟨b67, 0, none⟩))] R357 (.blk b67 [.slice A48 ((([] : List (Int)) ++ s.concepts).length) c49, .slice A59 ((([] : List (Int)) ++ s.roles).length) c60] 33 :: .vec (.slice A59 ((([] : List (Int)) ++ s.roles).length) c60) ((([] : List (Int)) ++ s.roles).length) 3 1 l61 :: .vec (.slice A48 ((([] : List (Int)) ++ s.concepts).length) c49) ((([] : List (Int)) ++ s.concepts).length) 3 1 l50 :: .blk b44 [.slice none 0 0, .slice none 0 0] 33 :: .blk b43 [.slice A32 s.concepts.length d33, .slice A36 s.roles.length d37] 33 :: .blk b42 [.slice A15 b.names.concepts.length d16, .slice A19 b.names.roles.length d20, .slice A23 b.names.inds.length d24, .slice A3 b.incls.length d4, .slice A6 b.roles.length d7, .slice A9 b.facts.length d10, .slice A12 b.links.length d13] 30 :: .vec (.slice A_l l.length c_l) l.length 3 1 l_l :: G)
 refine qE <| qE <| qA ?_
 refine tl (qG rfl) ?_
 refine tl (jJ rfl pL) ?_
 refine tl (qG rfl) ?_
 refine qB <| qC <| qX ?_
 refine jF ?_
 refine wD (fun b_ : Nat × List (Int) × Option Addr × Nat × List Value × List (Int) × Option Addr × Nat × List Value => match b_ with | (i, x, A_x, c_x, l_x, y, A_y, c_y, l_y) => l.length - i) (fun b_ : Nat × List (Int) × Option Addr × Nat × List Value × List (Int) × Option Addr × Nat × List Value => match b_ with | (i, x, A_x, c_x, l_x, y, A_y, c_y, l_y) => [(3, .pointer (some ⟨b42, 0, none⟩)), (6, .pointer (some ⟨b44, 0, none⟩)), (7, .pointer (some ⟨b67, 0, none⟩)), (19, .slice A_l l.length c_l), (20, .int .i64 (l.length : Int)), (21, .int .i64 (i : Int))]) (fun b_ : Nat × List (Int) × Option Addr × Nat × List Value × List (Int) × Option Addr × Nat × List Value => match b_ with | (i, x, A_x, c_x, l_x, y, A_y, c_y, l_y) => (.blk b67 [.slice A_x x.length c_x, .slice A_y y.length c_y] 33 :: .vec (.slice A_y y.length c_y) y.length 3 1 l_y :: .vec (.slice A_x x.length c_x) x.length 3 1 l_x :: .blk b44 [.slice none 0 0, .slice none 0 0] 33 :: .blk b43 [.slice A32 s.concepts.length d33, .slice A36 s.roles.length d37] 33 :: .blk b42 [.slice A15 b.names.concepts.length d16, .slice A19 b.names.roles.length d20, .slice A23 b.names.inds.length d24, .slice A3 b.incls.length d4, .slice A6 b.roles.length d7, .slice A9 b.facts.length d10, .slice A12 b.links.length d13] 30 :: .vec (.slice A_l l.length c_l) l.length 3 1 l_l :: G)) (fun (b_ : Nat × List (Int) × Option Addr × Nat × List Value × List (Int) × Option Addr × Nat × List Value) (R_ : RO) => match b_ with | (i, x, A_x, c_x, l_x, y, A_y, c_y, l_y) => (kInt).reps R_ x l_x ∧ (kInt).reps R_ y l_y ∧ (i ≤ l.length ∧ Sig.mk x y = jP b (l.take i) s ∧ x.length ≤ 1000 + i * 800 ∧ y.length ≤ 1000 + i * 800)) (0, (([] : List (Int)) ++ s.concepts), A48, c49, l50, (([] : List (Int)) ++ s.roles), A59, c60, l61) (by repeat' constructor) (by refine ⟨hv360, hv359, ?_⟩; exact ⟨by omega, rfl, by simp; omega, by simp; omega⟩) (fun w hw => hw) ?_
 rintro ⟨i, x, A_x, c_x, l_x, y, A_y, c_y, l_y⟩ R367 hle368 hI365 ih366
 try replace hr_b := kBase.mono _ _ _ _ hle368 hr_b
 try replace hv_l := Kd.reps_mono hle368 hv_l
 have hle369 := hle358.trans hle368
 show TC Tryz.prog _ _ _ [] [(3, .pointer (some ⟨b42, 0, none⟩)), (6, .pointer (some ⟨b44, 0, none⟩)), (7, .pointer (some ⟨b67, 0, none⟩)), (19, .slice A_l l.length c_l), (20, .int .i64 (l.length : Int)), (21, .int .i64 (i : Int))] R367 (.blk b67 [.slice A_x x.length c_x, .slice A_y y.length c_y] 33 :: .vec (.slice A_y y.length c_y) y.length 3 1 l_y :: .vec (.slice A_x x.length c_x) x.length 3 1 l_x :: .blk b44 [.slice none 0 0, .slice none 0 0] 33 :: .blk b43 [.slice A32 s.concepts.length d33, .slice A36 s.roles.length d37] 33 :: .blk b42 [.slice A15 b.names.concepts.length d16, .slice A19 b.names.roles.length d20, .slice A23 b.names.inds.length d24, .slice A3 b.incls.length d4, .slice A6 b.roles.length d7, .slice A9 b.facts.length d10, .slice A12 b.links.length d13] 30 :: .vec (.slice A_l l.length c_l) l.length 3 1 l_l :: G)
 obtain ⟨hv362, hv364, hI370⟩ := hI365
 obtain ⟨hi1, hi2, hi3, hi4⟩ := hI370
 have hi5 : i ≤ 1000 := by omega
 refine qE <| qA ?_
 refine tl (jR rfl rfl rfl) ?_
 refine qB <| qC <| qE ?_
 refine qP 22 rfl (fun h371 => ?_) (fun h371 => ?_)
 refine xE rfl ?_
 refine qZ <| qC <| qE <| qX <| qE <| qA ?_
 have hb374 : i < l.length := by omega
 obtain ⟨x372, hx373⟩ : ∃ x, l[i]? = some x := ⟨_, List.getElem?_eq_getElem hb374⟩
 obtain ⟨c375, hr376, hc377⟩ := Kd.reps_get1 rfl hv_l hx373
 obtain ⟨hz378_, hz378⟩ := id hr376
 cases hz378_
 unfold i64 at hz378
 have hf379 := hl.2 _ (List.mem_of_getElem? hx373)
 have hf380 := iB (b := b) hx373 s
 refine tl (vR (i := i) 6 rfl rfl rfl pL hb374) ?_
 refine tl (hC 6 rfl rfl ld3 hc377) ?_
 refine tl (qD rfl) ?_
 refine qB <| qC <| qA ?_
 refine tl (qQ 5 [.slice A15 b.names.concepts.length d16, .slice A19 b.names.roles.length d20, .slice A23 b.names.inds.length d24, .slice A3 b.incls.length d4, .slice A6 b.roles.length d7, .slice A9 b.facts.length d10, .slice A12 b.links.length d13] rfl pN rfl rfl) ?_
 refine tl (qG rfl) ?_
 refine tl (qQ 0 [.slice A_x x.length c_x, .slice A_y y.length c_y] rfl yM rfl rfl) ?_
 refine tR (.vec (.slice A_x x.length c_x) x.length 3 1 l_x :: .vec (.slice A_y y.length c_y) y.length 3 1 l_y :: .blk b67 [.slice A_x x.length c_x, .slice A_y y.length c_y] 33 :: .blk b44 [.slice none 0 0, .slice none 0 0] 33 :: .blk b43 [.slice A32 s.concepts.length d33, .slice A36 s.roles.length d37] 33 :: .blk b42 [.slice A15 b.names.concepts.length d16, .slice A19 b.names.roles.length d20, .slice A23 b.names.inds.length d24, .slice A3 b.incls.length d4, .slice A6 b.roles.length d7, .slice A9 b.facts.length d10, .slice A12 b.links.length d13] 30 :: .vec (.slice A_l l.length c_l) l.length 3 1 l_l :: G) (fun w hw => ((hw.pick 1).pick 2)) ?_
 refine xD ca56 rfl (fun w hw => bK b x372 (Sig.mk x y) hr_b (by unfold i64; omega) hv362 hv364 (by first | assumption | omega | (dsimp only; omega)) (by first | assumption | omega | (dsimp only; omega)) (by first | assumption | omega | (dsimp only; omega)) hw) rfl ?_
 rintro _ R382 _ hle383 ⟨A_z381_01, c_z381_01, l_z381_01, A_z381_02, c_z381_02, l_z381_02, rfl, rfl, hv_z381_01, hv_z381_02⟩
 try replace hv362 := Kd.reps_mono hle383 hv362
 try replace hv364 := Kd.reps_mono hle383 hv364
 have hle384 := hle369.trans hle383
 have hle385 := hle368.trans hle383
 refine xN 2 [.slice A_z381_01 ((wQ b x372.toNat (Sig.mk x y)).concepts.length) c_z381_01, .slice A_z381_02 ((wQ b x372.toNat (Sig.mk x y)).roles.length) c_z381_02] rfl rfl yM rfl rfl rfl rfl rfl rfl ?_
 refine qB <| jC <| qC <| qA ?_
 refine tl (jT rfl rfl (by omega) (by omega)) ?_
 refine tl (qG rfl) ?_
 refine qB ?_
 refine xQ ?_
 exact fun a w ha hw => ih366.out (i + 1, (wQ b x372.toNat (Sig.mk x y)).concepts, A_z381_01, c_z381_01, l_z381_01, (wQ b x372.toNat (Sig.mk x y)).roles, A_z381_02, c_z381_02, l_z381_02) _ (hle383) (by refine ⟨hv_z381_01, hv_z381_02, ?_⟩; (have u_ := nZ hB x372.toNat (Sig.mk x y); simp only at u_; refine ⟨by omega, ?_, by omega, by omega⟩; rw [iB hx373, ← hi2])) (by (try dsimp only); omega) a w (ha.sub (xL (by repeat' constructor))) ((((((((hw.pick 6).pick 6).pick 6).pick 6).pick 4).pick 5).pick 6))
 refine xV rfl ?_
 refine jE <| qK <| qK <| xG <| qC <| qE <| qA ?_
 refine tl (qQ 0 [.slice A_x x.length c_x, .slice A_y y.length c_y] rfl yM rfl rfl) ?_
 refine xN 3 [.slice A_x x.length c_x, .slice A_y y.length c_y] rfl rfl yM rfl rfl rfl rfl rfl rfl ?_
 refine qB <| qC <| qV ?_
 refine kO (cells := [.slice A_x x.length c_x, .slice A_y y.length c_y]) 3 (.inl rfl) rfl rfl yM rfl ?_
 have e386 : (Sig.mk x y : Sig) = jP b l s := by (rw [hi2, xF (by assumption) (by assumption)])
 intro w hw
 exact ⟨_, _, [.vec (.slice A_x x.length c_x) x.length 3 1 l_x, .vec (.slice A_y y.length c_y) y.length 3 1 l_y, .vec (.slice A_l l.length c_l) l.length 3 1 l_l], rfl, hle369, ((((((hw.tail.pick 2).tail.pick 2).tail.pick 2).tail.pick 2).pick 1).pick 2), A_x, c_x, l_x, A_y, c_y, l_y, (congrArg (fun (z0_ : Sig) => (.agg #[.slice A_x (Sig.concepts z0_).length c_x, .slice A_y (Sig.roles z0_).length c_y] : Value)) e386), (congrArg (fun (z0_ : Sig) => ([.vec (.slice A_x (Sig.concepts z0_).length c_x) (Sig.concepts z0_).length 3 1 l_x, .vec (.slice A_y (Sig.roles z0_).length c_y) (Sig.roles z0_).length 3 1 l_y, .vec (.slice A_l l.length c_l) l.length 3 1 l_l] : List Res)) e386), (Eq.mp (congrArg (fun z => kInt.reps R367 (Sig.concepts z) l_x) e386) hv362), (Eq.mp (congrArg (fun z => kInt.reps R367 (Sig.roles z) l_y) e386) hv364)⟩

end Go.Proofs.YtcbcdlajnmkioaaGreatDoor
