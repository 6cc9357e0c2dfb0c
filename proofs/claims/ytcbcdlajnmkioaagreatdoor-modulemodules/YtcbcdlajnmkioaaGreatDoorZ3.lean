/- A part of the proof of the statement ModuleModules of isagogelaw19: functions walked, and plain laws on what they answer. -/
import Derived.Test.YtcbcdlajnmkioaaGreatDoorZ2
namespace Go.Proofs.YtcbcdlajnmkioaaGreatDoor
open Go Go.Proofs
set_option linter.unusedSimpArgs false
set_option linter.unusedVariables false
set_option maxRecDepth 20000
set_option maxHeartbeats 8000000
theorem ca70 : Callable Tryz.prog 70 := ⟨by kernel_rfl⟩
theorem ca84 : Callable Tryz.prog 84 := ⟨by kernel_rfl⟩

theorem sX {R : RO} {G : List Res} {w : World} (k : Int) (q : List Int) {b_q m_q : Nat} (hi_k : i64 k) (hb_q : Res.blk b_q [.map (some m_q)] 98 ∈ G) (hm_q : Res.set jS m_q q ∈ G) (hw : Own w R (G)) :
    Calls Tryz.prog 70 [.int .i64 k, .pointer (some ⟨b_q, 0, none⟩)].toArray w (kK R G (.bool (decide (¬ k ∈ q)))) := by
 unfold i64 at hi_k
 refine xH (vs := [.int .i64 k, .pointer (some ⟨b_q, 0, none⟩)]) Tryz.func70 rfl rfl rfl ?_ hw
 refine qE <| qA ?_
 refine tl (qD rfl) ?_
 refine qB <| qC <| qE <| qA ?_
 refine tl (qH9 hb_q rfl rR rfl) ?_
 refine tl (qG rfl) ?_
 refine tl (gJ (K := jS) (ks := q) (k := k) lJ hm_q rfl rfl) ?_
 refine tl (wZ rfl) ?_
 refine tl (qD rfl) ?_
 refine qB <| qC <| qV ?_
 refine xB (.inl rfl) rfl rfl ?_
 have e1 : (decide (¬ (k ∈ q)) : Bool) = decide (¬ k ∈ q) := by rfl
 exact fun w hw => ⟨congrArg Ending.returned (congrArg (fun x0 => Value.bool x0) e1), hw⟩

def nF (l q : List Int) : Int := match l.findIdx? (fun k => !decide (k ∈ q)) with | some i => i | none => -1
theorem idxN_at {l q : List Int} {i : Nat} {x : Int} (h : l[i]? = some x) (hx : ¬ x ∈ q) (hp : ∀ y ∈ l.take i, y ∈ q) : nF l q = i := by
  have : l.findIdx? (fun k => !decide (k ∈ q)) = some i := by
    rw [List.findIdx?_eq_some_iff_getElem]
    obtain ⟨hl, rfl⟩ := List.getElem?_eq_some_iff.1 h
    refine ⟨hl, by simpa using hx, fun j hj => ?_⟩
    have := hp l[j] (List.mem_of_getElem? (i := j) (by rw [List.getElem?_take, if_pos hj, List.getElem?_eq_getElem (by omega)]))
    simpa using this
  simp [nF, this]
theorem qM9 {l q : List Int} (hp : ∀ y ∈ l, y ∈ q) : nF l q = -1 := by
  have : l.findIdx? (fun k => !decide (k ∈ q)) = none := by
    rw [List.findIdx?_eq_none_iff]; intro x hx; simpa using hp x hx
  simp [nF, this]
theorem oX (l q : List Int) : (nF l q = -1 ∧ l.filter (fun k => decide (k ∈ q)) = l) ∨ (0 ≤ nF l q ∧ (nF l q).toNat < l.length ∧ l.take (nF l q).toNat = (l.take ((nF l q).toNat + 1)).filter fun k => decide (k ∈ q)) := by
  unfold nF
  cases h : l.findIdx? (fun k => !decide (k ∈ q)) with
  | none =>
    left
    rw [List.findIdx?_eq_none_iff] at h
    exact ⟨rfl, List.filter_eq_self.2 fun x hx => by simpa using h x hx⟩
  | some i =>
    right
    rw [List.findIdx?_eq_some_iff_getElem] at h
    obtain ⟨hl, hx, hj⟩ := h
    simp only [Int.toNat_natCast]
    refine ⟨by omega, hl, ?_⟩
    rw [jQ (List.getElem?_eq_getElem hl), List.filter_append, List.filter_eq_self.2 fun x hx => ?_]
    · have : [l[i]].filter (fun k => decide (k ∈ q)) = [] := by simpa using hx
      rw [this]; simp
    · obtain ⟨j, hj1, rfl⟩ := List.getElem_of_mem hx
      simp only [List.length_take] at hj1
      have := hj j (by omega)
      simpa [List.getElem_take] using this

theorem sI {R : RO} {G : List Res} {w : World} {A_l : Option Addr} {d_l : Nat} (l : List (Int)) (q : List Int) {b_q m_q : Nat} (hs_l : SlAt kInt R A_l l) (hb_q : Res.blk b_q [.map (some m_q)] 98 ∈ G) (hm_q : Res.set jS m_q q ∈ G) (hw : Own w R (G)) :
    Calls Tryz.prog 84 [.slice A_l l.length d_l, .func (.func 70) #[] #[.pointer (some ⟨b_q, 0, none⟩)]].toArray w (kK R G (.int .i64 (nF l q))) := by
 have hz_l := hs_l.size
 unfold big at hz_l
 refine xH (vs := [.slice A_l l.length d_l, .func (.func 70) #[] #[.pointer (some ⟨b_q, 0, none⟩)]]) Tryz.func84 rfl rfl rfl ?_ hw
 refine qE <| qA ?_
 refine tl (qD rfl) ?_
 refine qB <| qC <| qE <| qE <| qA ?_
 refine tl (qG rfl) ?_
 refine tl (jJ rfl pL) ?_
 refine tl (qG rfl) ?_
 refine qB <| qC <| qX ?_
 refine jF ?_
 refine jN (fun i : Nat => l.length - i) (fun i : Nat => [(0, .slice A_l l.length d_l), (1, .func (.func 70) #[] #[.pointer (some ⟨b_q, 0, none⟩)]), (7, .int .i64 (l.length : Int)), (8, .int .i64 (i : Int))]) (fun i : Nat => (G)) (fun (i : Nat) => i ≤ l.length ∧ ∀ y ∈ l.take i, y ∈ q) (0) ⟨rfl, rfl, rfl, rfl, trivial⟩ (by exact ⟨by omega, by simp⟩) (fun w hw => hw) ?_
 rintro i hI1 ih2
 show TC Tryz.prog _ _ _ [] [(0, .slice A_l l.length d_l), (1, .func (.func 70) #[] #[.pointer (some ⟨b_q, 0, none⟩)]), (7, .int .i64 (l.length : Int)), (8, .int .i64 (i : Int))] R (G)
 obtain ⟨hi1, hi2⟩ := hI1
 refine qE <| qA ?_
 refine tl (jR rfl rfl rfl) ?_
 refine qB <| qC <| qE ?_
 refine qP 9 rfl (fun h5 => ?_) (fun h5 => ?_)
 refine xE rfl ?_
 refine qZ <| qC <| qE <| qX <| qE <| qA ?_
 refine tl (qG rfl) ?_
 refine tl (qD rfl) ?_
 refine qB <| qC <| qE <| qA ?_
 refine tl (qG rfl) ?_
 refine tl (qG rfl) ?_
 refine tl (qG rfl) ?_
 have hb11 : i < l.length := by omega
 obtain ⟨x6, hx7⟩ : ∃ x, l[i]? = some x := ⟨_, List.getElem?_eq_getElem hb11⟩
 obtain ⟨c8, hr9, ha10⟩ := hs_l.get _ x6 hx7
 obtain ⟨rfl, i12⟩ := hr9
 unfold i64 at i12
 refine tl (jV (i := i) hs_l rfl rfl rfl pL hb11) ?_
 refine tl (yN 0 ha10 rfl ld3 rfl rfl) ?_
 refine wV (pE ca70 rfl rfl) (fun w hw => sX x6 q (by unfold i64; omega) hb_q hm_q hw) rfl ?_
 refine qB <| qC ?_
 refine qP 16 rfl (fun h13 => ?_) (fun h13 => ?_)
 refine xE rfl ?_
 refine qE <| qA ?_
 refine tl (qG rfl) ?_
 refine tl (qD rfl) ?_
 refine qB <| qC <| qV <| qN <| qI <| qI <| qN <| qI ?_
 refine xB (.inl rfl) rfl rfl ?_
 have e14 : ((i : Int) : Int) = nF l q := by (symm; exact idxN_at hx7 (by grind) hi2)
 exact fun w hw => ⟨congrArg Ending.returned (congrArg (fun x0 => Value.int .i64 x0) e14), hw⟩
 refine xV rfl ?_
 refine qZ <| jC <| qC <| qA ?_
 refine tl (jT rfl rfl (by omega) (by omega)) ?_
 refine tl (qG rfl) ?_
 refine qB ?_
 refine xQ ?_
 exact fun a w ha hw => ih2.out (i + 1) (by exact ⟨by omega, vQ hi2 hx7 (by grind)⟩) (by (try dsimp only); omega) a w (ha.sub (xL ⟨rfl, rfl, rfl, rfl, trivial⟩)) (hw)
 refine xV rfl ?_
 refine jE <| qK <| qK <| xG <| qC <| qE <| qA ?_
 refine tl (qD rfl) ?_
 refine qB <| qC <| qV ?_
 refine xB (.inl rfl) rfl rfl ?_
 have e15 : ((-1) : Int) = nF l q := by (rw [xF (by assumption) (by assumption)] at hi2; exact (qM9 hi2).symm)
 exact fun w hw => ⟨congrArg Ending.returned (congrArg (fun x0 => Value.int .i64 x0) e15), hw⟩

theorem del_keep {s u q : List Int} {i j : Nat} {x : Int} (hu : u.length = s.length) (h1 : u.take i = (s.take j).filter fun k => decide (k ∈ q)) (h2 : u.drop j = s.drop j) (hij : i ≤ j) (hx : u[j]? = some x) (hq : x ∈ q) :
    (u.set i x).length = s.length ∧ (u.set i x).take (i + 1) = (s.take (j + 1)).filter (fun k => decide (k ∈ q)) ∧ (u.set i x).drop (j + 1) = s.drop (j + 1) := by
  have hj : j < u.length := (List.getElem?_eq_some_iff.1 hx).1
  have hs : s[j]? = some x := by
    have := congrArg (fun l => l[0]?) h2
    simp only [List.getElem?_drop, Nat.add_zero] at this
    rw [← this]; exact hx
  refine ⟨by simp [hu], ?_, ?_⟩
  · rw [jQ hs, List.filter_append, ← h1, List.take_add_one, List.getElem?_set_self (by omega), List.take_set_of_le (by omega)]
    simp [hq]
  · rw [List.drop_set_of_lt (by omega)]
    have := congrArg (List.drop 1) h2
    simpa [List.drop_drop] using this
theorem del_skip {s u q : List Int} {i j : Nat} {x : Int} (h1 : u.take i = (s.take j).filter fun k => decide (k ∈ q)) (h2 : u.drop j = s.drop j) (hx : u[j]? = some x) (hq : ¬ x ∈ q) :
    u.take i = (s.take (j + 1)).filter (fun k => decide (k ∈ q)) ∧ u.drop (j + 1) = s.drop (j + 1) := by
  have hs : s[j]? = some x := by
    have := congrArg (fun l => l[0]?) h2
    simp only [List.getElem?_drop, Nat.add_zero] at this
    rw [← this]; exact hx
  refine ⟨?_, ?_⟩
  · rw [jQ hs, List.filter_append, ← h1]; simp [hq]
  · have := congrArg (List.drop 1) h2
    simpa [List.drop_drop] using this

theorem pK {R : RO} {G : List Res} {w : World} (s : List (Int)) {A_s : Option Addr} {c_s : Nat} {l_s : List Value} (q : List Int) {b_q m_q : Nat} (hv_s : (kInt).reps R s l_s) (hb_q : Res.blk b_q [.map (some m_q)] 98 ∈ G) (hm_q : Res.set jS m_q q ∈ G) (hb : s.length ≤ 1000) (hw : Own w R (.vec (.slice A_s s.length c_s) s.length 3 1 l_s :: G)) :
    Calls Tryz.prog 68 [.slice A_s s.length c_s, .func (.func 70) #[] #[.pointer (some ⟨b_q, 0, none⟩)]].toArray w (gZ R G (fun v_ R' L_ => ∃ (A_0 : Option Addr) (c_0 : Nat) (l_0 : List Value), v_ = (.slice A_0 ((s.filter fun k => decide (k ∈ q)).length) c_0 : Value) ∧ L_ = ([.vec (.slice A_0 ((s.filter fun k => decide (k ∈ q)).length) c_0) ((s.filter fun k => decide (k ∈ q)).length) 3 1 l_0] : List Res) ∧ (kInt).reps R' (s.filter fun k => decide (k ∈ q)) l_0)) := by
 have hsp := oX s q
 refine xH (vs := [.slice A_s s.length c_s, .func (.func 70) #[] #[.pointer (some ⟨b_q, 0, none⟩)]]) Tryz.func68 rfl rfl rfl ?_ hw
 refine qE <| qA ?_
 refine tl (qD rfl) ?_
 refine qB <| qC <| qE <| qA ?_
 refine tl (qG rfl) ?_
 refine tl (qG rfl) ?_
 refine tX (k := kInt) (l := s) 0 rfl hv_s rfl (by omega) ca84 rfl (fun R_ w hle_ hlent hw => by exact sI s q hlent hb_q hm_q hw) rfl ?_
 have hf3 := oX s q
 refine tl (qD rfl) ?_
 refine qB <| qC <| qE <| qE <| qA ?_
 refine tl (qG rfl) ?_
 refine tl (jR rfl rfl rfl) ?_
 refine qB <| qC ?_
 refine qP 12 rfl (fun h4 => ?_) (fun h4 => ?_)
 refine xE rfl ?_
 refine qE <| qA ?_
 refine tl (qG rfl) ?_
 refine tl (qD rfl) ?_
 refine qB <| qC <| qV <| qI ?_
 refine xB (.inl rfl) rfl rfl ?_
 have e5 : (s : List (Int)) = s.filter fun k => decide (k ∈ q) := by (obtain ⟨k1_, k2_⟩ | ⟨k1_, k2_, k3_⟩ := hsp; exact k2_.symm; omega)
 intro w hw
 exact ⟨_, _, [.vec (.slice A_s s.length c_s) s.length 3 1 l_s], rfl, .refl _, hw, A_s, c_s, l_s, (congrArg (fun (z0_ : List (Int)) => (.slice A_s z0_.length c_s : Value)) e5), (congrArg (fun (z0_ : List (Int)) => ([.vec (.slice A_s z0_.length c_s) z0_.length 3 1 l_s] : List Res)) e5), (Eq.mp (congrArg (fun z => (kInt).reps R z l_s) e5) hv_s)⟩
 refine xV rfl ?_
 refine qZ <| qC <| qE <| qE <| qA ?_
 refine tl (qG rfl) ?_
 refine tl (jT rfl rfl (by omega) (by omega)) ?_
 refine tl (qD rfl) ?_
 refine qB <| qC <| qX ?_
 refine jF ?_
 refine jN (fun b_ : Nat × Nat × List (Int) × Option Addr × Nat × List Value => match b_ with | (i, j, u, A_u, c_u, l_u) => s.length - j) (fun b_ : Nat × Nat × List (Int) × Option Addr × Nat × List Value => match b_ with | (i, j, u, A_u, c_u, l_u) => [(1, .func (.func 70) #[] #[.pointer (some ⟨b_q, 0, none⟩)]), (4, .slice none 0 0), (5, .int .i64 (i : Int)), (6, .int .i64 (j : Int)), (0, .slice A_u u.length c_u)]) (fun b_ : Nat × Nat × List (Int) × Option Addr × Nat × List Value => match b_ with | (i, j, u, A_u, c_u, l_u) => (.vec (.slice A_u u.length c_u) u.length 3 1 l_u :: G)) (fun (b_ : Nat × Nat × List (Int) × Option Addr × Nat × List Value) => match b_ with | (i, j, u, A_u, c_u, l_u) => (kInt).reps R u l_u ∧ (i < j ∧ j ≤ s.length ∧ u.length = s.length ∧ u.take i = (s.take j).filter (fun k => decide (k ∈ q)) ∧ u.drop j = s.drop j)) ((nF s q).toNat, (nF s q).toNat + 1, s, A_s, c_s, l_s) ⟨rfl, rfl, congrArg (fun z => some (Value.int .i64 z)) (show (nF s q : Int) = (((nF s q).toNat) : Int) by omega), congrArg (fun z => some (Value.int .i64 z)) (show ((nF s q) + 1 : Int) = (((nF s q).toNat + 1) : Int) by omega), rfl, trivial⟩ (by refine ⟨hv_s, ?_⟩; (obtain ⟨k1_, k2_⟩ | ⟨k1_, k2_, k3_⟩ := hsp; exact absurd k1_ (by assumption); exact ⟨by omega, by omega, rfl, k3_, rfl⟩)) (fun w hw => hw) ?_
 rintro ⟨i, j, u, A_u, c_u, l_u⟩ hI8 ih9
 show TC Tryz.prog _ _ _ [] [(1, .func (.func 70) #[] #[.pointer (some ⟨b_q, 0, none⟩)]), (4, .slice none 0 0), (5, .int .i64 (i : Int)), (6, .int .i64 (j : Int)), (0, .slice A_u u.length c_u)] R (.vec (.slice A_u u.length c_u) u.length 3 1 l_u :: G)
 obtain ⟨hv7, hI12⟩ := hI8
 obtain ⟨hi1, hi2, hi3, hi4, hi5⟩ := hI12
 refine qE <| qE <| qA ?_
 refine tl (qG rfl) ?_
 refine tl (qG rfl) ?_
 refine tl (jJ rfl pL) ?_
 refine tl (jR rfl rfl rfl) ?_
 refine qB <| qC ?_
 refine qP 19 rfl (fun h13 => ?_) (fun h13 => ?_)
 refine xE rfl ?_
 refine qZ <| qC <| qE <| qX <| qE <| qA ?_
 refine tl (qG rfl) ?_
 refine tl (qG rfl) ?_
 have hb16 : j < u.length := by omega
 obtain ⟨x14, hx15⟩ : ∃ x, u[j]? = some x := ⟨_, List.getElem?_eq_getElem hb16⟩
 obtain ⟨c17, hr18, hc19⟩ := Kd.reps_get1 rfl hv7 hx15
 obtain ⟨hz20_, hz20⟩ := id hr18
 cases hz20_
 unfold i64 at hz20
 refine tl (vR (i := j) 0 rfl rfl rfl pL hb16) ?_
 refine tl (hC 0 rfl rfl ld3 hc19) ?_
 refine tl (qD rfl) ?_
 refine qB <| qC <| qE <| qA ?_
 refine tl (qG rfl) ?_
 refine tl (qG rfl) ?_
 refine wV (pE ca70 rfl rfl) (fun w hw => sX x14 q (by unfold i64; omega) (.tail _ (hb_q)) (.tail _ (hm_q)) hw) rfl ?_
 refine tl (wZ rfl) ?_
 refine qB <| qC ?_
 refine qP 29 rfl (fun h21 => ?_) (fun h21 => ?_)
 refine xE rfl ?_
 refine qE <| qA ?_
 refine tl (qG rfl) ?_
 refine tl (qG rfl) ?_
 refine tl (qG rfl) ?_
 have hb24 : i < u.length := by omega
 obtain ⟨x22, hx23⟩ : ∃ x, u[i]? = some x := ⟨_, List.getElem?_eq_getElem hb24⟩
 obtain ⟨c25, hr26, hc27⟩ := Kd.reps_get1 rfl hv7 hx23
 obtain ⟨hz28_, hz28⟩ := id hr26
 cases hz28_
 unfold i64 at hz28
 refine tl (vR (i := i) 0 rfl rfl rfl pL hb24) ?_
 have hb29 : i < l_u.length := by rw [Kd.reps_length hv7]; show _ < _ * 1; omega
 have hv30 := Kd.reps_set1 (k := kInt) (y := x14) (v := .int .i64 x14) rfl (⟨rfl, by unfold i64; omega⟩) i hv7
 refine tl_stV 0 rfl rfl rfl ld3 rfl hb29 ?_
 have hl32 : (u.set i x14).length = u.length := List.length_set
 refine lM [(1, .func (.func 70) #[] #[.pointer (some ⟨b_q, 0, none⟩)]), (4, .slice none 0 0), (5, .int .i64 (i : Int)), (6, .int .i64 (j : Int)), (0, .slice A_u ((u.set i x14).length) c_u), (16, .int .i64 (j : Int)), (17, .slice A_u ((u.set i x14).length) c_u), (18, .int .i64 (u.length : Int)), (19, .bool true), (22, .slice A_u ((u.set i x14).length) c_u), (23, .int .i64 (j : Int)), (25, .int .i64 x14), (7, .int .i64 x14), (26, .func (.func 70) #[] #[.pointer (some ⟨b_q, 0, none⟩)]), (27, .int .i64 x14), (28, .bool (decide (¬ x14 ∈ q))), (29, .bool true), (30, .slice A_u ((u.set i x14).length) c_u), (31, .int .i64 (i : Int)), (32, .int .i64 x14)] (by rw [hl32]; exact (by repeat' constructor)) ?_
 refine tR (.vec (.slice A_u ((u.set i x14).length) c_u) ((u.set i x14).length) 3 1 (l_u.set i (.int .i64 x14)) :: G) (fun w hw => by rw [hl32]; exact hw) ?_
 refine qB <| qC <| qA ?_
 refine tl (qG rfl) ?_
 refine tl (jT rfl rfl (by omega) (by omega)) ?_
 refine tl (qD rfl) ?_
 refine qB <| jC <| qC <| qA ?_
 refine tl (qG rfl) ?_
 refine tl (jT rfl rfl (by omega) (by omega)) ?_
 refine tl (qD rfl) ?_
 refine qB ?_
 refine xQ ?_
 exact fun a w ha hw => ih9.out (i + 1, j + 1, (u.set i x14), A_u, c_u, (l_u.set i (.int .i64 x14))) (by refine ⟨hv30, ?_⟩; (obtain ⟨k1_, k2_, k3_⟩ := del_keep hi3 hi4 hi5 (by omega) hx15 (by grind); exact ⟨by omega, by omega, k1_, k2_, k3_⟩)) (by (try dsimp only); omega) a w (ha.sub (xL ⟨rfl, rfl, rfl, congrArg (fun z => some (Value.int .i64 z)) (show ((j : Int) + 1 : Int) = ((j + 1) : Int) by first | rfl | omega), rfl, trivial⟩)) (hw)
 refine xV rfl ?_
 refine qZ <| jC <| qC <| qA ?_
 refine tl (qG rfl) ?_
 refine tl (jT rfl rfl (by omega) (by omega)) ?_
 refine tl (qD rfl) ?_
 refine qB ?_
 refine xQ ?_
 exact fun a w ha hw => ih9.out (i, j + 1, u, A_u, c_u, l_u) (by refine ⟨hv7, ?_⟩; (obtain ⟨k2_, k3_⟩ := del_skip hi4 hi5 hx15 (by grind); exact ⟨by omega, by omega, hi3, k2_, k3_⟩)) (by (try dsimp only); omega) a w (ha.sub (xL ⟨rfl, rfl, rfl, congrArg (fun z => some (Value.int .i64 z)) (show ((j : Int) + 1 : Int) = ((j + 1) : Int) by first | rfl | omega), rfl, trivial⟩)) (hw)
 refine xV rfl ?_
 refine jE <| qK <| qK <| xG <| qC <| qE <| qA ?_
 refine tl (qG rfl) ?_
 refine tl (qG rfl) ?_
 have hlo33 : i ≤ u.length := by omega
 have hhi34 : u.length ≤ u.length := by omega
 have hv36 := Kd.reps_take (u.length - i) (Kd.reps_drop i hv7)
 have hl37 : u.length - i = ((u.drop i).take (u.length - i)).length := by simp only [List.length_take, List.length_drop]; omega
 refine tl (fF i u.length 0 rfl rfl pL rfl rfl hlo33 hhi34) ?_
 refine qH8 (lo := i) 0 zR rfl rfl rfl rfl hlo33 ?_
 have hv38 : (kInt).reps R (u.take i ++ List.replicate (u.length - i) (0 : Int)) (l_u.take i ++ List.replicate (u.length - i) (Value.int .i64 0)) := qE0 (k := kInt) rfl hv7 (⟨rfl, by unfold i64; omega⟩) _ _
 have hl39 : u.length = (u.take i ++ List.replicate (u.length - i) (0 : Int)).length := by rw [List.length_append, List.length_take, List.length_replicate]; omega
 refine lM [(1, .func (.func 70) #[] #[.pointer (some ⟨b_q, 0, none⟩)]), (4, .slice none 0 0), (5, .int .i64 (i : Int)), (6, .int .i64 (j : Int)), (0, .slice A_u ((u.take i ++ List.replicate (u.length - i) (0 : Int)).length) c_u), (16, .int .i64 (j : Int)), (17, .slice A_u ((u.take i ++ List.replicate (u.length - i) (0 : Int)).length) c_u), (18, .int .i64 (u.length : Int)), (19, .bool false), (36, .slice A_u ((u.take i ++ List.replicate (u.length - i) (0 : Int)).length) c_u), (37, .int .i64 (i : Int))] (by rw [← hl39]; exact (by repeat' constructor)) ?_
 refine tR (.vec (.slice A_u ((u.take i ++ List.replicate (u.length - i) (0 : Int)).length) c_u) ((u.take i ++ List.replicate (u.length - i) (0 : Int)).length) 3 1 (l_u.take i ++ List.replicate (u.length - i) (Value.int .i64 0)) :: G) (fun w hw => by rw [← hl39]; exact hw) ?_
 refine qB <| qC <| qE <| qA ?_
 refine tl (qG rfl) ?_
 refine tl (qG rfl) ?_
 have hm41 : i ≤ (u.take i ++ List.replicate (u.length - i) (0 : Int)).length := by omega
 have hv42 := Kd.reps_take i hv38
 have hl43 : i = ((u.take i ++ List.replicate (u.length - i) (0 : Int)).take i).length := by rw [List.length_take]; omega
 refine nO (m := i) 0 rfl rfl pL rfl hm41 rfl ?_
 refine lM [(1, .func (.func 70) #[] #[.pointer (some ⟨b_q, 0, none⟩)]), (4, .slice none 0 0), (5, .int .i64 (i : Int)), (6, .int .i64 (j : Int)), (16, .int .i64 (j : Int)), (18, .int .i64 (u.length : Int)), (19, .bool false), (37, .int .i64 (i : Int)), (40, .int .i64 (i : Int)), (41, .slice A_u (((u.take i ++ List.replicate (u.length - i) (0 : Int)).take i).length) c_u)] (by rw [← hl43]; exact (by repeat' constructor)) ?_
 refine tR (.vec (.slice A_u (((u.take i ++ List.replicate (u.length - i) (0 : Int)).take i).length) c_u) (((u.take i ++ List.replicate (u.length - i) (0 : Int)).take i).length) 3 1 ((l_u.take i ++ List.replicate (u.length - i) (Value.int .i64 0)).take (i * 1)) :: G) (fun w hw => by rw [← hl43]; exact hw) ?_
 refine tl (qD rfl) ?_
 refine qB <| qC <| qV ?_
 refine xB (.inl rfl) rfl rfl ?_
 have e45 : (((u.take i ++ List.replicate (u.length - i) (0 : Int)).take i) : List (Int)) = s.filter fun k => decide (k ∈ q) := by (have e_ : s.take j = s := List.take_of_length_le (by omega); rw [e_] at hi4; rw [← hi4]; rw [List.take_append_of_le_length (by simp; omega), List.take_take, Nat.min_self])
 intro w hw
 exact ⟨_, _, [.vec (.slice A_u (((u.take i ++ List.replicate (u.length - i) (0 : Int)).take i).length) c_u) (((u.take i ++ List.replicate (u.length - i) (0 : Int)).take i).length) 3 1 ((l_u.take i ++ List.replicate (u.length - i) (Value.int .i64 0)).take (i * 1))], rfl, .refl _, hw, A_u, c_u, ((l_u.take i ++ List.replicate (u.length - i) (Value.int .i64 0)).take (i * 1)), (congrArg (fun (z0_ : List (Int)) => (.slice A_u z0_.length c_u : Value)) e45), (congrArg (fun (z0_ : List (Int)) => ([.vec (.slice A_u z0_.length c_u) z0_.length 3 1 ((l_u.take i ++ List.replicate (u.length - i) (Value.int .i64 0)).take (i * 1))] : List Res)) e45), (Eq.mp (congrArg (fun z => (kInt).reps R z ((l_u.take i ++ List.replicate (u.length - i) (Value.int .i64 0)).take (i * 1))) e45) hv42)⟩

theorem ca45 : Callable Tryz.prog 45 := ⟨by kernel_rfl⟩
theorem ca46 : Callable Tryz.prog 46 := ⟨by kernel_rfl⟩
theorem ca53 : Callable Tryz.prog 53 := ⟨by kernel_rfl⟩
theorem ca68 : Callable Tryz.prog 68 := ⟨by kernel_rfl⟩
theorem ca69 : Callable Tryz.prog 69 := ⟨by kernel_rfl⟩
theorem zc98 : zG Tryz.prog 98 = some [(.map none)] := by kernel_rfl

theorem bD {l m : List Concept} (h : l.Sublist m) : jI l ≤ jI m := by
  induction h with
  | slnil => simp
  | cons x _ ih => simp only [jI]; omega
  | cons_cons x _ ih => simp only [jI]; omega
theorem incls_at {b : Base} {x : Incl} (h : x ∈ b.incls) : [x.sub, x.sup].Sublist (xM b) := by
  obtain ⟨s, t, e⟩ := List.append_of_mem h
  unfold xM wH
  rw [e, List.flatMap_append, List.flatMap_cons]
  exact ((List.sublist_append_left [x.sub, x.sup] _).trans (List.sublist_append_right _ _)).trans (List.sublist_append_left _ _)
theorem facts_at {b : Base} {x : Fact} (h : x ∈ b.facts) : [x.con].Sublist (xM b) := by
  rw [List.singleton_sublist]
  exact List.mem_append_right _ (List.mem_map.2 ⟨x, h, rfl⟩)
theorem one_ok {b : Base} (hB : BaseOk b) {x : Ax} (hx : x ∈ gH b) : BaseOk (ofB b.names [x]) := by
  simp only [gH, List.mem_append, List.mem_map] at hx
  have hn := hB.nodes
  rcases hx with ((⟨y, hy, rfl⟩ | ⟨y, hy, rfl⟩) | ⟨y, hy, rfl⟩) | ⟨y, hy, rfl⟩
  · have hs := incls_at hy
    have e : xM (ofB b.names [.incl y]) = [y.sub, y.sup] := by simp [xM, wH, wF, ofB, exI, exF]
    refine ⟨hB.names, by simp [xT, ofB, exI, exR, exF, exL], fun c hc => hB.concepts c (hs.subset (e ▸ hc)), by simp [ofB, exR], by simp [ofB, exF], by simp [ofB, exL], ?_⟩
    rw [e]; have := bD hs; omega
  · have e : xM (ofB b.names [.role y]) = [] := by simp [xM, wH, wF, ofB, exI, exF]
    refine ⟨hB.names, by simp [xT, ofB, exI, exR, exF, exL], by simp [e], ?_, by simp [ofB, exF], by simp [ofB, exL], by simp [e, jI]⟩
    intro x hx
    have : x = y := by simpa [ofB, exR] using hx
    exact this ▸ hB.roles y hy
  · have hs := facts_at hy
    have e : xM (ofB b.names [.fact y]) = [y.con] := by simp [xM, wH, wF, ofB, exI, exF]
    refine ⟨hB.names, by simp [xT, ofB, exI, exR, exF, exL], fun c hc => hB.concepts c (hs.subset (e ▸ hc)), by simp [ofB, exR], ?_, by simp [ofB, exL], ?_⟩
    · intro x hx
      have : x = y := by simpa [ofB, exF] using hx
      exact this ▸ hB.facts y hy
    · rw [e]; have := bD hs; omega
  · have e : xM (ofB b.names [.link y]) = [] := by simp [xM, wH, wF, ofB, exI, exF]
    refine ⟨hB.names, by simp [xT, ofB, exI, exR, exF, exL], by simp [e], by simp [ofB, exR], by simp [ofB, exF], ?_, by simp [e, jI]⟩
    intro x hx
    have : x = y := by simpa [ofB, exL] using hx
    exact this ▸ hB.links y hy
theorem oY {l : List Int} {x : Int} : x ∈ vJ l ↔ x ∈ l := (List.mergeSort_perm l _).mem_iff
theorem dG {b : Base} (h : BaseOk b) (x : Int) : (x ∈ (vA b).1 ↔ x ∈ (vZ b).1.1) ∧ (x ∈ (vA b).2.1 ↔ x ∈ (vZ b).1.2) := by
  have hb : vM b = true := decide_eq_true h
  unfold vA
  rw [if_pos hb]
  exact ⟨oY, oY⟩
theorem qG5 {n : Names} {op a : Int} {args : List Concept} (hc : jZ n (.mk op a args) = true) (s : List Int × List Int) (x : Int) :
    (x ∈ (kY (.mk op a args) s).1 ↔ x ∈ s.1 ∨ (op = 0 ∧ x = a)) ∧ (x ∈ (kY (.mk op a args) s).2 ↔ x ∈ s.2 ∨ ((op = 6 ∨ op = 7) ∧ x = a / 2)) := by
  have hs := ((vK n _).1 hc).1
  have ha : 0 ≤ a := hs.2.1
  have ht : a.tdiv 2 = a / 2 := Int.tdiv_eq_ediv_of_nonneg ha
  unfold kY
  simp only [Concept.op, Concept.n]
  by_cases h : op = 0
  · simp [insK_mm, h]
  · by_cases h2 : op = 6 ∨ op = 7
    · simp [insK_mm, h, h2, ht]
    · simp [h, h2]
mutual
theorem wY {n : Names} : ∀ (c : Concept), jZ n c = true → ∀ (s : List Int × List Int) (x : Int), (x ∈ (wN kY c s).1 ↔ x ∈ s.1 ∨ inC c x) ∧ (x ∈ (wN kY c s).2 ↔ x ∈ s.2 ∨ inR c x)
  | .mk op a args, hc, s, x => by
    rw [wN, inC, inR]
    have h := mD args ((vK n _).1 hc).2 (kY (.mk op a args) s) x
    have h1 := qG5 hc s x
    rw [h.1, h.2, h1.1, h1.2]
    exact ⟨or_assoc, or_assoc⟩
theorem mD {n : Names} : ∀ (l : List Concept), (∀ c ∈ l, jZ n c = true) → ∀ (s : List Int × List Int) (x : Int), (x ∈ (bL kY l s).1 ↔ x ∈ s.1 ∨ inCs l x) ∧ (x ∈ (bL kY l s).2 ↔ x ∈ s.2 ∨ inRs l x)
  | [], _, s, x => by simp [bL, inCs, inRs]
  | c :: cs, hl, s, x => by
    rw [bL, inCs, inRs]
    have h := mD cs (fun y hy => hl y (by simp [hy])) (wN kY c s) x
    have h1 := wY c (hl c (by simp)) s x
    rw [h.1, h.2, h1.1, h1.2]
    exact ⟨or_assoc, or_assoc⟩
end
theorem qA2 (b : Base) (k : Nat) : (gH b)[k]? = match b.incls[k]? with
    | some x => some (.incl x)
    | none => match b.roles[k - b.incls.length]? with
      | some x => some (.role x)
      | none => match b.facts[k - b.incls.length - b.roles.length]? with
        | some x => some (.fact x)
        | none => match b.links[k - b.incls.length - b.roles.length - b.facts.length]? with
          | some x => some (.link x)
          | none => none := by
  unfold gH
  by_cases h1 : k < b.incls.length
  · rw [List.getElem?_append_left (by simp; omega), List.getElem?_append_left (by simp; omega), List.getElem?_append_left (by simp; omega), List.getElem?_map, List.getElem?_eq_getElem h1]; rfl
  · rw [List.getElem?_eq_none (l := b.incls) (by omega)]
    simp only []
    by_cases h2 : k - b.incls.length < b.roles.length
    · rw [List.getElem?_append_left (by simp; omega), List.getElem?_append_left (by simp; omega), List.getElem?_append_right (by simp; omega), List.length_map, List.getElem?_map, List.getElem?_eq_getElem h2]; rfl
    · rw [List.getElem?_eq_none (l := b.roles) (by omega)]
      simp only []
      by_cases h3 : k - b.incls.length - b.roles.length < b.facts.length
      · rw [List.getElem?_append_left (by simp; omega), List.getElem?_append_right (by simp; omega), List.getElem?_map, show k - (b.incls.map Ax.incl ++ b.roles.map Ax.role).length = k - b.incls.length - b.roles.length by simp; omega, List.getElem?_eq_getElem h3]; rfl
      · rw [List.getElem?_eq_none (l := b.facts) (by omega)]
        simp only []
        rw [List.getElem?_append_right (by simp; omega), List.getElem?_map, show k - (b.incls.map Ax.incl ++ b.roles.map Ax.role ++ b.facts.map Ax.fact).length = k - b.incls.length - b.roles.length - b.facts.length by simp; omega]
        cases b.links[k - b.incls.length - b.roles.length - b.facts.length]? <;> rfl
theorem iT {b : Base} (hB : BaseOk b) {k : Int} (hk : 0 ≤ k ∧ k < xT b) (x : Int) : (x ∈ (vW b [k]).concepts ↔ axC b k.toNat x) ∧ (x ∈ (vW b [k]).roles ↔ axR b k.toNat x) := by
  obtain ⟨y, hy⟩ : ∃ y, (gH b)[k.toNat]? = some y := ⟨_, List.getElem?_eq_getElem (by rw [dE]; omega)⟩
  have hB1 := one_ok hB (List.mem_of_getElem? hy)
  have ep : zY b [k] = ofB b.names [y] := by simp [zY, aS, hy]
  have hm := dG hB1 x
  unfold vW axC axR
  rw [ep, hm.1, hm.2]
  rw [qA2] at hy
  have hsh : ∀ c ∈ xM (ofB b.names [y]), jZ b.names c = true := fun c hc => (hB1.concepts c hc).2.2
  unfold wQ
  split at hy
  · rename_i z hz
    obtain rfl := Option.some.inj hy
    have e : vZ (ofB b.names [.incl z]) = (wN kY z.sup (wN kY z.sub ([], [])), []) := by simp [vZ, qC3, qH2, qG1, qH3, rU, rT, ofB, exI, exR, exF, exL]
    have h1 := hsh z.sub (by simp [xM, wH, wF, ofB, exI, exF]); have h2 := hsh z.sup (by simp [xM, wH, wF, ofB, exI, exF])
    rw [e, hz]
    dsimp only
    rw [(wY z.sup h2 _ x).1, (wY z.sup h2 _ x).2, (wY z.sub h1 _ x).1, (wY z.sub h1 _ x).2, (gR _ _ _).1, (gR _ _ _).2, (gR _ _ _).1, (gR _ _ _).2]
    exact ⟨.rfl, .rfl⟩
  · rename_i hz
    rw [hz]
    dsimp only
    split at hy
    · rename_i z hz2
      obtain rfl := Option.some.inj hy
      have e : vZ (ofB b.names [.role z]) = (([], zE (zE [] (z.sub / 2)) (z.sup / 2)), []) := by simp [vZ, qC3, qH2, qG1, qH3, rU, rT, ofB, exI, exR, exF, exL]
      rw [e, hz2]
      dsimp only
      simp [insK_mm, insI_mem]
    · rename_i hz2
      rw [hz2]
      dsimp only
      split at hy
      · rename_i z hz3
        obtain rfl := Option.some.inj hy
        have e : vZ (ofB b.names [.fact z]) = (wN kY z.con ([], []), [z.ind]) := by simp [vZ, qC3, qH2, qG1, qH3, rU, rT, ofB, exI, exR, exF, exL, zE]
        have h1 := hsh z.con (by simp [xM, wH, wF, ofB, exI, exF])
        rw [e, hz3]
        dsimp only
        rw [(wY z.con h1 _ x).1, (wY z.con h1 _ x).2, (gR _ _ _).1, (gR _ _ _).2]
        exact ⟨.rfl, .rfl⟩
      · rename_i hz3
        rw [hz3]
        dsimp only
        split at hy
        · rename_i z hz4
          obtain rfl := Option.some.inj hy
          have e : (vZ (ofB b.names [.link z])).1 = ([], zE [] z.role) := by simp [vZ, qC3, qH2, qG1, qH3, rU, rT, ofB, exI, exR, exF, exL]
          rw [e, hz4]
          dsimp only
          simp [insK_mm, insI_mem]
        · cases hy
theorem gN {s : List Int} {x : Int} : ∀ {l : List Int} {s : List Int}, x ∈ wO s l ↔ x ∈ s ∨ x ∈ l
  | [], s => by simp [wO]
  | y :: l, s => by
    have : wO s (y :: l) = wO (zE s y) l := rfl
    rw [this, gN (s := s), insK_mm, List.mem_cons]; exact or_assoc
structure ModK (b : Base) (l : List Int) (s : Sig) (top : Bool) (o sa sr : List Int) : Prop where
  nd : o.Nodup
  sub : ∀ x ∈ o, x ∈ l ∧ modP b l s top x
  ea : ∀ x, x ∈ sa ↔ x ∈ (jP b o s).concepts
  er : ∀ x, x ∈ sr ↔ x ∈ (jP b o s).roles
theorem ModK.init (b : Base) (l : List Int) (s : Sig) (top : Bool) : ModK b l s top [] (wO [] s.concepts) (wO [] s.roles) :=
  ⟨List.nodup_nil, by simp, fun x => by rw [gN (s := [])]; simp [jP], fun x => by rw [gN (s := [])]; simp [jP]⟩
theorem ModK.step {b : Base} {l : List Int} {s : Sig} {top : Bool} {o sa sr : List Int} {k : Int} (h : ModK b l s top o sa sr) (hB : BaseOk b) (hk : 0 ≤ k ∧ k < xT b) (hl : k ∈ l) (hn : ¬ k ∈ o) (hloc : ¬ kD b k.toNat (Sig.mk sa sr) top = true) :
    ModK b l s top (zE o k) (wO sa (vW b [k]).concepts) (wO sr (vW b [k]).roles) := by
  have e : zE o k = o ++ [k] := by unfold zE; rw [if_neg hn]
  have hm (x : Int) : jP b (o ++ [k]) s = wQ b k.toNat (jP b o s) := by simp [jP]
  refine ⟨nB h.nd, fun x hx => ?_, fun x => ?_, fun x => ?_⟩
  · rcases insK_mm.1 hx with hx | rfl
    · exact h.sub x hx
    · exact ⟨hl, cX (fun y hy => (h.sub y hy).2) hl ⟨fun y hy => (h.ea y).1 hy, fun y hy => (h.er y).1 hy⟩ hloc⟩
  · rw [gN (s := sa), e, hm x, (cV _ _ _ _).1, h.ea, (iT hB hk x).1]
  · rw [gN (s := sr), e, hm x, (cV _ _ _ _).2, h.er, (iT hB hk x).2]
theorem ModK.loc {b : Base} {l : List Int} {s : Sig} {top : Bool} {o sa sr : List Int} {k : Int} (h : ModK b l s top o sa sr) (hloc : kD b k.toNat (Sig.mk sa sr) top = true) : kD b k.toNat (jP b o s) top = true :=
  zK ⟨fun y hy => (h.ea y).2 hy, fun y hy => (h.er y).2 hy⟩ b k.toNat top hloc
theorem ModK.done {b : Base} {l : List Int} {s : Sig} {top : Bool} {o sa sr : List Int} (h : ModK b l s top o sa sr) (hc : aP b l s top o) : (l.filter fun k => decide (k ∈ o)) = modL b l s top := by
  classical
  unfold modL
  refine List.filter_congr fun x hx => ?_
  rw [Bool.eq_iff_iff, decide_eq_true_eq, decide_eq_true_eq]
  exact ⟨fun k => (h.sub x k).2, fun k => k o hc⟩

theorem uM {R : RO} {G : List Res} {w : World} {c_b : List Value} (b : Base) {A_l : Option Addr} {d_l : Nat} (l : List (Int)) {c_s : List Value} (s : Sig) (kind : Int) (hr_b : kBase.rep R b c_b) (hs_l : SlAt kInt R A_l l) (hr_s : kSig.rep R s c_s) (hi_kind : i64 kind) (hG : Glob R) (hB : BaseOk b) (hl : l.length ≤ 1000 ∧ ∀ x ∈ l, 0 ≤ x ∧ x < xT b) (hk : 0 ≤ kind ∧ kind < 2) (hw : Own w R (G)) :
    Calls Tryz.prog 37 [.agg c_b.toArray, .slice A_l l.length d_l, .agg c_s.toArray, .int .i64 kind].toArray w (gZ R G (fun v_ R' L_ => ∃ (A_0 : Option Addr) (c_0 : Nat) (l_0 : List Value), v_ = (.slice A_0 ((modL b l s (decide (kind = 1))).length) c_0 : Value) ∧ L_ = ([.vec (.slice A_0 ((modL b l s (decide (kind = 1))).length) c_0) ((modL b l s (decide (kind = 1))).length) 3 1 l_0] : List Res) ∧ (kInt).reps R' (modL b l s (decide (kind = 1))) l_0)) := by
 obtain ⟨c1, A3, d4, A6, d7, A9, d10, A12, d13, rfl, hr2, hs5, hs8, hs11, hs14⟩ := id hr_b
 have z27 := hs5.size
 unfold big at z27
 have z28 := hs8.size
 unfold big at z28
 have z29 := hs11.size
 unfold big at z29
 have z30 := hs14.size
 unfold big at z30
 obtain ⟨A15, d16, A19, d20, A23, d24, rfl, hs17, hs21, hs25⟩ := id hr2
 have z18 := hs17.size
 unfold big at z18
 have z22 := hs21.size
 unfold big at z22
 have z26 := hs25.size
 unfold big at z26
 have hz_l := hs_l.size
 unfold big at hz_l
 obtain ⟨A31, d32, A35, d36, rfl, hs33, hs37⟩ := id hr_s
 have z34 := hs33.size
 unfold big at z34
 have z38 := hs37.size
 unfold big at z38
 unfold i64 at hi_kind
 refine xH (vs := [.agg #[.slice A15 b.names.concepts.length d16, .slice A19 b.names.roles.length d20, .slice A23 b.names.inds.length d24, .slice A3 b.incls.length d4, .slice A6 b.roles.length d7, .slice A9 b.facts.length d10, .slice A12 b.links.length d13], .slice A_l l.length d_l, .agg #[.slice A31 s.concepts.length d32, .slice A35 s.roles.length d36], .int .i64 kind]) Tryz.func37 rfl rfl rfl ?_ hw
 refine qE <| qA ?_
 refine qW (l := [.slice A15 b.names.concepts.length d16, .slice A19 b.names.roles.length d20, .slice A23 b.names.inds.length d24, .slice A3 b.incls.length d4, .slice A6 b.roles.length d7, .slice A9 b.facts.length d10, .slice A12 b.links.length d13]) rfl rfl fun b40 => ?_
 refine qW (l := [.slice A31 s.concepts.length d32, .slice A35 s.roles.length d36]) rfl rfl fun b41 => ?_
 refine tl (qD rfl) ?_
 refine qB <| qC <| qE <| qA ?_
 refine tl (qQ 0 [.slice A31 s.concepts.length d32, .slice A35 s.roles.length d36] rfl yM rfl rfl) ?_
 refine tl (qG rfl) ?_
 refine xD ca45 rfl (fun w hw => tQ s kind hr_s (by unfold i64; omega) (by omega) hw) rfl ?_
 rintro _ R46 _ hle47 ⟨b42, b43, b44, rfl, rfl, hh45⟩
 try replace hr_b := kBase.mono _ _ _ _ hle47 hr_b
 try replace hs_l := hs_l.mono hle47
 try replace hG := hG.mono hle47
 refine qS kA rfl fun b48 => ?_
 refine xN 0 [.iface (jU (decide (kind = 1))) (.agg #[]), .map (some b42), .map (some b43), .pointer (some ⟨b44, 0, none⟩)] rfl rfl kP rfl rfl rfl rfl rfl rfl ?_
 refine qB <| qC <| qE <| qA ?_
 refine xJ jS rfl fun b49 => ?_
 refine qS zc98 rfl fun b50 => ?_
 refine xN 0 [.map (some b49)] rfl rfl rR rfl rfl rfl rfl rfl rfl ?_
 refine qB <| qC <| qE <| qE <| qA ?_
 refine tl (qD rfl) ?_
 refine qB <| qC <| qX ?_
 refine jF ?_
 refine wD (fun b_ : Bool × List Int × List Int × List Int => match b_ with | (mr, sa, sr, o) => 2 * (l.length - o.length) + (if mr = true then 1 else 0)) (fun b_ : Bool × List Int × List Int × List Int => match b_ with | (mr, sa, sr, o) => [(1, .slice A_l l.length d_l), (4, .pointer (some ⟨b40, 0, none⟩)), (8, .slice none 0 0), (9, .pointer (some ⟨b48, 0, none⟩)), (10, .pointer (some ⟨b50, 0, none⟩)), (11, .bool mr)]) (fun b_ : Bool × List Int × List Int × List Int => match b_ with | (mr, sa, sr, o) => (.blk b50 [.map (some b49)] 98 :: .set jS b49 o :: .blk b48 [.iface (jU (decide (kind = 1))) (.agg #[]), .map (some b42), .map (some b43), .pointer (some ⟨b44, 0, none⟩)] 101 :: .set jS b42 sa :: .set jS b43 sr :: .blk b41 [.slice A31 s.concepts.length d32, .slice A35 s.roles.length d36] 33 :: .blk b40 [.slice A15 b.names.concepts.length d16, .slice A19 b.names.roles.length d20, .slice A23 b.names.inds.length d24, .slice A3 b.incls.length d4, .slice A6 b.roles.length d7, .slice A9 b.facts.length d10, .slice A12 b.links.length d13] 30 :: G)) (fun (b_ : Bool × List Int × List Int × List Int) (R_ : RO) => match b_ with | (mr, sa, sr, o) => ModK b l s (decide (kind = 1)) o sa sr ∧ (mr = false → aP b l s (decide (kind = 1)) o)) (true, (wO [] s.concepts), (wO [] s.roles), ([] : List Int)) (by repeat' constructor) (by exact ⟨ModK.init _ _ _ _, fun h => by cases h⟩) (fun w hw => hw) ?_
 rintro ⟨mr, sa, sr, o⟩ R53 hle54 hI51 ih52
 try replace hr_b := kBase.mono _ _ _ _ hle54 hr_b
 try replace hs_l := hs_l.mono hle54
 try replace hG := hG.mono hle54
 try replace hh45 := hh45.mono hle54
 have hle55 := hle47.trans hle54
 show TC Tryz.prog _ _ _ [] [(1, .slice A_l l.length d_l), (4, .pointer (some ⟨b40, 0, none⟩)), (8, .slice none 0 0), (9, .pointer (some ⟨b48, 0, none⟩)), (10, .pointer (some ⟨b50, 0, none⟩)), (11, .bool mr)] R53 (.blk b50 [.map (some b49)] 98 :: .set jS b49 o :: .blk b48 [.iface (jU (decide (kind = 1))) (.agg #[]), .map (some b42), .map (some b43), .pointer (some ⟨b44, 0, none⟩)] 101 :: .set jS b42 sa :: .set jS b43 sr :: .blk b41 [.slice A31 s.concepts.length d32, .slice A35 s.roles.length d36] 33 :: .blk b40 [.slice A15 b.names.concepts.length d16, .slice A19 b.names.roles.length d20, .slice A23 b.names.inds.length d24, .slice A3 b.incls.length d4, .slice A6 b.roles.length d7, .slice A9 b.facts.length d10, .slice A12 b.links.length d13] 30 :: G)
 obtain ⟨ho1, ho2⟩ := hI51
 have hol := gB ho1.nd (fun x hx => (ho1.sub x hx).1)
 refine qE <| qE <| qA ?_
 refine tl (qG rfl) ?_
 refine qB <| qC ?_
 refine vI 18 rfl (fun h56 => ?_) (fun h56 => ?_)
 refine xE rfl ?_
 refine qZ <| qC <| qX <| qE <| qA ?_
 refine tl (qD rfl) ?_
 refine qB <| qC <| qE <| qA ?_
 refine tl (qG rfl) ?_
 refine tl (jJ rfl pL) ?_
 refine tl (qG rfl) ?_
 refine qB <| qC <| qX ?_
 refine jF ?_
 refine wD (fun b_ : Nat × Bool × List Int × List Int × List Int => match b_ with | (i, m2, sa2, sr2, o2) => l.length - i) (fun b_ : Nat × Bool × List Int × List Int × List Int => match b_ with | (i, m2, sa2, sr2, o2) => [(1, .slice A_l l.length d_l), (4, .pointer (some ⟨b40, 0, none⟩)), (8, .slice none 0 0), (9, .pointer (some ⟨b48, 0, none⟩)), (10, .pointer (some ⟨b50, 0, none⟩)), (19, .slice A_l l.length d_l), (20, .int .i64 (l.length : Int)), (21, .int .i64 (i : Int)), (11, .bool m2)]) (fun b_ : Nat × Bool × List Int × List Int × List Int => match b_ with | (i, m2, sa2, sr2, o2) => (.blk b50 [.map (some b49)] 98 :: .set jS b49 o2 :: .blk b48 [.iface (jU (decide (kind = 1))) (.agg #[]), .map (some b42), .map (some b43), .pointer (some ⟨b44, 0, none⟩)] 101 :: .set jS b42 sa2 :: .set jS b43 sr2 :: .blk b41 [.slice A31 s.concepts.length d32, .slice A35 s.roles.length d36] 33 :: .blk b40 [.slice A15 b.names.concepts.length d16, .slice A19 b.names.roles.length d20, .slice A23 b.names.inds.length d24, .slice A3 b.incls.length d4, .slice A6 b.roles.length d7, .slice A9 b.facts.length d10, .slice A12 b.links.length d13] 30 :: G)) (fun (b_ : Nat × Bool × List Int × List Int × List Int) (R_ : RO) => match b_ with | (i, m2, sa2, sr2, o2) => i ≤ l.length ∧ ModK b l s (decide (kind = 1)) o2 sa2 sr2 ∧ (m2 = false → o2 = o ∧ ∀ y ∈ l.take i, ¬ y ∈ o → kD b y.toNat (jP b o s) (decide (kind = 1)) = true) ∧ (m2 = true → o.length < o2.length) ∧ o.length ≤ o2.length) (0, false, sa, sr, o) (by repeat' constructor) (by exact ⟨by omega, ho1, fun _ => ⟨rfl, by simp⟩, fun h => (by cases h), by omega⟩) (fun w hw => hw) ?_
 rintro ⟨i, m2, sa2, sr2, o2⟩ R59 hle60 hI57 ih58
 try replace hr_b := kBase.mono _ _ _ _ hle60 hr_b
 try replace hs_l := hs_l.mono hle60
 try replace hG := hG.mono hle60
 try replace hh45 := hh45.mono hle60
 have hle61 := hle55.trans hle60
 have hle62 := hle54.trans hle60
 show TC Tryz.prog _ _ _ [] [(1, .slice A_l l.length d_l), (4, .pointer (some ⟨b40, 0, none⟩)), (8, .slice none 0 0), (9, .pointer (some ⟨b48, 0, none⟩)), (10, .pointer (some ⟨b50, 0, none⟩)), (19, .slice A_l l.length d_l), (20, .int .i64 (l.length : Int)), (21, .int .i64 (i : Int)), (11, .bool m2)] R59 (.blk b50 [.map (some b49)] 98 :: .set jS b49 o2 :: .blk b48 [.iface (jU (decide (kind = 1))) (.agg #[]), .map (some b42), .map (some b43), .pointer (some ⟨b44, 0, none⟩)] 101 :: .set jS b42 sa2 :: .set jS b43 sr2 :: .blk b41 [.slice A31 s.concepts.length d32, .slice A35 s.roles.length d36] 33 :: .blk b40 [.slice A15 b.names.concepts.length d16, .slice A19 b.names.roles.length d20, .slice A23 b.names.inds.length d24, .slice A3 b.incls.length d4, .slice A6 b.roles.length d7, .slice A9 b.facts.length d10, .slice A12 b.links.length d13] 30 :: G)
 obtain ⟨hj1, hj2, hj3, hj4, hj5⟩ := hI57
 have hul := gB hj2.nd (fun x hx => (hj2.sub x hx).1)
 refine qE <| qA ?_
 refine tl (jR rfl rfl rfl) ?_
 refine qB <| qC <| qE ?_
 refine qP 22 rfl (fun h63 => ?_) (fun h63 => ?_)
 refine xE rfl ?_
 refine qZ <| qC <| qE <| qX <| qE <| qA ?_
 have hb69 : i < l.length := by omega
 obtain ⟨x64, hx65⟩ : ∃ x, l[i]? = some x := ⟨_, List.getElem?_eq_getElem hb69⟩
 obtain ⟨c66, hr67, ha68⟩ := hs_l.get _ x64 hx65
 obtain ⟨rfl, i70⟩ := hr67
 unfold i64 at i70
 have hf71 := hl.2 _ (List.mem_of_getElem? hx65)
 refine tl (jV (i := i) hs_l rfl rfl rfl pL hb69) ?_
 refine tl (yN 0 ha68 rfl ld3 rfl rfl) ?_
 refine tl (qD rfl) ?_
 refine qB <| qC ?_
 refine vH [(1, .slice A_l l.length d_l), (4, .pointer (some ⟨b40, 0, none⟩)), (8, .slice none 0 0), (9, .pointer (some ⟨b48, 0, none⟩)), (10, .pointer (some ⟨b50, 0, none⟩)), (19, .slice A_l l.length d_l), (20, .int .i64 (l.length : Int)), (21, .int .i64 (i : Int)), (11, .bool m2), (22, .bool true), (13, .int .i64 x64), (35, .bool (decide ((¬ (x64 ∈ o2)) ∧ ((!(kD b x64.toNat (Sig.mk sa2 sr2) (decide (kind = 1)))) = true))))] (.blk b50 [.map (some b49)] 98 :: .set jS b49 o2 :: .blk b48 [.iface (jU (decide (kind = 1))) (.agg #[]), .map (some b42), .map (some b43), .pointer (some ⟨b44, 0, none⟩)] 101 :: .set jS b42 sa2 :: .set jS b43 sr2 :: .blk b41 [.slice A31 s.concepts.length d32, .slice A35 s.roles.length d36] 33 :: .blk b40 [.slice A15 b.names.concepts.length d16, .slice A19 b.names.roles.length d20, .slice A23 b.names.inds.length d24, .slice A3 b.incls.length d4, .slice A6 b.roles.length d7, .slice A9 b.facts.length d10, .slice A12 b.links.length d13] 30 :: G) (fun _ => True) (fun K hK72 hE73 => ?_) ?_
 refine qA ?_
 refine tl (jM 0 rfl rR rfl rfl) ?_
 refine tl (qG rfl) ?_
 refine tl (mQ (K := jS) (ks := o2) (k := x64) 1 lJ rfl rfl rfl) ?_
 refine tl (wZ rfl) ?_
 refine tl (qG rfl) ?_
 refine xX 29 rfl (fun h74 => ?_) (fun h74 => ?_)
 refine qJ 29 rfl rfl ?_
 refine tl (qQ 2 [.iface (jU (decide (kind = 1))) (.agg #[]), .map (some b42), .map (some b43), .pointer (some ⟨b44, 0, none⟩)] rfl kP rfl rfl) ?_
 refine qJ 29 rfl rfl ?_
 refine tl (qQ 6 [.slice A15 b.names.concepts.length d16, .slice A19 b.names.roles.length d20, .slice A23 b.names.inds.length d24, .slice A3 b.incls.length d4, .slice A6 b.roles.length d7, .slice A9 b.facts.length d10, .slice A12 b.links.length d13] rfl pN rfl rfl) ?_
 refine qJ 29 rfl rfl ?_
 refine tl (qG rfl) ?_
 refine qJ 29 rfl rfl ?_
 refine xC ca46 rfl (fun w hw => gY (decide (kind = 1)) sa2 sr2 b x64 (.tail _ (.tail _ (.tail _ (.head _)))) (.tail _ (.tail _ (.tail _ (.tail _ (.head _))))) hh45 hr_b (by unfold i64; omega) (by first | assumption | omega) (by first | assumption | omega) hw) rfl ?_
 refine qJ 29 rfl rfl ?_
 refine tl (wJ rfl) ?_
 refine tl (qR rfl rfl) ?_
 refine qB ?_
 exact xW hK72 (.refl _) (trivial) ⟨rfl, rfl, rfl, rfl, rfl, rfl, rfl, rfl, rfl, rfl, rfl, show some (Value.bool (!(kD b x64.toNat (Sig.mk sa2 sr2) (decide (kind = 1))))) = some (Value.bool (decide ((¬ (x64 ∈ o2)) ∧ ((!(kD b x64.toNat (Sig.mk sa2 sr2) (decide (kind = 1)))) = true)))) by first | (simp [h74]; done) | grind | (simp [h74] <;> omega), trivial⟩ (fun w hw => hw)
 refine qF 29 rfl rfl rfl ?_
 refine qF 29 rfl rfl rfl ?_
 refine qF 29 rfl rfl rfl ?_
 refine qF 29 rfl rfl rfl ?_
 refine qF 29 rfl rfl rfl ?_
 refine tl (qO rfl rfl) ?_
 refine qB ?_
 exact xW hK72 (.refl _) (trivial) ⟨rfl, rfl, rfl, rfl, rfl, rfl, rfl, rfl, rfl, rfl, rfl, show some (Value.bool false) = some (Value.bool (decide ((¬ (x64 ∈ o2)) ∧ ((!(kD b x64.toNat (Sig.mk sa2 sr2) (decide (kind = 1)))) = true)))) by first | (simp [h74]; done) | grind | (simp [h74] <;> omega), trivial⟩ (fun w hw => hw)
 refine fun R76 hle77 hj75 => jH hle77 ?_
 refine qP 35 rfl (fun h78 => ?_) (fun h78 => ?_)
 refine xE rfl ?_
 refine qE <| qA ?_
 refine tl (jM 0 rfl rR rfl rfl) ?_
 refine tl (qG rfl) ?_
 refine wX (K := jS) (ks := o2) (k := x64) 1 lJ rfl rfl rfl ?_
 refine tl (qD rfl) ?_
 refine qB <| qC ?_
 refine vS R59 (.blk b50 [.map (some b49)] 98 :: .blk b48 [.iface (jU (decide (kind = 1))) (.agg #[]), .map (some b42), .map (some b43), .pointer (some ⟨b44, 0, none⟩)] 101 :: .blk b41 [.slice A31 s.concepts.length d32, .slice A35 s.roles.length d36] 33 :: .blk b40 [.slice A15 b.names.concepts.length d16, .slice A19 b.names.roles.length d20, .slice A23 b.names.inds.length d24, .slice A3 b.incls.length d4, .slice A6 b.roles.length d7, .slice A9 b.facts.length d10, .slice A12 b.links.length d13] 30 :: G) 6 mixed ?_
 refine td 0 rfl (by kernel_rfl) (qQ 1 [.iface (jU (decide (kind = 1))) (.agg #[]), .map (some b42), .map (some b43), .pointer (some ⟨b44, 0, none⟩)] rfl kP rfl rfl) (fun w hw => (((((((hw.pick 1).tail.pick 2).tail.pick 2).tail.pick 3).pick 3).pick 3).pick 3)) ?_
 refine td 1 rfl (by kernel_rfl) (qQ 3 [.slice A15 b.names.concepts.length d16, .slice A19 b.names.roles.length d20, .slice A23 b.names.inds.length d24, .slice A3 b.incls.length d4, .slice A6 b.roles.length d7, .slice A9 b.facts.length d10, .slice A12 b.links.length d13] rfl pN rfl rfl) (fun w hw => (((((((hw.pick 1).tail.pick 2).tail.pick 2).tail.pick 3).pick 3).pick 3).pick 3)) ?_
 refine td 2 rfl (by kernel_rfl) (qG rfl) (fun w hw => (((((((hw.pick 1).tail.pick 2).tail.pick 2).tail.pick 3).pick 3).pick 3).pick 3)) ?_
 refine td1 3 (by kernel_rfl) rfl ?_
 refine jB [.int .i64 x64] zR rfl rfl rfl rfl rfl rfl rfl fun b79 => ?_
 refine qB ?_
 refine qY (fun w hw => (((((((hw.tail.pick 1).tail.pick 2).tail.pick 2).tail.pick 3).pick 3).pick 3).pick 3)) ?_
 refine td1 4 (by kernel_rfl) rfl ?_
 refine zI (k := kInt) (l := ([x64] : List (Int))) 0 rfl (⟨_, _, rfl, ⟨rfl, by unfold i64; omega⟩, rfl⟩) (by show 1 ≤ big; unfold big; omega) fun R81 hle82 hs80 => ?_
 try replace hr_b := kBase.mono _ _ _ _ hle82 hr_b
 try replace hs_l := hs_l.mono hle82
 try replace hG := hG.mono hle82
 try replace hh45 := hh45.mono hle82
 have hle83 := hle61.trans hle82
 have hle84 := hle62.trans hle82
 have hle85 := hle60.trans hle82
 have z86 := hs80.size
 unfold big at z86
 refine xD ca53 rfl (fun w hw => aU b ([x64] : List (Int)) hr_b hs80 (by first | assumption | exact ⟨by simp, by simp; omega⟩) (by first | assumption | exact ⟨by simp, by simp; omega⟩) (by first | assumption | exact ⟨by simp, by simp; omega⟩) hw) rfl ?_
 rintro _ R88 _ hle89 ⟨cs_z87_0, rfl, rfl, hr_z87_0⟩
 try replace hs_l := hs_l.mono hle89
 try replace hG := hG.mono hle89
 try replace hh45 := hh45.mono hle89
 have hle90 := hle83.trans hle89
 have hle91 := hle84.trans hle89
 have hle92 := hle85.trans hle89
 have hle93 := hle82.trans hle89
 obtain ⟨A94, d95, A98, d99, rfl, hs96, hs100⟩ := id hr_z87_0
 have z97 := hs96.size
 unfold big at z97
 have z101 := hs100.size
 unfold big at z101
 refine qB ?_
 refine qY (fun w hw => ((((((((hw.pick 1).tail.pick 2).tail.pick 2).tail.pick 3).pick 3).pick 3).pick 3)).weaken hle93) ?_
 refine td1 5 (by kernel_rfl) rfl ?_
 refine tR (.set jS b42 sa2 :: .set jS b43 sr2 :: .blk b50 [.map (some b49)] 98 :: .set jS b49 (zE o2 x64) :: .blk b48 [.iface (jU (decide (kind = 1))) (.agg #[]), .map (some b42), .map (some b43), .pointer (some ⟨b44, 0, none⟩)] 101 :: .blk b41 [.slice A31 s.concepts.length d32, .slice A35 s.roles.length d36] 33 :: .blk b40 [.slice A15 b.names.concepts.length d16, .slice A19 b.names.roles.length d20, .slice A23 b.names.inds.length d24, .slice A3 b.incls.length d4, .slice A6 b.roles.length d7, .slice A9 b.facts.length d10, .slice A12 b.links.length d13] 30 :: G) (fun w hw => ((hw.pick 4).pick 4)) ?_
 refine xD ca67 rfl (fun w hw => pC (decide (kind = 1)) sa2 sr2 (vW b ([x64] : List (Int))) hr_z87_0 hw) rfl ?_
 rintro _ R103 _ hle104 ⟨rfl, rfl⟩
 try replace hs_l := hs_l.mono hle104
 try replace hG := hG.mono hle104
 try replace hh45 := hh45.mono hle104
 have hle105 := hle90.trans hle104
 have hle106 := hle91.trans hle104
 have hle107 := hle92.trans hle104
 have hle108 := hle93.trans hle104
 have hle109 := hle89.trans hle104
 refine qB ?_
 refine qY (fun w hw => ((((((hw.tail.tail.pick 1).tail.pick 3).pick 3).pick 3).pick 3)).weaken hle108) ?_
 refine xK (by kernel_rfl) ?_
 refine jC <| qC <| qA ?_
 refine tl (jT rfl rfl (by omega) (by omega)) ?_
 refine tl (qG rfl) ?_
 refine qB ?_
 refine xQ ?_
 exact fun a w ha hw => ih58.out (i + 1, true, (wO sa2 (vW b ([x64] : List (Int))).concepts), (wO sr2 (vW b ([x64] : List (Int))).roles), (zE o2 x64)) _ (hle108) (by (have hm_ := List.mem_of_getElem? hx65; have hn_ : ¬ x64 ∈ o2 := (h78).1; have hloc_ : ¬ kD b (x64).toNat (Sig.mk sa2 sr2) (decide (kind = 1)) = true := (by (have f2_ : (!kD b (x64).toNat (Sig.mk sa2 sr2) (decide (kind = 1))) = true := (h78).2); intro k_; rw [k_] at f2_; cases f2_); exact ⟨by omega, hj2.step hB (hl.2 _ hm_) hm_ hn_ hloc_, fun h => by simp at h, fun _ => by (have e_ : zE o2 x64 = o2 ++ [x64] := (by unfold zE; rw [if_neg hn_])); rw [e_]; simp; omega, by (have e_ : zE o2 x64 = o2 ++ [x64] := (by unfold zE; rw [if_neg hn_])); rw [e_]; simp; omega⟩)) (by (try dsimp only); omega) a w (ha.sub (xL (by repeat' constructor))) ((((((((hw.pick 6).pick 6).pick 3).pick 3).pick 6).pick 6).pick 6))
 refine xV rfl ?_
 refine qZ <| jC <| qC <| qA ?_
 refine tl (jT rfl rfl (by omega) (by omega)) ?_
 refine tl (qG rfl) ?_
 refine qB ?_
 refine xQ ?_
 exact fun a w ha hw => ih58.out (i + 1, m2, sa2, sr2, o2) _ (.refl _) (by (refine ⟨by omega, hj2, fun h => ⟨(hj3 h).1, vQ (hj3 h).2 hx65 fun hn => ?_⟩, hj4, hj5⟩; have hq_ := (hj3 h).1; cases hl_ : kD b (x64).toNat (Sig.mk sa2 sr2) (decide (kind = 1)); exact absurd ⟨by rw [hq_]; exact hn, (show (!kD b (x64).toNat (Sig.mk sa2 sr2) (decide (kind = 1))) = true by rw [hl_]; rfl)⟩ h78; (rw [← hq_]; exact hj2.loc hl_))) (by (try dsimp only); omega) a w (ha.sub (xL (by repeat' constructor))) (hw)
 refine xV rfl ?_
 refine jE <| qK <| qK <| xG <| jC ?_
 refine xQ ?_
 exact fun a w ha hw => ih52.out (m2, sa2, sr2, o2) _ (hle60) (by exact ⟨hj2, fun h y hy hn => by (have hq_ := hj3 h; rw [xF (l := l) (by assumption) (by assumption)] at hq_; rw [hq_.1] at hn ⊢; exact hq_.2 y hy hn)⟩) (by (dsimp only; cases m2; (have := (hj3 rfl).1; subst this; simp_all); (have := hj4 rfl; simp only [if_true]; split <;> omega))) a w (ha.sub (xL (by repeat' constructor))) (hw)
 refine xV rfl ?_
 refine jE <| qK <| qK <| xG <| qC <| qE <| qA ?_
 refine tl (qG rfl) ?_
 refine xD ca69 rfl (fun w hw => uH l hs_l (by first | assumption | omega) hw) rfl ?_
 rintro _ R111 _ hle112 ⟨A_z110_0, c_z110_0, l_z110_0, rfl, rfl, hv_z110_0⟩
 try replace hG := hG.mono hle112
 try replace hh45 := hh45.mono hle112
 have hle113 := hle55.trans hle112
 have hle114 := hle54.trans hle112
 refine tl (v_mkF rfl) ?_
 refine xD ca68 rfl (fun w hw => pK l o hv_z110_0 (.head _) (.tail _ (.head _)) (by first | assumption | omega) hw) rfl ?_
 rintro _ R116 _ hle117 ⟨A_z115_0, c_z115_0, l_z115_0, rfl, rfl, hv_z115_0⟩
 try replace hG := hG.mono hle117
 try replace hh45 := hh45.mono hle117
 have hle118 := hle113.trans hle117
 have hle119 := hle114.trans hle117
 have hle120 := hle112.trans hle117
 refine tl (qD rfl) ?_
 refine qB <| qC <| qV ?_
 refine xB (.inl rfl) rfl rfl ?_
 have e121 : ((l.filter fun k => decide (k ∈ o)) : List (Int)) = modL b l s (decide (kind = 1)) := by exact ho1.done (ho2 (by grind))
 intro w hw
 exact ⟨_, _, [.vec (.slice A_z115_0 ((l.filter fun k => decide (k ∈ o)).length) c_z115_0) ((l.filter fun k => decide (k ∈ o)).length) 3 1 l_z115_0], rfl, hle118, (((((((hw.pick 1).tail.pick 1).tail.pick 1).tail.pick 1).tail.pick 1).tail.pick 1).tail.pick 1).tail, A_z115_0, c_z115_0, l_z115_0, (congrArg (fun (z0_ : List (Int)) => (.slice A_z115_0 z0_.length c_z115_0 : Value)) e121), (congrArg (fun (z0_ : List (Int)) => ([.vec (.slice A_z115_0 z0_.length c_z115_0) z0_.length 3 1 l_z115_0] : List Res)) e121), (Eq.mp (congrArg (fun z => (kInt).reps R116 z l_z115_0) e121) hv_z115_0)⟩

theorem ca34 : Callable Tryz.prog 34 := ⟨by kernel_rfl⟩
theorem ca35 : Callable Tryz.prog 35 := ⟨by kernel_rfl⟩
theorem ca37 : Callable Tryz.prog 37 := ⟨by kernel_rfl⟩

open Classical in
noncomputable def xI (b : Base) (s : Sig) (kind : Int) : List Int × Int := if vM b = true then (if dI b.names s = true ∧ 0 ≤ kind ∧ kind ≤ 2 then (kF b s kind, 0) else ([], 1)) else ([], 20)
theorem aY {b : Base} {s : Sig} {kind : Int} (h : ¬ vM b = true) : xI b s kind = ([], 20) := by unfold xI; rw [if_neg h]
theorem cG {b : Base} {s : Sig} {kind : Int} (h : vM b = true) (h2 : ¬ (dI b.names s = true ∧ 0 ≤ kind ∧ kind ≤ 2)) : xI b s kind = ([], 1) := by unfold xI; rw [if_pos h, if_neg h2]
theorem yZ {b : Base} {s : Sig} {kind : Int} (h : vM b = true) (h2 : dI b.names s = true ∧ 0 ≤ kind ∧ kind ≤ 2) : xI b s kind = (kF b s kind, 0) := by unfold xI; rw [if_pos h, if_pos h2]
theorem qD4 (kd : Int) : decide ((kd + 1) % 2 = 1) = !decide (kd % 2 = 1) := by
  rw [Bool.eq_iff_iff]; simp only [decide_eq_true_eq, Bool.not_eq_true', decide_eq_false_iff_not]; omega
theorem vG {b : Base} (h : vM b = true) : BaseOk b := of_decide_eq_true h

theorem yD {R : RO} {G : List Res} {w : World} {c_b : List Value} (b : Base) {c_s : List Value} (s : Sig) (kind : Int) (hr_b : kBase.rep R b c_b) (hr_s : kSig.rep R s c_s) (hi_kind : i64 kind) (hG : Glob R) (hb : s.concepts.length ≤ 1000 ∧ s.roles.length ≤ 1000) (hw : Own w R (G)) :
    Calls Tryz.prog 9 [.agg c_b.toArray, .agg c_s.toArray, .int .i64 kind].toArray w (gZ R G (fun v_ R' L_ => ∃ (A_0 : Option Addr) (d_0 : Nat), v_ = (.tuple #[.slice A_0 (((xI b s kind).1).length) d_0, .int .i64 ((xI b s kind).2)] : Value) ∧ L_ = ([] : List Res) ∧ SlAt kInt R' A_0 ((xI b s kind).1))) := by
 obtain ⟨c1, A3, d4, A6, d7, A9, d10, A12, d13, rfl, hr2, hs5, hs8, hs11, hs14⟩ := id hr_b
 have z27 := hs5.size
 unfold big at z27
 have z28 := hs8.size
 unfold big at z28
 have z29 := hs11.size
 unfold big at z29
 have z30 := hs14.size
 unfold big at z30
 obtain ⟨A15, d16, A19, d20, A23, d24, rfl, hs17, hs21, hs25⟩ := id hr2
 have z18 := hs17.size
 unfold big at z18
 have z22 := hs21.size
 unfold big at z22
 have z26 := hs25.size
 unfold big at z26
 obtain ⟨A31, d32, A35, d36, rfl, hs33, hs37⟩ := id hr_s
 have z34 := hs33.size
 unfold big at z34
 have z38 := hs37.size
 unfold big at z38
 unfold i64 at hi_kind
 refine xH (vs := [.agg #[.slice A15 b.names.concepts.length d16, .slice A19 b.names.roles.length d20, .slice A23 b.names.inds.length d24, .slice A3 b.incls.length d4, .slice A6 b.roles.length d7, .slice A9 b.facts.length d10, .slice A12 b.links.length d13], .agg #[.slice A31 s.concepts.length d32, .slice A35 s.roles.length d36], .int .i64 kind]) Tryz.func9 rfl rfl rfl ?_ hw
 refine qE <| qA ?_
 refine qW (l := [.slice A15 b.names.concepts.length d16, .slice A19 b.names.roles.length d20, .slice A23 b.names.inds.length d24, .slice A3 b.incls.length d4, .slice A6 b.roles.length d7, .slice A9 b.facts.length d10, .slice A12 b.links.length d13]) rfl rfl fun b39 => ?_
 refine qW (l := [.slice A31 s.concepts.length d32, .slice A35 s.roles.length d36]) rfl rfl fun b40 => ?_
 refine tl (qD rfl) ?_
 refine tl (qD rfl) ?_
 refine qB <| qC <| qE <| qX <| qE <| qA ?_
 refine tl (qQ 1 [.slice A15 b.names.concepts.length d16, .slice A19 b.names.roles.length d20, .slice A23 b.names.inds.length d24, .slice A3 b.incls.length d4, .slice A6 b.roles.length d7, .slice A9 b.facts.length d10, .slice A12 b.links.length d13] rfl pN rfl rfl) ?_
 refine xC ca34 rfl (fun w hw => cA b hr_b (by first | assumption | omega) hw) rfl ?_
 refine tl (jR rfl rfl rfl) ?_
 refine tl (qD rfl) ?_
 refine qB <| qC ?_
 refine qP 12 rfl (fun h41 => ?_) (fun h41 => ?_)
 refine xE rfl ?_
 refine qE <| qA ?_
 refine tl (qD rfl) ?_
 refine tl (qD rfl) ?_
 refine qB <| qC <| qV <| qN <| qI ?_
 have hs42 : SlAt kInt R none ([] : List (Int)) := SlAt.nil _ _ _
 refine kL (.inl rfl) rfl rfl rfl ?_
 have e43 : (([] : List (Int)) : List (Int)) = (xI b s kind).1 := by (rw [aY (by grind)])
 have e44 : (20 : Int) = (xI b s kind).2 := by (rw [aY (by grind)])
 intro w hw
 exact ⟨_, _, [], rfl, .refl _, hw.drop 2, none, 0, (Eq.trans (congrArg (fun (z0_ : List (Int)) => (.tuple #[.slice none z0_.length 0, .int .i64 20] : Value)) e43) (congrArg (fun (z1_ : Int) => (.tuple #[.slice none ((xI b s kind).1).length 0, .int .i64 z1_] : Value)) e44)), rfl, (Eq.mp (congrArg (fun z => SlAt kInt R none z) e43) hs42)⟩
 refine xV rfl ?_
 refine vH [(0, .agg #[.slice A15 b.names.concepts.length d16, .slice A19 b.names.roles.length d20, .slice A23 b.names.inds.length d24, .slice A3 b.incls.length d4, .slice A6 b.roles.length d7, .slice A9 b.facts.length d10, .slice A12 b.links.length d13]), (1, .agg #[.slice A31 s.concepts.length d32, .slice A35 s.roles.length d36]), (2, .int .i64 kind), (3, .pointer (some ⟨b39, 0, none⟩)), (4, .pointer (some ⟨b40, 0, none⟩)), (6, .slice none 0 0), (7, .int .i64 0), (12, .bool false), (16, .bool (decide ((((!(dI b.names s)) = true) ∨ (kind < 0)) ∨ (2 < kind))))] (.blk b40 [.slice A31 s.concepts.length d32, .slice A35 s.roles.length d36] 33 :: .blk b39 [.slice A15 b.names.concepts.length d16, .slice A19 b.names.roles.length d20, .slice A23 b.names.inds.length d24, .slice A3 b.incls.length d4, .slice A6 b.roles.length d7, .slice A9 b.facts.length d10, .slice A12 b.links.length d13] 30 :: G) (fun _ => True) (fun K hK45 hE46 => ?_) ?_
 refine qA ?_
 refine tl (qH 0 rfl zJ rfl) ?_
 refine tl (qQ 1 [.slice A15 b.names.concepts.length d16, .slice A19 b.names.roles.length d20, .slice A23 b.names.inds.length d24] rfl bT rfl rfl) ?_
 refine tl (qQ 0 [.slice A31 s.concepts.length d32, .slice A35 s.roles.length d36] rfl yM rfl rfl) ?_
 refine xC ca35 rfl (fun w hw => aV b.names s hr2 hr_s hw) rfl ?_
 refine tl (wJ rfl) ?_
 refine tl (qG rfl) ?_
 refine kQ 22 rfl (fun h47 => ?_) (fun h47 => ?_)
 refine qF 22 rfl rfl rfl ?_
 refine qF 22 rfl rfl rfl ?_
 refine tl (qR rfl rfl) ?_
 refine tl (qG rfl) ?_
 refine qF 26 rfl rfl rfl ?_
 refine qF 26 rfl rfl rfl ?_
 refine tl (qR rfl rfl) ?_
 refine tl (qD rfl) ?_
 refine qB ?_
 exact xW hK45 (.refl _) (trivial) ⟨rfl, rfl, rfl, rfl, rfl, rfl, rfl, rfl, show some (Value.bool true) = some (Value.bool (decide ((((!(dI b.names s)) = true) ∨ (kind < 0)) ∨ (2 < kind)))) by first | (simp [h47]; done) | grind | (simp [h47] <;> omega), trivial⟩ (fun w hw => hw)
 refine qJ 22 rfl rfl ?_
 refine tl (qG rfl) ?_
 refine qJ 22 rfl rfl ?_
 refine tl (jR rfl rfl rfl) ?_
 refine tl (qO rfl rfl) ?_
 refine tl (qG rfl) ?_
 refine xX 26 rfl (fun h48 => ?_) (fun h48 => ?_)
 refine qF 26 rfl rfl rfl ?_
 refine qF 26 rfl rfl rfl ?_
 refine tl (qR rfl rfl) ?_
 refine tl (qD rfl) ?_
 refine qB ?_
 exact xW hK45 (.refl _) (trivial) ⟨rfl, rfl, rfl, rfl, rfl, rfl, rfl, rfl, show some (Value.bool true) = some (Value.bool (decide ((((!(dI b.names s)) = true) ∨ (kind < 0)) ∨ (2 < kind)))) by first | (simp [h47, h48]; done) | grind | (simp [h47, h48] <;> omega), trivial⟩ (fun w hw => hw)
 refine qJ 26 rfl rfl ?_
 refine tl (qG rfl) ?_
 refine qJ 26 rfl rfl ?_
 refine tl (jR rfl rfl rfl) ?_
 refine tl (qO rfl rfl) ?_
 refine tl (qD rfl) ?_
 refine qB ?_
 exact xW hK45 (.refl _) (trivial) ⟨rfl, rfl, rfl, rfl, rfl, rfl, rfl, rfl, show some (Value.bool (decide (2 < kind))) = some (Value.bool (decide ((((!(dI b.names s)) = true) ∨ (kind < 0)) ∨ (2 < kind)))) by first | (simp [h47, h48]; done) | grind | (simp [h47, h48] <;> omega), trivial⟩ (fun w hw => hw)
 refine fun R50 hle51 hj49 => jH hle51 ?_
 refine qP 16 rfl (fun h52 => ?_) (fun h52 => ?_)
 refine xE rfl ?_
 refine qE <| qA ?_
 refine tl (qD rfl) ?_
 refine tl (qD rfl) ?_
 refine qB <| qC <| qV <| qN <| qI ?_
 have hs53 : SlAt kInt R none ([] : List (Int)) := SlAt.nil _ _ _
 refine kL (.inl rfl) rfl rfl rfl ?_
 have e54 : (([] : List (Int)) : List (Int)) = (xI b s kind).1 := by (rw [cG (by grind) (by grind)])
 have e55 : (1 : Int) = (xI b s kind).2 := by (rw [cG (by grind) (by grind)])
 intro w hw
 exact ⟨_, _, [], rfl, .refl _, hw.drop 2, none, 0, (Eq.trans (congrArg (fun (z0_ : List (Int)) => (.tuple #[.slice none z0_.length 0, .int .i64 1] : Value)) e54) (congrArg (fun (z1_ : Int) => (.tuple #[.slice none ((xI b s kind).1).length 0, .int .i64 z1_] : Value)) e55)), rfl, (Eq.mp (congrArg (fun z => SlAt kInt R none z) e54) hs53)⟩
 refine xV rfl ?_
 refine qZ <| jC <| qC <| qE <| qA ?_
 refine jB [] zR rfl rfl rfl rfl rfl rfl rfl fun b56 => ?_
 refine tl (qD rfl) ?_
 refine qB <| qC <| qE <| qE <| qA ?_
 refine tl (qQ 2 [.slice A15 b.names.concepts.length d16, .slice A19 b.names.roles.length d20, .slice A23 b.names.inds.length d24, .slice A3 b.incls.length d4, .slice A6 b.roles.length d7, .slice A9 b.facts.length d10, .slice A12 b.links.length d13] rfl pN rfl rfl) ?_
 refine xC ca36 rfl (fun w hw => sC b hr_b hw) rfl ?_
 refine tl (qG rfl) ?_
 refine qB <| qC <| qX ?_
 refine rH (.vec (.slice (some ⟨b56, 0, none⟩) (([] : List (Int)).length) 0) (([] : List (Int)).length) 3 1 [] :: .blk b40 [.slice A31 s.concepts.length d32, .slice A35 s.roles.length d36] 33 :: .blk b39 [.slice A15 b.names.concepts.length d16, .slice A19 b.names.roles.length d20, .slice A23 b.names.inds.length d24, .slice A3 b.incls.length d4, .slice A6 b.roles.length d7, .slice A9 b.facts.length d10, .slice A12 b.links.length d13] 30 :: G) (fun w hw => hw.blkvec (len := 0) (sz := 1) rfl (by decide)) ?_
 have hv57 : (kInt).reps R ([] : List (Int)) [] := rfl
 refine jF ?_
 refine jN (fun b_ : Nat × List (Int) × Option Addr × Nat × List Value => match b_ with | (i, al, A_al, c_al, l_al) => xT b - i) (fun b_ : Nat × List (Int) × Option Addr × Nat × List Value => match b_ with | (i, al, A_al, c_al, l_al) => [(2, .int .i64 kind), (3, .pointer (some ⟨b39, 0, none⟩)), (4, .pointer (some ⟨b40, 0, none⟩)), (6, .slice none 0 0), (7, .int .i64 0), (32, .int .i64 (xT b : Int)), (33, .int .i64 (i : Int)), (8, .slice A_al al.length c_al)]) (fun b_ : Nat × List (Int) × Option Addr × Nat × List Value => match b_ with | (i, al, A_al, c_al, l_al) => (.vec (.slice A_al al.length c_al) al.length 3 1 l_al :: .blk b40 [.slice A31 s.concepts.length d32, .slice A35 s.roles.length d36] 33 :: .blk b39 [.slice A15 b.names.concepts.length d16, .slice A19 b.names.roles.length d20, .slice A23 b.names.inds.length d24, .slice A3 b.incls.length d4, .slice A6 b.roles.length d7, .slice A9 b.facts.length d10, .slice A12 b.links.length d13] 30 :: G)) (fun (b_ : Nat × List (Int) × Option Addr × Nat × List Value) => match b_ with | (i, al, A_al, c_al, l_al) => (kInt).reps R al l_al ∧ (i ≤ xT b ∧ al = qB5 i)) (0, ([] : List (Int)), (some ⟨b56, 0, none⟩), 0, []) (by repeat' constructor) (by refine ⟨hv57, ?_⟩; exact ⟨by omega, rfl⟩) (fun w hw => hw) ?_
 rintro ⟨i, al, A_al, c_al, l_al⟩ hI61 ih62
 show TC Tryz.prog _ _ _ [] [(2, .int .i64 kind), (3, .pointer (some ⟨b39, 0, none⟩)), (4, .pointer (some ⟨b40, 0, none⟩)), (6, .slice none 0 0), (7, .int .i64 0), (32, .int .i64 (xT b : Int)), (33, .int .i64 (i : Int)), (8, .slice A_al al.length c_al)] R (.vec (.slice A_al al.length c_al) al.length 3 1 l_al :: .blk b40 [.slice A31 s.concepts.length d32, .slice A35 s.roles.length d36] 33 :: .blk b39 [.slice A15 b.names.concepts.length d16, .slice A19 b.names.roles.length d20, .slice A23 b.names.inds.length d24, .slice A3 b.incls.length d4, .slice A6 b.roles.length d7, .slice A9 b.facts.length d10, .slice A12 b.links.length d13] 30 :: G)
 obtain ⟨hv60, hI65⟩ := hI61
 obtain ⟨hi1, hi2⟩ := hI65
 have hn60 := (vG (b := b) (by grind)).count
 refine qE <| qA ?_
 refine tl (jR rfl rfl rfl) ?_
 refine qB <| qC <| qE ?_
 refine qP 34 rfl (fun h66 => ?_) (fun h66 => ?_)
 refine xE rfl ?_
 refine qZ <| qC <| qE <| qX <| qE <| qA ?_
 refine tl (qG rfl) ?_
 refine tl (qD rfl) ?_
 refine qB <| qC <| qA ?_
 refine tl (qG rfl) ?_
 refine tl (qG rfl) ?_
 refine jB [.int .i64 (i : Int)] zR rfl rfl rfl rfl rfl rfl rfl fun b67 => ?_
 refine yJ (k := kInt) (e := (i : Int)) 1 0 hv60 (⟨rfl, by unfold i64; omega⟩) zR rfl rfl rfl rfl rfl (by (rw [hi2, kM]; omega)) rfl rfl fun A68 c69 l70 hv71 => ?_
 refine tl (qD rfl) ?_
 refine qB <| jC <| qC <| qA ?_
 refine tl (jT rfl rfl (by omega) (by omega)) ?_
 refine tl (qG rfl) ?_
 refine qB ?_
 refine xQ ?_
 exact fun a w ha hw => ih62.out (i + 1, (al ++ [(i : Int)]), A68, c69, l70) (by refine ⟨hv71, ?_⟩; exact ⟨by omega, by rw [hi2, oH]⟩) (by (try dsimp only); omega) a w (ha.sub (xL (by repeat' constructor))) (hw.drop 1)
 refine xV rfl ?_
 refine jE <| qK <| qK <| xG <| qC <| qE <| qE <| qA ?_
 refine tl (qG rfl) ?_
 refine tl (jR rfl rfl rfl) ?_
 refine qB <| qC ?_
 refine qP 42 rfl (fun h73 => ?_) (fun h73 => ?_)
 refine xE rfl ?_
 refine qE <| qA ?_
 refine tl (qQ 2 [.slice A15 b.names.concepts.length d16, .slice A19 b.names.roles.length d20, .slice A23 b.names.inds.length d24, .slice A3 b.incls.length d4, .slice A6 b.roles.length d7, .slice A9 b.facts.length d10, .slice A12 b.links.length d13] rfl pN rfl rfl) ?_
 refine tl (qG rfl) ?_
 refine tl (qQ 1 [.slice A31 s.concepts.length d32, .slice A35 s.roles.length d36] rfl yM rfl rfl) ?_
 refine tl (qG rfl) ?_
 refine pM (k := kInt) (l := al) 0 rfl hv60 rfl (by (unfold big; first | (rw [hi2, kM]; omega) | exact Nat.le_trans vV (by omega) | exact Nat.le_trans vV (by rw [hi2, kM]; omega))) fun R75 hle76 hs74 => ?_
 try replace hr_b := kBase.mono _ _ _ _ hle76 hr_b
 try replace hr_s := kSig.mono _ _ _ _ hle76 hr_s
 try replace hG := hG.mono hle76
 try replace hv60 := Kd.reps_mono hle76 hv60
 have z77 := hs74.size
 unfold big at z77
 refine xD ca37 rfl (fun w hw => uM b al s kind hr_b hs74 hr_s (by unfold i64; omega) (by first | assumption | exact vG (by grind) | exact ⟨by omega, hw2⟩ | (have hn60 := (vG (b := b) (by grind)).count; have e_ : i = xT b := (by omega); subst e_; subst hi2; exact ⟨by rw [kM]; omega, fun x hx => allL_mem.1 hx⟩) | omega) (by first | assumption | exact vG (by grind) | exact ⟨by omega, hw2⟩ | (have hn60 := (vG (b := b) (by grind)).count; have e_ : i = xT b := (by omega); subst e_; subst hi2; exact ⟨by rw [kM]; omega, fun x hx => allL_mem.1 hx⟩) | omega) (by first | assumption | exact vG (by grind) | exact ⟨by omega, hw2⟩ | (have hn60 := (vG (b := b) (by grind)).count; have e_ : i = xT b := (by omega); subst e_; subst hi2; exact ⟨by rw [kM]; omega, fun x hx => allL_mem.1 hx⟩) | omega) (by first | assumption | exact vG (by grind) | exact ⟨by omega, hw2⟩ | (have hn60 := (vG (b := b) (by grind)).count; have e_ : i = xT b := (by omega); subst e_; subst hi2; exact ⟨by rw [kM]; omega, fun x hx => allL_mem.1 hx⟩) | omega) hw) rfl ?_
 rintro _ R79 _ hle80 ⟨A_z78_0, c_z78_0, l_z78_0, rfl, rfl, hv_z78_0⟩
 try replace hr_b := kBase.mono _ _ _ _ hle80 hr_b
 try replace hr_s := kSig.mono _ _ _ _ hle80 hr_s
 try replace hG := hG.mono hle80
 try replace hv60 := Kd.reps_mono hle80 hv60
 have hle81 := hle76.trans hle80
 refine tl (qD rfl) ?_
 refine tl (qD rfl) ?_
 refine qB <| qC <| qV <| qI ?_
 refine kZ (k := kInt) (l := (modL b al s (decide (kind = 1)))) 0 rfl hv_z78_0 rfl (by (unfold big; first | (rw [hi2, kM]; omega) | exact Nat.le_trans vV (by omega) | exact Nat.le_trans vV (by rw [hi2, kM]; omega))) fun R83 hle84 hs82 => ?_
 try replace hr_b := kBase.mono _ _ _ _ hle84 hr_b
 try replace hr_s := kSig.mono _ _ _ _ hle84 hr_s
 try replace hG := hG.mono hle84
 try replace hv60 := Kd.reps_mono hle84 hv60
 have hle85 := hle81.trans hle84
 have hle86 := hle80.trans hle84
 have z87 := hs82.size
 unfold big at z87
 refine kL (.inl rfl) rfl rfl rfl ?_
 have e88 : ((modL b al s (decide (kind = 1))) : List (Int)) = (xI b s kind).1 := by ((have e_ : i = xT b := by omega); subst e_; subst hi2; rw [yZ (by grind) ⟨by grind, by omega, by omega⟩]; unfold kF; rw [if_pos (by omega)]; rfl)
 have e89 : (0 : Int) = (xI b s kind).2 := by (rw [yZ (by grind) ⟨by grind, by omega, by omega⟩])
 intro w hw
 exact ⟨_, _, [], rfl, hle85, hw.drop 2, A_z78_0, c_z78_0, (Eq.trans (congrArg (fun (z0_ : List (Int)) => (.tuple #[.slice A_z78_0 z0_.length c_z78_0, .int .i64 0] : Value)) e88) (congrArg (fun (z1_ : Int) => (.tuple #[.slice A_z78_0 ((xI b s kind).1).length c_z78_0, .int .i64 z1_] : Value)) e89)), rfl, (Eq.mp (congrArg (fun z => SlAt kInt R83 A_z78_0 z) e88) hs82)⟩
 refine xV rfl ?_
 refine qZ <| qC <| qE <| qE <| qA ?_
 refine tl (qD rfl) ?_
 refine qB <| qC <| qX ?_
 refine lP (k := kInt) (l := al) 0 rfl hv60 rfl (by (unfold big; first | (rw [hi2, kM]; omega) | exact Nat.le_trans vV (by omega) | exact Nat.le_trans vV (by rw [hi2, kM]; omega))) fun R91 hle92 hs90 => ?_
 try replace hr_b := kBase.mono _ _ _ _ hle92 hr_b
 try replace hr_s := kSig.mono _ _ _ _ hle92 hr_s
 try replace hG := hG.mono hle92
 have z93 := hs90.size
 unfold big at z93
 refine jF ?_
 refine wD (fun b_ : Nat × Int × List (Int) × Option Addr × Nat => match b_ with | (q, kd, wl, A_wl, d_wl) => 3 * wl.length + (2 - q)) (fun b_ : Nat × Int × List (Int) × Option Addr × Nat => match b_ with | (q, kd, wl, A_wl, d_wl) => [(3, .pointer (some ⟨b39, 0, none⟩)), (4, .pointer (some ⟨b40, 0, none⟩)), (6, .slice none 0 0), (7, .int .i64 0), (10, .int .i64 (q : Int)), (2, .int .i64 kd), (8, .slice A_wl wl.length d_wl)]) (fun b_ : Nat × Int × List (Int) × Option Addr × Nat => match b_ with | (q, kd, wl, A_wl, d_wl) => (.blk b40 [.slice A31 s.concepts.length d32, .slice A35 s.roles.length d36] 33 :: .blk b39 [.slice A15 b.names.concepts.length d16, .slice A19 b.names.roles.length d20, .slice A23 b.names.inds.length d24, .slice A3 b.incls.length d4, .slice A6 b.roles.length d7, .slice A9 b.facts.length d10, .slice A12 b.links.length d13] 30 :: G)) (fun (b_ : Nat × Int × List (Int) × Option Addr × Nat) (R_ : RO) => match b_ with | (q, kd, wl, A_wl, d_wl) => SlAt kInt R_ A_wl wl ∧ ((∀ x ∈ wl, 0 ≤ x ∧ x < xT b) ∧ wl.length ≤ 60 ∧ 2 ≤ kd ∧ kd + 3 * (wl.length : Int) + (2 - q : Nat) ≤ 184 ∧ star b s q (decide (kd % 2 = 1)) wl = star b s 0 false (mY b))) (0, kind, al, A_al, c_al) (by repeat' constructor) (by refine ⟨hs90, ?_⟩; (have hn60 := (vG (b := b) (by grind)).count; have e_ : i = xT b := by omega); subst e_; subst hi2; have e2_ : kind = 2 := (by omega); subst e2_; exact ⟨fun x hx => allL_mem.1 hx, by rw [kM]; omega, by omega, by rw [kM]; omega, rfl⟩) (fun w hw => hw) ?_
 rintro ⟨q, kd, wl, A_wl, d_wl⟩ R97 hle98 hI95 ih96
 try replace hr_b := kBase.mono _ _ _ _ hle98 hr_b
 try replace hr_s := kSig.mono _ _ _ _ hle98 hr_s
 try replace hG := hG.mono hle98
 have hle99 := hle92.trans hle98
 show TC Tryz.prog _ _ _ [] [(3, .pointer (some ⟨b39, 0, none⟩)), (4, .pointer (some ⟨b40, 0, none⟩)), (6, .slice none 0 0), (7, .int .i64 0), (10, .int .i64 (q : Int)), (2, .int .i64 kd), (8, .slice A_wl wl.length d_wl)] R97 (.blk b40 [.slice A31 s.concepts.length d32, .slice A35 s.roles.length d36] 33 :: .blk b39 [.slice A15 b.names.concepts.length d16, .slice A19 b.names.roles.length d20, .slice A23 b.names.inds.length d24, .slice A3 b.incls.length d4, .slice A6 b.roles.length d7, .slice A9 b.facts.length d10, .slice A12 b.links.length d13] 30 :: G)
 obtain ⟨hs94, hI100⟩ := hI95
 have z101 := hs94.size
 unfold big at z101
 obtain ⟨hw2, hw3, hw5, hw6, hw4⟩ := hI100
 refine qE <| qE <| qA ?_
 refine tl (qG rfl) ?_
 refine tl (jR rfl rfl rfl) ?_
 refine qB <| qC ?_
 refine qP 49 rfl (fun h102 => ?_) (fun h102 => ?_)
 refine xE rfl ?_
 refine qZ <| qC <| qE <| qX <| qE <| qA ?_
 refine tl (qQ 1 [.slice A15 b.names.concepts.length d16, .slice A19 b.names.roles.length d20, .slice A23 b.names.inds.length d24, .slice A3 b.incls.length d4, .slice A6 b.roles.length d7, .slice A9 b.facts.length d10, .slice A12 b.links.length d13] rfl pN rfl rfl) ?_
 refine tl (qG rfl) ?_
 refine tl (qQ 0 [.slice A31 s.concepts.length d32, .slice A35 s.roles.length d36] rfl yM rfl rfl) ?_
 refine tl (qG rfl) ?_
 refine tl (v_rem rfl rfl (by omega) (by omega)) ?_
 refine xD ca37 rfl (fun w hw => uM b wl s (kd % 2) hr_b hs94 hr_s (by unfold i64; omega) (by first | assumption | exact vG (by grind) | exact ⟨by omega, hw2⟩ | (have hn60 := (vG (b := b) (by grind)).count; have e_ : i = xT b := (by omega); subst e_; subst hi2; exact ⟨by rw [kM]; omega, fun x hx => allL_mem.1 hx⟩) | omega) (by first | assumption | exact vG (by grind) | exact ⟨by omega, hw2⟩ | (have hn60 := (vG (b := b) (by grind)).count; have e_ : i = xT b := (by omega); subst e_; subst hi2; exact ⟨by rw [kM]; omega, fun x hx => allL_mem.1 hx⟩) | omega) (by first | assumption | exact vG (by grind) | exact ⟨by omega, hw2⟩ | (have hn60 := (vG (b := b) (by grind)).count; have e_ : i = xT b := (by omega); subst e_; subst hi2; exact ⟨by rw [kM]; omega, fun x hx => allL_mem.1 hx⟩) | omega) (by first | assumption | exact vG (by grind) | exact ⟨by omega, hw2⟩ | (have hn60 := (vG (b := b) (by grind)).count; have e_ : i = xT b := (by omega); subst e_; subst hi2; exact ⟨by rw [kM]; omega, fun x hx => allL_mem.1 hx⟩) | omega) hw) rfl ?_
 rintro _ R104 _ hle105 ⟨A_z103_0, c_z103_0, l_z103_0, rfl, rfl, hv_z103_0⟩
 try replace hG := hG.mono hle105
 try replace hs94 := hs94.mono hle105
 have hle106 := hle99.trans hle105
 have hle107 := hle98.trans hle105
 refine tl (qD rfl) ?_
 refine qB <| qC <| qE <| qA ?_
 refine tl (qG rfl) ?_
 refine tl (jT rfl rfl (by omega) (by omega)) ?_
 refine tl (qD rfl) ?_
 refine qB <| qC <| qE <| qE <| qA ?_
 refine tl (qG rfl) ?_
 refine tl (jJ rfl pL) ?_
 refine tl (qG rfl) ?_
 refine tl (jJ rfl pL) ?_
 refine tl (jR rfl rfl rfl) ?_
 refine qB <| qC ?_
 refine qP 64 rfl (fun h108 => ?_) (fun h108 => ?_)
 refine xE rfl ?_
 refine qA ?_
 refine tl (qD rfl) ?_
 refine qB <| qC <| qA ?_
 refine tl (qG rfl) ?_
 refine tl (qD rfl) ?_
 refine qB <| jC <| qC <| qA ?_
 refine tl (qG rfl) ?_
 refine tl (jT rfl rfl (by omega) (by omega)) ?_
 refine tl (qD rfl) ?_
 refine qB ?_
 refine kZ (k := kInt) (l := (modL b wl s (decide ((kd % 2) = 1)))) 0 rfl hv_z103_0 rfl (by (unfold big; first | (rw [hi2, kM]; omega) | exact Nat.le_trans vV (by omega) | exact Nat.le_trans vV (by rw [hi2, kM]; omega))) fun R110 hle111 hs109 => ?_
 try replace hG := hG.mono hle111
 try replace hs94 := hs94.mono hle111
 try replace hv_z103_0 := Kd.reps_mono hle111 hv_z103_0
 have hle112 := hle106.trans hle111
 have hle113 := hle107.trans hle111
 have hle114 := hle105.trans hle111
 have z115 := hs109.size
 unfold big at z115
 refine xQ ?_
 exact fun a w ha hw => ih96.out (0, kd + 1, (modL b wl s (decide ((kd % 2) = 1))), A_z103_0, c_z103_0) _ (hle114) (by refine ⟨hs109, ?_⟩; exact ⟨fun x hx => hw2 x (sU x hx), Nat.le_trans vV hw3, by omega, by (have := vV (b := b) (l := wl) (s := s) (top := decide (kd % 2 = 1)); omega), by rw [qD4, ← hw4]; exact yF (by omega) (fun h_ => by (have q_ := congrArg List.length h_; omega))⟩) (by (dsimp only; first | (have := pY (b := b) (l := wl) (s := s) (top := decide (kd % 2 = 1)) (fun h_ => by (have q_ := congrArg List.length h_; omega)); omega) | (have := vV (b := b) (l := wl) (s := s) (top := decide (kd % 2 = 1)); omega))) a w (ha.sub (xL ⟨rfl, rfl, rfl, rfl, congrArg (fun z => some (Value.int .i64 z)) (show (0 : Int) = (0 : Int) by first | rfl | omega), rfl, rfl, trivial⟩)) (hw)
 refine xV rfl ?_
 refine qZ <| qC <| qA ?_
 refine tl (qG rfl) ?_
 refine tl (qD rfl) ?_
 refine qB <| jC <| qC <| qA ?_
 refine tl (qG rfl) ?_
 refine tl (jT rfl rfl (by omega) (by omega)) ?_
 refine tl (qD rfl) ?_
 refine qB ?_
 refine kZ (k := kInt) (l := (modL b wl s (decide ((kd % 2) = 1)))) 0 rfl hv_z103_0 rfl (by (unfold big; first | (rw [hi2, kM]; omega) | exact Nat.le_trans vV (by omega) | exact Nat.le_trans vV (by rw [hi2, kM]; omega))) fun R117 hle118 hs116 => ?_
 try replace hG := hG.mono hle118
 try replace hs94 := hs94.mono hle118
 have hle119 := hle106.trans hle118
 have hle120 := hle107.trans hle118
 have hle121 := hle105.trans hle118
 have z122 := hs116.size
 unfold big at z122
 refine xQ ?_
 exact fun a w ha hw => ih96.out (q + 1, kd + 1, (modL b wl s (decide ((kd % 2) = 1))), A_z103_0, c_z103_0) _ (hle121) (by refine ⟨hs116, ?_⟩; exact ⟨fun x hx => hw2 x (sU x hx), Nat.le_trans vV hw3, by omega, by (have := vV (b := b) (l := wl) (s := s) (top := decide (kd % 2 = 1)); omega), by rw [qD4, ← hw4]; exact yR (by omega) (Classical.byContradiction fun h_ => by (have q_ := pY h_; omega))⟩) (by (dsimp only; first | (have := pY (b := b) (l := wl) (s := s) (top := decide (kd % 2 = 1)) (fun h_ => by (have q_ := congrArg List.length h_; omega)); omega) | (have := vV (b := b) (l := wl) (s := s) (top := decide (kd % 2 = 1)); omega))) a w (ha.sub (xL ⟨rfl, rfl, rfl, rfl, congrArg (fun z => some (Value.int .i64 z)) (show ((q : Int) + 1 : Int) = ((q + 1) : Int) by first | rfl | omega), rfl, rfl, trivial⟩)) (hw)
 refine xV rfl ?_
 refine jE <| qK <| qK <| xG <| qC <| qE <| qA ?_
 refine tl (qG rfl) ?_
 refine tl (qD rfl) ?_
 refine tl (qD rfl) ?_
 refine qB <| qC <| qV ?_
 refine kL (.inl rfl) rfl rfl rfl ?_
 have e123 : (wl : List (Int)) = (xI b s kind).1 := by (rw [yZ (by grind) ⟨by grind, by omega, by omega⟩]; rw [wL (by omega)] at hw4; unfold kF; rw [if_neg (by omega)]; exact hw4)
 have e124 : (0 : Int) = (xI b s kind).2 := by (rw [yZ (by grind) ⟨by grind, by omega, by omega⟩])
 intro w hw
 exact ⟨_, _, [], rfl, hle99, hw.drop 2, A_wl, d_wl, (Eq.trans (congrArg (fun (z0_ : List (Int)) => (.tuple #[.slice A_wl z0_.length d_wl, .int .i64 0] : Value)) e123) (congrArg (fun (z1_ : Int) => (.tuple #[.slice A_wl ((xI b s kind).1).length d_wl, .int .i64 z1_] : Value)) e124)), rfl, (Eq.mp (congrArg (fun z => SlAt kInt R97 A_wl z) e123) hs94)⟩



theorem qA3 {s t : Sig} (h1 : ∀ x, x ∈ s.concepts ↔ x ∈ t.concepts) (h2 : ∀ x, x ∈ s.roles ↔ x ∈ t.roles) (b : Base) (k : Nat) (top : Bool) : kD b k s top = kD b k t top := by
  rw [Bool.eq_iff_iff]
  exact ⟨zK ⟨fun x hx => (h1 x).2 hx, fun x hx => (h2 x).2 hx⟩ b k top, zK ⟨fun x hx => (h1 x).1 hx, fun x hx => (h2 x).1 hx⟩ b k top⟩
theorem qG6 (s : Sig) (b : Base) (k : Nat) (top : Bool) : kD b k (Sig.mk (wO [] s.concepts) (wO [] s.roles)) top = kD b k s top :=
  qA3 (fun x => by rw [gN (s := [])]; simp) (fun x => by rw [gN (s := [])]; simp) b k top
def sJ (b : Base) (k : Int) (s : Sig) (kind : Int) : Bool × Int := if vM b = true then (if dI b.names s = true ∧ (kind = 0 ∨ kind = 1) ∧ 0 ≤ k ∧ k < xT b then (kD b k.toNat s (decide (kind = 1)), 0) else (false, 1)) else (false, 20)
theorem iU {b : Base} {s : Sig} {k kind : Int} (h : ¬ vM b = true) : sJ b k s kind = (false, 20) := by unfold sJ; rw [if_neg h]
theorem mE {b : Base} {s : Sig} {k kind : Int} (h : vM b = true) (h2 : ¬ (dI b.names s = true ∧ (kind = 0 ∨ kind = 1) ∧ 0 ≤ k ∧ k < xT b)) : sJ b k s kind = (false, 1) := by unfold sJ; rw [if_pos h, if_neg h2]
theorem iV {b : Base} {s : Sig} {k kind : Int} (h : vM b = true) (h2 : dI b.names s = true ∧ (kind = 0 ∨ kind = 1) ∧ 0 ≤ k ∧ k < xT b) : sJ b k s kind = (kD b k.toNat s (decide (kind = 1)), 0) := by unfold sJ; rw [if_pos h, if_pos h2]
def gI (b : Base) (l : List Int) : Sig × Int := if vM b = true then (if kC l (xT b) = true then (vW b l, 0) else (⟨[], []⟩, 1)) else (⟨[], []⟩, 20)
theorem cH {b : Base} {l : List Int} (h : ¬ vM b = true) : gI b l = (⟨[], []⟩, 20) := by unfold gI; rw [if_neg h]
theorem mF {b : Base} {l : List Int} (h : vM b = true) (h2 : ¬ kC l (xT b) = true) : gI b l = (⟨[], []⟩, 1) := by unfold gI; rw [if_pos h, if_neg h2]
theorem oZ {b : Base} {l : List Int} (h : vM b = true) (h2 : kC l (xT b) = true) : gI b l = (vW b l, 0) := by unfold gI; rw [if_pos h, if_pos h2]
theorem iW {b : Base} {l : List Int} (h : vM b = true) (h2 : kC l (xT b) = true) : l.length ≤ 100 ∧ ∀ k ∈ l, 0 ≤ k ∧ k < xT b := by
  have h3 := (vG h).count
  unfold kC at h2
  rw [decide_eq_true_eq] at h2
  have := gW (fJ h2.1) h2.2
  exact ⟨by omega, h2.2⟩

theorem iX {R : RO} {G : List Res} {w : World} {c_b : List Value} (b : Base) (k : Int) {c_s : List Value} (s : Sig) (kind : Int) (hr_b : kBase.rep R b c_b) (hi_k : i64 k) (hr_s : kSig.rep R s c_s) (hi_kind : i64 kind) (hG : Glob R) (hb : s.concepts.length ≤ 1000 ∧ s.roles.length ≤ 1000) (hw : Own w R (G)) :
    Calls Tryz.prog 19 [.agg c_b.toArray, .int .i64 k, .agg c_s.toArray, .int .i64 kind].toArray w (kK R G (.tuple #[.bool ((sJ b k s kind).1), .int .i64 ((sJ b k s kind).2)])) := by
 obtain ⟨c1, A3, d4, A6, d7, A9, d10, A12, d13, rfl, hr2, hs5, hs8, hs11, hs14⟩ := id hr_b
 have z27 := hs5.size
 unfold big at z27
 have z28 := hs8.size
 unfold big at z28
 have z29 := hs11.size
 unfold big at z29
 have z30 := hs14.size
 unfold big at z30
 obtain ⟨A15, d16, A19, d20, A23, d24, rfl, hs17, hs21, hs25⟩ := id hr2
 have z18 := hs17.size
 unfold big at z18
 have z22 := hs21.size
 unfold big at z22
 have z26 := hs25.size
 unfold big at z26
 unfold i64 at hi_k
 obtain ⟨A31, d32, A35, d36, rfl, hs33, hs37⟩ := id hr_s
 have z34 := hs33.size
 unfold big at z34
 have z38 := hs37.size
 unfold big at z38
 unfold i64 at hi_kind
 refine xH (vs := [.agg #[.slice A15 b.names.concepts.length d16, .slice A19 b.names.roles.length d20, .slice A23 b.names.inds.length d24, .slice A3 b.incls.length d4, .slice A6 b.roles.length d7, .slice A9 b.facts.length d10, .slice A12 b.links.length d13], .int .i64 k, .agg #[.slice A31 s.concepts.length d32, .slice A35 s.roles.length d36], .int .i64 kind]) Tryz.func19 rfl rfl rfl ?_ hw
 refine qE <| qA ?_
 refine qW (l := [.slice A15 b.names.concepts.length d16, .slice A19 b.names.roles.length d20, .slice A23 b.names.inds.length d24, .slice A3 b.incls.length d4, .slice A6 b.roles.length d7, .slice A9 b.facts.length d10, .slice A12 b.links.length d13]) rfl rfl fun b39 => ?_
 refine qW (l := [.slice A31 s.concepts.length d32, .slice A35 s.roles.length d36]) rfl rfl fun b40 => ?_
 refine tl (qD rfl) ?_
 refine tl (qD rfl) ?_
 refine qB <| qC <| qE <| qX <| qE <| qA ?_
 refine tl (qQ 1 [.slice A15 b.names.concepts.length d16, .slice A19 b.names.roles.length d20, .slice A23 b.names.inds.length d24, .slice A3 b.incls.length d4, .slice A6 b.roles.length d7, .slice A9 b.facts.length d10, .slice A12 b.links.length d13] rfl pN rfl rfl) ?_
 refine xC ca34 rfl (fun w hw => cA b hr_b (by first | assumption | omega) hw) rfl ?_
 refine tl (jR rfl rfl rfl) ?_
 refine tl (qD rfl) ?_
 refine qB <| qC ?_
 refine qP 10 rfl (fun h41 => ?_) (fun h41 => ?_)
 refine xE rfl ?_
 refine qE <| qA ?_
 refine tl (qD rfl) ?_
 refine tl (qD rfl) ?_
 refine qB <| qC <| qV <| qN <| qI ?_
 refine kL (.inl rfl) rfl rfl rfl ?_
 have e42 : (false : Bool) = (sJ b k s kind).1 := by (rw [iU (by grind)])
 have e43 : (20 : Int) = (sJ b k s kind).2 := by (rw [iU (by grind)])
 exact fun w hw => ⟨congrArg Ending.returned (yW (fun x0 x1 => Value.tuple #[.bool x0, .int .i64 x1]) e42 e43), hw.drop 2⟩
 refine xV rfl ?_
 refine vH [(0, .agg #[.slice A15 b.names.concepts.length d16, .slice A19 b.names.roles.length d20, .slice A23 b.names.inds.length d24, .slice A3 b.incls.length d4, .slice A6 b.roles.length d7, .slice A9 b.facts.length d10, .slice A12 b.links.length d13]), (1, .int .i64 k), (2, .agg #[.slice A31 s.concepts.length d32, .slice A35 s.roles.length d36]), (3, .int .i64 kind), (4, .pointer (some ⟨b39, 0, none⟩)), (6, .pointer (some ⟨b40, 0, none⟩)), (8, .bool false), (9, .int .i64 0), (10, .bool false), (14, .bool (decide (((((!(dI b.names s)) = true) ∨ ((¬ kind = 0) ∧ (¬ kind = 1))) ∨ (k < 0)) ∨ ((xT b : Int) ≤ k))))] (.blk b40 [.slice A31 s.concepts.length d32, .slice A35 s.roles.length d36] 33 :: .blk b39 [.slice A15 b.names.concepts.length d16, .slice A19 b.names.roles.length d20, .slice A23 b.names.inds.length d24, .slice A3 b.incls.length d4, .slice A6 b.roles.length d7, .slice A9 b.facts.length d10, .slice A12 b.links.length d13] 30 :: G) (fun _ => True) (fun K hK44 hE45 => ?_) ?_
 refine qA ?_
 refine tl (qH 0 rfl zJ rfl) ?_
 refine tl (qQ 1 [.slice A15 b.names.concepts.length d16, .slice A19 b.names.roles.length d20, .slice A23 b.names.inds.length d24] rfl bT rfl rfl) ?_
 refine tl (qQ 0 [.slice A31 s.concepts.length d32, .slice A35 s.roles.length d36] rfl yM rfl rfl) ?_
 refine xC ca35 rfl (fun w hw => aV b.names s hr2 hr_s hw) rfl ?_
 refine tl (wJ rfl) ?_
 refine tl (qG rfl) ?_
 refine kQ 20 rfl (fun h46 => ?_) (fun h46 => ?_)
 refine qF 20 rfl rfl rfl ?_
 refine qF 20 rfl rfl rfl ?_
 refine qF 20 rfl rfl rfl ?_
 refine xY 23 rfl rfl rfl ?_
 refine xY 23 rfl rfl rfl ?_
 refine qF 20 rfl rfl rfl ?_
 refine tl (qR rfl rfl) ?_
 refine tl (qG rfl) ?_
 refine qF 28 rfl rfl rfl ?_
 refine qF 28 rfl rfl rfl ?_
 refine tl (qR rfl rfl) ?_
 refine tl (qG rfl) ?_
 refine qF 32 rfl rfl rfl ?_
 refine qF 32 rfl rfl rfl ?_
 refine qF 32 rfl rfl rfl ?_
 refine qF 32 rfl rfl rfl ?_
 refine tl (qR rfl rfl) ?_
 refine tl (qD rfl) ?_
 refine qB ?_
 exact xW hK44 (.refl _) (trivial) ⟨rfl, rfl, rfl, rfl, rfl, rfl, rfl, rfl, rfl, show some (Value.bool true) = some (Value.bool (decide (((((!(dI b.names s)) = true) ∨ ((¬ kind = 0) ∧ (¬ kind = 1))) ∨ (k < 0)) ∨ ((xT b : Int) ≤ k)))) by first | (simp [h46]; done) | grind | (simp [h46] <;> omega), trivial⟩ (fun w hw => hw)
 refine qJ 20 rfl rfl ?_
 refine tl (qG rfl) ?_
 refine qJ 20 rfl rfl ?_
 refine tl (jR rfl rfl rfl) ?_
 refine qJ 20 rfl rfl ?_
 refine tl (qG rfl) ?_
 refine xX 23 rfl (fun h47 => ?_) (fun h47 => ?_)
 refine qJ 23 rfl rfl ?_
 refine tl (qG rfl) ?_
 refine qJ 23 rfl rfl ?_
 refine tl (jR rfl rfl rfl) ?_
 refine qJ 20 rfl rfl ?_
 refine tl (qR rfl rfl) ?_
 refine tl (qO rfl rfl) ?_
 refine tl (qG rfl) ?_
 refine xX 28 rfl (fun h48 => ?_) (fun h48 => ?_)
 refine qF 28 rfl rfl rfl ?_
 refine qF 28 rfl rfl rfl ?_
 refine tl (qR rfl rfl) ?_
 refine tl (qG rfl) ?_
 refine qF 32 rfl rfl rfl ?_
 refine qF 32 rfl rfl rfl ?_
 refine qF 32 rfl rfl rfl ?_
 refine qF 32 rfl rfl rfl ?_
 refine tl (qR rfl rfl) ?_
 refine tl (qD rfl) ?_
 refine qB ?_
 exact xW hK44 (.refl _) (trivial) ⟨rfl, rfl, rfl, rfl, rfl, rfl, rfl, rfl, rfl, show some (Value.bool true) = some (Value.bool (decide (((((!(dI b.names s)) = true) ∨ ((¬ kind = 0) ∧ (¬ kind = 1))) ∨ (k < 0)) ∨ ((xT b : Int) ≤ k)))) by first | (simp [h46, h47, h48]; done) | grind | (simp [h46, h47, h48] <;> omega), trivial⟩ (fun w hw => hw)
 refine qJ 28 rfl rfl ?_
 refine tl (qG rfl) ?_
 refine qJ 28 rfl rfl ?_
 refine tl (jR rfl rfl rfl) ?_
 refine tl (qO rfl rfl) ?_
 refine tl (qG rfl) ?_
 refine xX 32 rfl (fun h49 => ?_) (fun h49 => ?_)
 refine qF 32 rfl rfl rfl ?_
 refine qF 32 rfl rfl rfl ?_
 refine qF 32 rfl rfl rfl ?_
 refine qF 32 rfl rfl rfl ?_
 refine tl (qR rfl rfl) ?_
 refine tl (qD rfl) ?_
 refine qB ?_
 exact xW hK44 (.refl _) (trivial) ⟨rfl, rfl, rfl, rfl, rfl, rfl, rfl, rfl, rfl, show some (Value.bool true) = some (Value.bool (decide (((((!(dI b.names s)) = true) ∨ ((¬ kind = 0) ∧ (¬ kind = 1))) ∨ (k < 0)) ∨ ((xT b : Int) ≤ k)))) by first | (simp [h46, h47, h48, h49]; done) | grind | (simp [h46, h47, h48, h49] <;> omega), trivial⟩ (fun w hw => hw)
 refine qJ 32 rfl rfl ?_
 refine tl (qG rfl) ?_
 refine qJ 32 rfl rfl ?_
 refine tl (qQ 1 [.slice A15 b.names.concepts.length d16, .slice A19 b.names.roles.length d20, .slice A23 b.names.inds.length d24, .slice A3 b.incls.length d4, .slice A6 b.roles.length d7, .slice A9 b.facts.length d10, .slice A12 b.links.length d13] rfl pN rfl rfl) ?_
 refine qJ 32 rfl rfl ?_
 refine xC ca36 rfl (fun w hw => sC b hr_b hw) rfl ?_
 refine qJ 32 rfl rfl ?_
 refine tl (jR rfl rfl rfl) ?_
 refine tl (qO rfl rfl) ?_
 refine tl (qD rfl) ?_
 refine qB ?_
 exact xW hK44 (.refl _) (trivial) ⟨rfl, rfl, rfl, rfl, rfl, rfl, rfl, rfl, rfl, show some (Value.bool (decide ((xT b : Int) ≤ k))) = some (Value.bool (decide (((((!(dI b.names s)) = true) ∨ ((¬ kind = 0) ∧ (¬ kind = 1))) ∨ (k < 0)) ∨ ((xT b : Int) ≤ k)))) by first | (simp [h46, h47, h48, h49]; done) | grind | (simp [h46, h47, h48, h49] <;> omega), trivial⟩ (fun w hw => hw)
 refine qF 23 rfl rfl rfl ?_
 refine qF 23 rfl rfl rfl ?_
 refine qJ 20 rfl rfl ?_
 refine tl (qO rfl rfl) ?_
 refine tl (qO rfl rfl) ?_
 refine tl (qG rfl) ?_
 refine qJ 28 rfl rfl ?_
 refine tl (qG rfl) ?_
 refine qJ 28 rfl rfl ?_
 refine tl (jR rfl rfl rfl) ?_
 refine tl (qO rfl rfl) ?_
 refine tl (qG rfl) ?_
 refine xX 32 rfl (fun h50 => ?_) (fun h50 => ?_)
 refine qF 32 rfl rfl rfl ?_
 refine qF 32 rfl rfl rfl ?_
 refine qF 32 rfl rfl rfl ?_
 refine qF 32 rfl rfl rfl ?_
 refine tl (qR rfl rfl) ?_
 refine tl (qD rfl) ?_
 refine qB ?_
 exact xW hK44 (.refl _) (trivial) ⟨rfl, rfl, rfl, rfl, rfl, rfl, rfl, rfl, rfl, show some (Value.bool true) = some (Value.bool (decide (((((!(dI b.names s)) = true) ∨ ((¬ kind = 0) ∧ (¬ kind = 1))) ∨ (k < 0)) ∨ ((xT b : Int) ≤ k)))) by first | (simp [h46, h47, h50]; done) | grind | (simp [h46, h47, h50] <;> omega), trivial⟩ (fun w hw => hw)
 refine qJ 32 rfl rfl ?_
 refine tl (qG rfl) ?_
 refine qJ 32 rfl rfl ?_
 refine tl (qQ 1 [.slice A15 b.names.concepts.length d16, .slice A19 b.names.roles.length d20, .slice A23 b.names.inds.length d24, .slice A3 b.incls.length d4, .slice A6 b.roles.length d7, .slice A9 b.facts.length d10, .slice A12 b.links.length d13] rfl pN rfl rfl) ?_
 refine qJ 32 rfl rfl ?_
 refine xC ca36 rfl (fun w hw => sC b hr_b hw) rfl ?_
 refine qJ 32 rfl rfl ?_
 refine tl (jR rfl rfl rfl) ?_
 refine tl (qO rfl rfl) ?_
 refine tl (qD rfl) ?_
 refine qB ?_
 exact xW hK44 (.refl _) (trivial) ⟨rfl, rfl, rfl, rfl, rfl, rfl, rfl, rfl, rfl, show some (Value.bool (decide ((xT b : Int) ≤ k))) = some (Value.bool (decide (((((!(dI b.names s)) = true) ∨ ((¬ kind = 0) ∧ (¬ kind = 1))) ∨ (k < 0)) ∨ ((xT b : Int) ≤ k)))) by first | (simp [h46, h47, h50]; done) | grind | (simp [h46, h47, h50] <;> omega), trivial⟩ (fun w hw => hw)
 refine fun R52 hle53 hj51 => jH hle53 ?_
 refine qP 14 rfl (fun h54 => ?_) (fun h54 => ?_)
 refine xE rfl ?_
 refine qE <| qA ?_
 refine tl (qD rfl) ?_
 refine tl (qD rfl) ?_
 refine qB <| qC <| qV <| qN <| qI ?_
 refine kL (.inl rfl) rfl rfl rfl ?_
 have e55 : (false : Bool) = (sJ b k s kind).1 := by (rw [mE (by grind) (by grind)])
 have e56 : (1 : Int) = (sJ b k s kind).2 := by (rw [mE (by grind) (by grind)])
 exact fun w hw => ⟨congrArg Ending.returned (yW (fun x0 x1 => Value.tuple #[.bool x0, .int .i64 x1]) e55 e56), hw.drop 2⟩
 refine xV rfl ?_
 refine qZ <| jC <| qC <| qE ?_
 refine vS R (.blk b40 [.slice A31 s.concepts.length d32, .slice A35 s.roles.length d36] 33 :: .blk b39 [.slice A15 b.names.concepts.length d16, .slice A19 b.names.roles.length d20, .slice A23 b.names.inds.length d24, .slice A3 b.incls.length d4, .slice A6 b.roles.length d7, .slice A9 b.facts.length d10, .slice A12 b.links.length d13] 30 :: G) 8 mixed ?_
 refine td 0 rfl (by kernel_rfl) (qQ 0 [.slice A31 s.concepts.length d32, .slice A35 s.roles.length d36] rfl yM rfl rfl) (fun w hw => hw) ?_
 refine td 1 rfl (by kernel_rfl) (qG rfl) (fun w hw => hw) ?_
 refine td 3 rfl (by kernel_rfl) (qQ 1 [.slice A15 b.names.concepts.length d16, .slice A19 b.names.roles.length d20, .slice A23 b.names.inds.length d24, .slice A3 b.incls.length d4, .slice A6 b.roles.length d7, .slice A9 b.facts.length d10, .slice A12 b.links.length d13] rfl pN rfl rfl) (fun w hw => hw) ?_
 refine td 4 rfl (by kernel_rfl) (qG rfl) (fun w hw => hw) ?_
 refine td1 2 (by kernel_rfl) rfl ?_
 refine xD ca45 rfl (fun w hw => tQ s kind hr_s (by unfold i64; omega) (by omega) hw) rfl ?_
 rintro _ R61 _ hle62 ⟨b57, b58, b59, rfl, rfl, hh60⟩
 try replace hr_b := kBase.mono _ _ _ _ hle62 hr_b
 try replace hG := hG.mono hle62
 refine qB ?_
 refine qY (fun w hw => (hw.drop 2).weaken hle62) ?_
 refine td1 5 (by kernel_rfl) rfl ?_
 refine xC ca46 rfl (fun w hw => gY (decide (kind = 1)) (wO [] s.concepts) (wO [] s.roles) b k (.head _) (.tail _ (.head _)) hh60 hr_b (by unfold i64; omega) (by first | exact vG (by grind) | grind) (by first | exact vG (by grind) | grind) hw) rfl ?_
 refine qB ?_
 refine qY (fun w hw => (hw.drop 2).weaken hle62) ?_
 refine td 6 rfl (by kernel_rfl) (qD rfl) (fun w hw => (hw.drop 2).weaken hle62) ?_
 refine td 7 rfl (by kernel_rfl) (qD rfl) (fun w hw => (hw.drop 2).weaken hle62) ?_
 refine xK (by kernel_rfl) ?_
 refine qC <| qV ?_
 refine kL (.inl rfl) rfl rfl rfl ?_
 have e63 : (kD b k.toNat (Sig.mk (wO [] s.concepts) (wO [] s.roles)) (decide (kind = 1)) : Bool) = (sJ b k s kind).1 := by (rw [iV (by grind) ⟨by grind, by omega, by omega, by omega⟩, qG6])
 have e64 : (0 : Int) = (sJ b k s kind).2 := by (rw [iV (by grind) ⟨by grind, by omega, by omega, by omega⟩])
 exact fun w hw => ⟨congrArg Ending.returned (yW (fun x0 x1 => Value.tuple #[.bool x0, .int .i64 x1]) e63 e64), (hw.drop 4).weaken hle62⟩

theorem iY {R : RO} {G : List Res} {w : World} {c_b : List Value} (b : Base) {A_l : Option Addr} {d_l : Nat} (l : List (Int)) (hr_b : kBase.rep R b c_b) (hs_l : SlAt kInt R A_l l) (hG : Glob R) (hw : Own w R (G)) :
    Calls Tryz.prog 22 [.agg c_b.toArray, .slice A_l l.length d_l].toArray w (gZ R G (fun v_ R' L_ => ∃ (cs_0 : List Value), v_ = (.tuple #[.agg cs_0.toArray, .int .i64 ((gI b l).2)] : Value) ∧ L_ = ([] : List Res) ∧ kSig.rep R' ((gI b l).1) cs_0)) := by
 obtain ⟨c1, A3, d4, A6, d7, A9, d10, A12, d13, rfl, hr2, hs5, hs8, hs11, hs14⟩ := id hr_b
 have z27 := hs5.size
 unfold big at z27
 have z28 := hs8.size
 unfold big at z28
 have z29 := hs11.size
 unfold big at z29
 have z30 := hs14.size
 unfold big at z30
 obtain ⟨A15, d16, A19, d20, A23, d24, rfl, hs17, hs21, hs25⟩ := id hr2
 have z18 := hs17.size
 unfold big at z18
 have z22 := hs21.size
 unfold big at z22
 have z26 := hs25.size
 unfold big at z26
 have hz_l := hs_l.size
 unfold big at hz_l
 have hax : xT b ≤ 4 * 140737488355328 := by unfold xT; omega
 refine xH (vs := [.agg #[.slice A15 b.names.concepts.length d16, .slice A19 b.names.roles.length d20, .slice A23 b.names.inds.length d24, .slice A3 b.incls.length d4, .slice A6 b.roles.length d7, .slice A9 b.facts.length d10, .slice A12 b.links.length d13], .slice A_l l.length d_l]) Tryz.func22 rfl rfl rfl ?_ hw
 refine qE <| qA ?_
 refine qW (l := [.slice A15 b.names.concepts.length d16, .slice A19 b.names.roles.length d20, .slice A23 b.names.inds.length d24, .slice A3 b.incls.length d4, .slice A6 b.roles.length d7, .slice A9 b.facts.length d10, .slice A12 b.links.length d13]) rfl rfl fun b31 => ?_
 refine qS tS rfl fun b32 => ?_
 refine tl (qD rfl) ?_
 refine qB <| qC <| qE <| qX <| qE <| qA ?_
 refine tl (qQ 1 [.slice A15 b.names.concepts.length d16, .slice A19 b.names.roles.length d20, .slice A23 b.names.inds.length d24, .slice A3 b.incls.length d4, .slice A6 b.roles.length d7, .slice A9 b.facts.length d10, .slice A12 b.links.length d13] rfl pN rfl rfl) ?_
 refine xC ca34 rfl (fun w hw => cA b hr_b (by first | assumption | omega) hw) rfl ?_
 refine tl (jR rfl rfl rfl) ?_
 refine tl (qD rfl) ?_
 refine qB <| qC ?_
 refine qP 6 rfl (fun h33 => ?_) (fun h33 => ?_)
 refine xE rfl ?_
 refine qE <| qA ?_
 refine tl (xP [.slice none 0 0, .slice none 0 0] tS mT rfl rfl) ?_
 refine xN 0 [.slice none 0 0, .slice none 0 0] rfl rfl yM rfl rfl rfl rfl rfl rfl ?_
 refine tl (qD rfl) ?_
 refine qB <| qC <| qV <| qN <| qI ?_
 refine mP (cells := [.slice none 0 0, .slice none 0 0]) 0 (.inl rfl) rfl rfl rfl yM rfl ?_
 have e34 : ((Sig.mk ([] : List (Int)) ([] : List (Int))) : Sig) = (gI b l).1 := by (rw [cH (by grind)])
 have e35 : (20 : Int) = (gI b l).2 := by (rw [cH (by grind)])
 intro w hw
 exact ⟨_, _, [], rfl, .refl _, hw.drop 2, ([.slice none 0 0, .slice none 0 0]), (congrArg (fun (z1_ : Int) => (.tuple #[.agg #[.slice none 0 0, .slice none 0 0], .int .i64 z1_] : Value)) e35), rfl, (Eq.mp (congrArg (fun z => kSig.rep R z [.slice none 0 0, .slice none 0 0]) e34) ⟨_, _, _, _, rfl, (SlAt.nil _ _ _), (SlAt.nil _ _ _)⟩)⟩
 refine xV rfl ?_
 refine qE <| qA ?_
 refine tl (qG rfl) ?_
 refine tl (qQ 1 [.slice A15 b.names.concepts.length d16, .slice A19 b.names.roles.length d20, .slice A23 b.names.inds.length d24, .slice A3 b.incls.length d4, .slice A6 b.roles.length d7, .slice A9 b.facts.length d10, .slice A12 b.links.length d13] rfl pN rfl rfl) ?_
 refine xC ca36 rfl (fun w hw => sC b hr_b hw) rfl ?_
 refine xC ca52 rfl (fun w hw => aQ l (xT b : Int) hs_l (by unfold i64; omega) hw) rfl ?_
 refine tl (wJ rfl) ?_
 refine tl (qD rfl) ?_
 refine qB <| qC ?_
 refine vI 11 rfl (fun h36 => ?_) (fun h36 => ?_)
 refine xE rfl ?_
 refine qE <| qA ?_
 refine tl (xP [.slice none 0 0, .slice none 0 0] tS mT rfl rfl) ?_
 refine xN 0 [.slice none 0 0, .slice none 0 0] rfl rfl yM rfl rfl rfl rfl rfl rfl ?_
 refine tl (qD rfl) ?_
 refine qB <| qC <| qV <| qN <| qI ?_
 refine mP (cells := [.slice none 0 0, .slice none 0 0]) 0 (.inl rfl) rfl rfl rfl yM rfl ?_
 have e37 : ((Sig.mk ([] : List (Int)) ([] : List (Int))) : Sig) = (gI b l).1 := by (rw [mF (by grind) (by grind)])
 have e38 : (1 : Int) = (gI b l).2 := by (rw [mF (by grind) (by grind)])
 intro w hw
 exact ⟨_, _, [], rfl, .refl _, hw.drop 2, ([.slice none 0 0, .slice none 0 0]), (congrArg (fun (z1_ : Int) => (.tuple #[.agg #[.slice none 0 0, .slice none 0 0], .int .i64 z1_] : Value)) e38), rfl, (Eq.mp (congrArg (fun z => kSig.rep R z [.slice none 0 0, .slice none 0 0]) e37) ⟨_, _, _, _, rfl, (SlAt.nil _ _ _), (SlAt.nil _ _ _)⟩)⟩
 refine xV rfl ?_
 refine qZ <| jC <| qC <| qE <| qA ?_
 refine tl (qQ 1 [.slice A15 b.names.concepts.length d16, .slice A19 b.names.roles.length d20, .slice A23 b.names.inds.length d24, .slice A3 b.incls.length d4, .slice A6 b.roles.length d7, .slice A9 b.facts.length d10, .slice A12 b.links.length d13] rfl pN rfl rfl) ?_
 refine tl (qG rfl) ?_
 refine xD ca53 rfl (fun w hw => aU b l hr_b hs_l (by first | assumption | exact vG (by grind) | exact iW (by grind) (by grind)) (by first | assumption | exact vG (by grind) | exact iW (by grind) (by grind)) (by first | assumption | exact vG (by grind) | exact iW (by grind) (by grind)) hw) rfl ?_
 rintro _ R40 _ hle41 ⟨cs_z39_0, rfl, rfl, hr_z39_0⟩
 try replace hG := hG.mono hle41
 obtain ⟨A42, d43, A46, d47, rfl, hs44, hs48⟩ := id hr_z39_0
 have z45 := hs44.size
 unfold big at z45
 have z49 := hs48.size
 unfold big at z49
 refine xN 0 [.slice A42 (((vW b l).concepts).length) d43, .slice A46 (((vW b l).roles).length) d47] rfl rfl yM rfl rfl rfl rfl rfl rfl ?_
 refine tl (qD rfl) ?_
 refine qB <| qC <| qV ?_
 refine mP (cells := [.slice A42 (((vW b l).concepts).length) d43, .slice A46 (((vW b l).roles).length) d47]) 0 (.inl rfl) rfl rfl rfl yM rfl ?_
 have e50 : ((vW b l) : Sig) = (gI b l).1 := by (rw [oZ (by grind) (by grind)])
 have e51 : (0 : Int) = (gI b l).2 := by (rw [oZ (by grind) (by grind)])
 intro w hw
 exact ⟨_, _, [], rfl, hle41, hw.drop 2, ([.slice A42 (((vW b l).concepts).length) d43, .slice A46 (((vW b l).roles).length) d47]), (congrArg (fun (z1_ : Int) => (.tuple #[.agg #[.slice A42 (((vW b l).concepts).length) d43, .slice A46 (((vW b l).roles).length) d47], .int .i64 z1_] : Value)) e51), rfl, (Eq.mp (congrArg (fun z => kSig.rep R40 z [.slice A42 (((vW b l).concepts).length) d43, .slice A46 (((vW b l).roles).length) d47]) e50) hr_z39_0)⟩

end Go.Proofs.YtcbcdlajnmkioaaGreatDoor
