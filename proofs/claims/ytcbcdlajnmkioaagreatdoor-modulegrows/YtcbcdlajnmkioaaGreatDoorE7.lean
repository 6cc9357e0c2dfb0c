/- A part of the proof of the statement ModuleGrows of isagogelaw19: rules by which code is walked. -/
import Derived.Test.YtcbcdlajnmkioaaGreatDoorE6
import Derived.OrdersHeld
import Derived.StillTail
namespace Go.Proofs.YtcbcdlajnmkioaaGreatDoor
open Go
set_option linter.unusedVariables false
set_option linter.unusedSimpArgs false

section
variable {P : Program} {n : Nat} {D : List Deferred} {env env' : List (Nat × Value)} {R : RO} {G G' : List Res} {Q : Exit → Act → World → Prop} {ops : Array Oper} {rest : List Oper} {o : Oper}

/-! ## 8. Calls that hand over memory; cuts with names; regions that draw their order and make memory -/

/-- What a call is told to do: a value, memory that is read as before and more, and memory that is handed over. -/
def RetO (R : RO) (G : List Res) (φ : Value → RO → List Res → Prop) : Ending → World → Prop := fun e w' => ∃ v R' L, e = .returned v ∧ R.le R' ∧ Own w' R' (L ++ G) ∧ φ v R' L

theorem tl_callo {f d ty pos af at_ xs vs} {φ : Value → RO → List Res → Prop} {G1 : List Res} (hc : Callable P f) (hv : evs env xs = some vs) (hk : ∀ w, Own w R G → Calls P f vs.toArray w (RetO R G1 φ)) (hn : Nat.blt d n = true)
    (k : ∀ v R' L, R.le R' → φ v R' L → TL P ops Q rest n D ((d, v) :: env) R' (L ++ G1)) : TL P ops Q (⟨some d, .call { callee := .value (.func f), args := xs.toArray, argTypes := at_ }, ty, pos, af, none⟩ :: rest) n D env R G := by
  intro a w ha hw
  refine wpList_plain rfl fun K hK => ?_
  unfold Oper.wp
  rw [run_call ha hc hv]
  simp only [Oper.upon]
  refine (hk w hw).mono ?_
  rintro e w' ⟨v, R', L, rfl, hle, ho, hp⟩
  exact hK _ _ (k v R' L hle hp _ _ (ha.put (Nat.le_of_ble_eq_true hn)) ho)

/-- .. whose value goes nowhere. -/
theorem tl_callo0 {f ty pos af at_ xs vs} {φ : Value → RO → List Res → Prop} {G1 : List Res} (hc : Callable P f) (hv : evs env xs = some vs) (hk : ∀ w, Own w R G → Calls P f vs.toArray w (RetO R G1 φ))
    (k : ∀ v R' L, R.le R' → φ v R' L → TL P ops Q rest n D env R' (L ++ G1)) : TL P ops Q (⟨none, .call { callee := .value (.func f), args := xs.toArray, argTypes := at_ }, ty, pos, af, none⟩ :: rest) n D env R G := by
  intro a w ha hw
  refine wpList_plain rfl fun K hK => ?_
  unfold Oper.wp
  rw [run_call ha hc hv]
  simp only [Oper.upon]
  refine (hk w hw).mono ?_
  rintro e w' ⟨v, R', L, rfl, hle, ho, hp⟩
  exact hK _ _ (k v R' L hle hp _ _ ha ho)

/-- The resources are told anew. -/
theorem tl_G (G') (h : ∀ w, Own w R G → Own w R G') (k : TL P ops Q rest n D env R G') : TL P ops Q rest n D env R G := fun a w ha hw => k a w ha (h w hw)
theorem tc_G {c : Code} (G') (h : ∀ w, Own w R G → Own w R G') (k : TC P c Q n D env R G') : TC P c Q n D env R G := fun a w ha hw => k a w ha (h w hw)
theorem tx_G {e : Exit} (G') (h : ∀ w, Own w R G → Own w R G') (k : TX Q e n D env R G') : TX Q e n D env R G := fun a w ha hw => k a w ha (h w hw)
theorem Own.pick {w R G} (h : Own w R G) (k : Nat) : Own w R (pick k G) := h.perm (pick_perm k G)

/-- Two ways meet, with names that hang on the way. -/
theorem tc_cutX {X : Type} {x y : Code} (env' : X → List (Nat × Value)) (G' : X → List Res) (J : X → RO → Prop)
    (h : ∀ K : Exit → Act → World → Prop, Aside (∀ z a w R', R.le R' → J z R' → Env n D (env' z) a → Own w R' (G' z) → K .normal a w) → Aside (∀ e a w, e ≠ .normal → Q e a w → K e a w) → TC P x K n D env R G)
    (k : ∀ z R', R.le R' → J z R' → TC P y Q n D (env' z) R' (G' z)) : TC P (.seq x y) Q n D env R G :=
  tc_seq (h _ ⟨fun z a w R' hle hj ha hw => k z R' hle hj a w ha hw⟩ ⟨fun e a w he hq => by
    cases e <;> first | exact absurd rfl he | exact hq⟩)
theorem tx_cutX {X : Type} {K : Exit → Act → World → Prop} {env' : X → List (Nat × Value)} {G' : X → List Res} {J : X → RO → Prop} {R0 : RO} (hK : Aside (∀ z a w R', R0.le R' → J z R' → Env n D (env' z) a → Own w R' (G' z) → K .normal a w)) (z : X)
    (hle : R0.le R) (hj : J z R) (he : lkAll env (env' z)) (hg : ∀ w, Own w R G → Own w R (G' z)) : TX K .normal n D env R G := fun a w ha hw => hK.out z a w R hle hj (ha.sub (lkAll_lk he)) (hg w hw)

/-! ### Any order -/

/-- The region's exit: it goes on, or nothing. -/
def onN (Q : Exit → Act → World → Prop) : Exit → Act → World → Prop := fun e a w => match e with
  | .normal => Q .normal a w
  | _ => False

/-- Whatever order comes; behind each operation but number z what the quiet ones read stands. -/
def anyS (P : Program) (ops : Array Oper) (Q : Exit → Act → World → Prop) (S : World → Prop) (z : Nat) : Nat → Array Bool → Act → World → Prop
  | 0, listed, a, w => Region.ready .any ops listed = [] ∧ Q .normal a w
  | f + 1, listed, a, w => (Region.ready .any ops listed = [] → Q .normal a w) ∧
    ∀ i ∈ Region.ready .any ops listed, wpOp P ops Q i (fun a' w' => (i = z ∨ S w') ∧ anyS P ops Q S z f (listed.setIfInBounds i true) a' w') a w

theorem any_of_anyS {Q : Exit → Act → World → Prop} {S : World → Prop} {z : Nat} : ∀ (f : Nat) (listed : Array Bool) (a : Act) (w : World), anyS P ops Q S z f listed a w → wpAny P .any ops Q f listed a w
  | 0, _, _, _, h => h
  | f + 1, _, _, _, h => ⟨h.1, fun i hi => wpOp_mono (fun a' w' h' => any_of_anyS f _ a' w' h'.2) (h.2 i hi)⟩

/-- A quiet operation for which number z waits may be taken first. -/
theorem anyS_first {Q : Exit → Act → World → Prop} {S : World → Prop} {z i : Nat} {oi : Oper} {v : Value} (hi : ops[i]? = some oi) (hsel : ∀ (j : Nat) (o : Oper) cs b, ops[j]? = some o → o.op ≠ .select cs b)
    (hQ : ∀ c a w, Q (.panic c) (a.put oi.dst v) w → Q (.panic c) a w) (hz : ∀ listed, listed.getD i true = false → ¬ z ∈ Region.ready .any ops listed) :
    ∀ (f : Nat) (listed : Array Bool) (a : Act) (w : World),
      (∀ j oj, ops[j]? = some oj → j ≠ i → listed.getD j true = false → (∀ e ∈ oj.after, Region.binds .any e = true → e.on ≠ i) → oi.apart ops oj = true) →
      i ∈ Region.ready .any ops listed → YieldsIf P ops S oi v a → S w → anyS P ops Q S z f (listed.setIfInBounds i true) (a.put oi.dst v) w → anyS P ops Q S z (f + 1) listed a w := by
  intro f
  induction f with
  | zero =>
    intro listed a w _ hr hy hS H
    refine ⟨fun h => (by rw [h] at hr; cases hr), fun j hj => ?_⟩
    by_cases hji : j = i
    · subst hji; exact hy.wpOp hi hS ⟨.inr hS, H⟩
    · have := ready_mono hj hji
      rw [H.1] at this
      cases this
  | succ f ih =>
    intro listed a w hfree hr hy hS H
    refine ⟨fun h => (by rw [h] at hr; cases hr), fun j hj => ?_⟩
    by_cases hji : j = i
    · subst hji; exact hy.wpOp hi hS ⟨.inr hS, H⟩
    · have h1 := H.2 j (ready_mono hj hji)
      obtain ⟨hjun, oj, hoj, hall⟩ := mem_ready.1 hj
      have hun := (mem_ready.1 hr).1
      have hjz : ¬ j = z := fun e => hz listed hun (e ▸ hj)
      have hnot : ∀ e ∈ oj.after, Region.binds .any e = true → e.on ≠ i := fun e he hb heq => by
        have h1 := hall e he hb
        rw [heq, getD_both hun] at h1
        cases h1
      have h2 := wpOp_putIf hoj (hfree j oj hoj hji hjun hnot) (fun cs b => hsel i oi cs b hi) (fun cs b => hsel j oj cs b hoj) hQ hy h1
      have hfree' : ∀ k ok, ops[k]? = some ok → k ≠ i → (listed.setIfInBounds j true).getD k true = false →
          (∀ e ∈ ok.after, Region.binds .any e = true → e.on ≠ i) → oi.apart ops ok = true := fun k ok hk hki hun hno => by
        refine hfree k ok hk hki ?_ hno
        by_cases hjk : j = k
        · subst hjk; exact hjun
        · rw [getD_set_ne true hjk] at hun; exact hun
      refine wpOp_mono (fun a' w' h3 => ?_) h2
      have hSw : S w' := h3.2.1.resolve_left hjz
      refine ⟨.inr hSw, ih (listed.setIfInBounds j true) a' w' hfree' (ready_mono hr (Ne.symm hji)) h3.1 hSw ?_⟩
      rw [Array.setIfInBounds_comm _ _ hji]
      exact h3.2.2

/-- From here on, whatever order: 'S' is what the quiet operations read of the world. -/
def TD (P : Program) (ops : Array Oper) (Q : Exit → Act → World → Prop) (R0 : RO) (G0 : List Res) (z : Nat) (fuel : Nat) (listed : Array Bool) (n : Nat) (D : List Deferred) (env : List (Nat × Value)) (R : RO) (G : List Res) : Prop :=
  ∀ a w, Env n D env a → Own w R G → anyS P ops (onN Q) (fun w => Own w R0 G0) z fuel listed a w

theorem tc_draw {i : Nat} {l : List Oper} (R0 : RO) (G0 : List Res) (z : Nat) (hm : P.follows .mixedOrders = true)
    (h : TD P l.toArray Q R0 G0 z l.length (Array.replicate l.length false) n D env R G) : TC P (.region i l.toArray true) Q n D env R G := by
  intro a w ha hw
  have h1 := wp_region_any (P := P) (ops := l.toArray) (Q := onN Q) (id := i) (a := a) (w := w) hm (any_of_anyS _ _ _ _ (h a _ ha (hw.drew _)))
  exact Code.wp_mono (fun e a' w' h2 => by cases e <;> first | exact h2 | exact h2.elim) h1

/-- Number z waits for number i, or there is no such number. -/
def waitsZ (ops : Array Oper) (z i : Nat) : Bool := Nat.ble ops.size z || Region.waitsFor .any ops z i
theorem waitsZ_spec {z i : Nat} (h : waitsZ ops z i = true) (listed : Array Bool) (hun : listed.getD i true = false) : ¬ z ∈ Region.ready .any ops listed := by
  intro hr
  obtain ⟨-, oz, hoz, hall⟩ := mem_ready.1 hr
  unfold waitsZ at h
  rw [Bool.or_eq_true] at h
  rcases h with h | h
  · have := (Array.getElem?_eq_some_iff.1 hoz).1
    have := Nat.le_of_ble_eq_true h
    omega
  · obtain ⟨oj, hoj, e, he, hb, hon⟩ := Region.waitsFor_spec h
    rw [hoz] at hoj
    cases hoj
    have := hall e he hb
    rw [hon, getD_both hun] at this
    cases this

/-- Number i is taken first. -/
theorem td {R0 : RO} {G0 : List Res} {z fuel : Nat} {listed : Array Bool} {d : Nat} {op : Op} {ty : TypeId} {pos : String} {af : Array Edge} {v : Value} (i : Nat) (hi : ops[i]? = some ⟨some d, op, ty, pos, af, none⟩) (hb : (Region.noSelect ops && Region.free .any ops listed i && (Region.ready .any ops listed).contains i && waitsZ ops z i) = true)
    (h : VAL P n D env R0 G0 ⟨some d, op, ty, pos, af, none⟩ v) (hS : ∀ w, Own w R G → Own w R0 G0)
    (k : TD P ops Q R0 G0 z fuel (listed.setIfInBounds i true) n D ((d, v) :: env) R G) (hn : Nat.blt d n = true := by rfl) : TD P ops Q R0 G0 z (fuel + 1) listed n D env R G := by
  simp only [Bool.and_eq_true] at hb
  obtain ⟨⟨⟨hs, hf⟩, hr⟩, hz⟩ := hb
  intro a w ha hw
  refine anyS_first (v := v) hi (Region.noSelect_spec hs) (fun c a w q => q) (waitsZ_spec hz) _ _ _ _ (Region.free_spec hi hf) (by simpa using hr) (.inl ⟨by simp [Region.wanted], fun w' hw' => h a w' ha hw'⟩) (hS w hw) ?_
  exact k _ _ (ha.put (Nat.le_of_ble_eq_true hn)) hw

/-- What follows behind one operation. -/
def TDK (P : Program) (ops : Array Oper) (Q : Exit → Act → World → Prop) (R0 : RO) (G0 : List Res) (z i : Nat) (fuel : Nat) (listed : Array Bool) : Exit → Act → World → Prop := fun e a w => match e with
  | .normal => (i = z ∨ Own w R0 G0) ∧ anyS P ops (onN Q) (fun w => Own w R0 G0) z fuel listed a w
  | _ => False

/-- Whichever comes up. -/
def TDs (P : Program) (ops : Array Oper) (Q : Exit → Act → World → Prop) (R0 : RO) (G0 : List Res) (z : Nat) (fuel : Nat) (listed : Array Bool) (n : Nat) (D : List Deferred) (env : List (Nat × Value)) (R : RO) (G : List Res) : List Nat → Prop
  | [] => True
  | i :: is => (∃ o, ops[i]? = some o ∧ TL P ops (TDK P ops Q R0 G0 z i fuel (listed.setIfInBounds i true)) [o] n D env R G) ∧ TDs P ops Q R0 G0 z fuel listed n D env R G is

theorem TDs_get {R0 : RO} {G0 : List Res} {z fuel : Nat} {listed : Array Bool} : ∀ {is : List Nat}, TDs P ops Q R0 G0 z fuel listed n D env R G is → ∀ i ∈ is, ∃ o, ops[i]? = some o ∧ TL P ops (TDK P ops Q R0 G0 z i fuel (listed.setIfInBounds i true)) [o] n D env R G
  | [], _, i, hi => by cases hi
  | j :: is, h, i, hi => by
    rcases List.mem_cons.1 hi with rfl | hi
    · exact h.1
    · exact TDs_get h.2 i hi

theorem td_all {R0 : RO} {G0 : List Res} {z fuel : Nat} {listed : Array Bool} (rs : List Nat) (hr : Region.ready .any ops listed = rs) (hne : rs.isEmpty = false) (h : TDs P ops Q R0 G0 z fuel listed n D env R G rs) : TD P ops Q R0 G0 z (fuel + 1) listed n D env R G := by
  intro a w ha hw
  refine ⟨fun e => (by rw [hr] at e; rw [e] at hne; cases hne), fun i hi => ?_⟩
  rw [hr] at hi
  obtain ⟨o, ho, ht⟩ := TDs_get h i hi
  have h1 := ht a w ha hw
  unfold wpOp
  rw [ho]
  unfold wpList at h1
  dsimp only
  split
  · rename_i hwt
    rw [if_pos hwt] at h1
    rcases h1 with h1 | ⟨_, hlets⟩
    · left
      unfold Oper.wp at h1 ⊢
      generalize (execOp a.eval o).run P w = r at h1 ⊢
      cases r with
      | ok x w' =>
        cases x <;> simp only [Oper.upon] at h1 ⊢ <;> exact h1
      | halt x w' => cases x <;> simp only [Oper.upon] at h1 ⊢ <;> first | exact h1 | exact h1.elim
    · obtain ⟨a1, w1, h2⟩ := hlets
      exact h2.elim
  · rename_i hwt
    rw [if_neg hwt] at h1
    exact h1
theorem tds_nil {R0 : RO} {G0 : List Res} {z fuel : Nat} {listed : Array Bool} : TDs P ops Q R0 G0 z fuel listed n D env R G [] := trivial
theorem tds {R0 : RO} {G0 : List Res} {z fuel : Nat} {listed : Array Bool} {i : Nat} {is : List Nat} {o : Oper} (hi : ops[i]? = some o) (h : TL P ops (TDK P ops Q R0 G0 z i fuel (listed.setIfInBounds i true)) [o] n D env R G) (k : TDs P ops Q R0 G0 z fuel listed n D env R G is) : TDs P ops Q R0 G0 z fuel listed n D env R G (i :: is) := ⟨⟨o, hi, h⟩, k⟩
theorem td1 {R0 : RO} {G0 : List Res} {z fuel : Nat} {listed : Array Bool} {o : Oper} (i : Nat) (hr : Region.ready .any ops listed = [i]) (hi : ops[i]? = some o) (h : TL P ops (TDK P ops Q R0 G0 z i fuel (listed.setIfInBounds i true)) [o] n D env R G) : TD P ops Q R0 G0 z (fuel + 1) listed n D env R G := td_all [i] hr rfl (tds hi h tds_nil)
theorem tx_td {R0 : RO} {G0 : List Res} {z i fuel : Nat} {listed : Array Bool} (hS : ∀ w, Own w R G → Own w R0 G0) (h : TD P ops Q R0 G0 z fuel listed n D env R G) : TX (TDK P ops Q R0 G0 z i fuel listed) .normal n D env R G := fun a w ha hw => ⟨.inr (hS w hw), h a w ha hw⟩
theorem tx_tdz {R0 : RO} {G0 : List Res} {z fuel : Nat} {listed : Array Bool} (h : TD P ops Q R0 G0 z fuel listed n D env R G) : TX (TDK P ops Q R0 G0 z z fuel listed) .normal n D env R G := fun a w ha hw => ⟨.inl rfl, h a w ha hw⟩
theorem td_done {R0 : RO} {G0 : List Res} {z : Nat} {listed : Array Bool} (hr : Region.ready .any ops listed = []) (h : TX Q .normal n D env R G) : TD P ops Q R0 G0 z 0 listed n D env R G := fun a w ha hw => ⟨hr, h a w ha hw⟩
end
end Go.Proofs.YtcbcdlajnmkioaaGreatDoor
