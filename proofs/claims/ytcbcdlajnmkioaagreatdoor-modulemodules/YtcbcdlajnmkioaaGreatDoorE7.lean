/- A part of the proof of the statement ModuleModules of isagogelaw19: rules by which code is walked. -/
import Derived.Test.YtcbcdlajnmkioaaGreatDoorE0
import Derived.OrdersHeld
import Derived.StillTail
import Derived.Maps.Range
import Derived.Laws.StructEq
import Derived.Lib.AppendZeros
import Derived.RangeFuncLeaves
import Derived.RangeFuncSeq
import Derived.TacticsIn
namespace Go.Proofs.YtcbcdlajnmkioaaGreatDoor
open Go
set_option linter.unusedVariables false
set_option linter.unusedSimpArgs false

section
variable {P : Program} {n : Nat} {D : List Deferred} {env env' : List (Nat × Value)} {R : RO} {G G' : List Res} {Q : Exit → Act → World → Prop} {ops : Array Oper} {rest : List Oper} {o : Oper}


def gZ (R : RO) (G : List Res) (φ : Value → RO → List Res → Prop) : Ending → World → Prop := fun e w' => ∃ v R' L, e = .returned v ∧ R.le R' ∧ Own w' R' (L ++ G) ∧ φ v R' L

theorem xD {f d ty pos af at_ xs vs} {φ : Value → RO → List Res → Prop} {G1 : List Res} (hc : Callable P f) (hv : evs env xs = some vs) (hk : ∀ w, Own w R G → Calls P f vs.toArray w (gZ R G1 φ)) (hn : Nat.blt d n = true)
    (k : ∀ v R' L, R.le R' → φ v R' L → TL P ops Q rest n D ((d, v) :: env) R' (L ++ G1)) : TL P ops Q (⟨some d, .call { callee := .value (.func f), args := xs.toArray, argTypes := at_ }, ty, pos, af, none⟩ :: rest) n D env R G := by
  intro a w ha hw
  refine wpList_plain rfl fun K hK => ?_
  unfold Oper.wp
  rw [cP ha hc hv]
  simp only [Oper.upon]
  refine (hk w hw).mono ?_
  rintro e w' ⟨v, R', L, rfl, hle, ho, hp⟩
  exact hK _ _ (k v R' L hle hp _ _ (ha.put (Nat.le_of_ble_eq_true hn)) ho)

theorem tl_callo0 {f ty pos af at_ xs vs} {φ : Value → RO → List Res → Prop} {G1 : List Res} (hc : Callable P f) (hv : evs env xs = some vs) (hk : ∀ w, Own w R G → Calls P f vs.toArray w (gZ R G1 φ))
    (k : ∀ v R' L, R.le R' → φ v R' L → TL P ops Q rest n D env R' (L ++ G1)) : TL P ops Q (⟨none, .call { callee := .value (.func f), args := xs.toArray, argTypes := at_ }, ty, pos, af, none⟩ :: rest) n D env R G := by
  intro a w ha hw
  refine wpList_plain rfl fun K hK => ?_
  unfold Oper.wp
  rw [cP ha hc hv]
  simp only [Oper.upon]
  refine (hk w hw).mono ?_
  rintro e w' ⟨v, R', L, rfl, hle, ho, hp⟩
  exact hK _ _ (k v R' L hle hp _ _ ha ho)

theorem tR (G') (h : ∀ w, Own w R G → Own w R G') (k : TL P ops Q rest n D env R G') : TL P ops Q rest n D env R G := fun a w ha hw => k a w ha (h w hw)
theorem rH {c : Code} (G') (h : ∀ w, Own w R G → Own w R G') (k : TC P c Q n D env R G') : TC P c Q n D env R G := fun a w ha hw => k a w ha (h w hw)
theorem tx_G {e : Exit} (G') (h : ∀ w, Own w R G → Own w R G') (k : TX Q e n D env R G') : TX Q e n D env R G := fun a w ha hw => k a w ha (h w hw)
theorem Own.pick {w R G} (h : Own w R G) (k : Nat) : Own w R (pick k G) := h.perm (wU k G)

theorem aJ {X : Type} {x y : Code} (env' : X → List (Nat × Value)) (G' : X → List Res) (J : X → RO → Prop)
    (h : ∀ K : Exit → Act → World → Prop, Aside (∀ z a w R', R.le R' → J z R' → Env n D (env' z) a → Own w R' (G' z) → K .normal a w) → Aside (∀ e a w, e ≠ .normal → Q e a w → K e a w) → TC P x K n D env R G)
    (k : ∀ z R', R.le R' → J z R' → TC P y Q n D (env' z) R' (G' z)) : TC P (.seq x y) Q n D env R G :=
  qE (h _ ⟨fun z a w R' hle hj ha hw => k z R' hle hj a w ha hw⟩ ⟨fun e a w he hq => by
    cases e <;> first | exact absurd rfl he | exact hq⟩)
theorem xR {X : Type} {K : Exit → Act → World → Prop} {env' : X → List (Nat × Value)} {G' : X → List Res} {J : X → RO → Prop} {R0 : RO} (hK : Aside (∀ z a w R', R0.le R' → J z R' → Env n D (env' z) a → Own w R' (G' z) → K .normal a w)) (z : X)
    (hle : R0.le R) (hj : J z R) (he : lA env (env' z)) (hg : ∀ w, Own w R G → Own w R (G' z)) : TX K .normal n D env R G := fun a w ha hw => hK.out z a w R hle hj (ha.sub (xL he)) (hg w hw)


def onN (Q : Exit → Act → World → Prop) : Exit → Act → World → Prop := fun e a w => match e with
  | .normal => Q .normal a w
  | _ => False

def anyS (P : Program) (ops : Array Oper) (Q : Exit → Act → World → Prop) (S : World → Prop) (z : Nat) : Nat → Array Bool → Act → World → Prop
  | 0, listed, a, w => Region.ready .any ops listed = [] ∧ Q .normal a w
  | f + 1, listed, a, w => (Region.ready .any ops listed = [] → Q .normal a w) ∧
    ∀ i ∈ Region.ready .any ops listed, wpOp P ops Q i (fun a' w' => (i = z ∨ S w') ∧ anyS P ops Q S z f (listed.setIfInBounds i true) a' w') a w

theorem fU {Q : Exit → Act → World → Prop} {S : World → Prop} {z : Nat} : ∀ (f : Nat) (listed : Array Bool) (a : Act) (w : World), anyS P ops Q S z f listed a w → wpAny P .any ops Q f listed a w
  | 0, _, _, _, h => h
  | f + 1, _, _, _, h => ⟨h.1, fun i hi => wpOp_mono (fun a' w' h' => fU f _ a' w' h'.2) (h.2 i hi)⟩

theorem qE3 {Q : Exit → Act → World → Prop} {S : World → Prop} {z i : Nat} {oi : Oper} {v : Value} (hi : ops[i]? = some oi) (hsel : ∀ (j : Nat) (o : Oper) cs b, ops[j]? = some o → o.op ≠ .select cs b)
    (hQ : ∀ c a w, Q (.panic c) (a.put oi.dst v) w → Q (.panic c) a w) (hz : ∀ listed, listed.getD i true = false → ¬ z ∈ Region.ready .any ops listed) :
    ∀ (f : Nat) (listed : Array Bool) (a : Act) (w : World),
      (∀ j oj, ops[j]? = some oj → j ≠ i → listed.getD j true = false → (∀ e ∈ oj.after, Region.binds .any e = true → e.on ≠ i) → oi.apart ops oj = true) →
      i ∈ Region.ready .any ops listed → YieldsIf P ops S oi v a → S w → anyS P ops Q S z f (listed.setIfInBounds i true) (a.put oi.dst v) w → anyS P ops Q S z (f + 1) listed a w := by
  intro f
  induction f with
  | zero =>
    intro listed a w _ hr hy hS H
    refine ⟨fun h => (by rw [h] at hr; cases hr), fun j hj => ?_⟩
    by_cases hji : j = i
    · subst hji; exact hy.wpOp hi hS ⟨.inr hS, H⟩
    · have := ready_mono hj hji
      rw [H.1] at this
      cases this
  | succ f ih =>
    intro listed a w hfree hr hy hS H
    refine ⟨fun h => (by rw [h] at hr; cases hr), fun j hj => ?_⟩
    by_cases hji : j = i
    · subst hji; exact hy.wpOp hi hS ⟨.inr hS, H⟩
    · have h1 := H.2 j (ready_mono hj hji)
      obtain ⟨hjun, oj, hoj, hall⟩ := mem_ready.1 hj
      have hun := (mem_ready.1 hr).1
      have hjz : ¬ j = z := fun e => hz listed hun (e ▸ hj)
      have hnot : ∀ e ∈ oj.after, Region.binds .any e = true → e.on ≠ i := fun e he hb heq => by
        have h1 := hall e he hb
        rw [heq, getD_both hun] at h1
        cases h1
      have h2 := wpOp_putIf hoj (hfree j oj hoj hji hjun hnot) (fun cs b => hsel i oi cs b hi) (fun cs b => hsel j oj cs b hoj) hQ hy h1
      have hfree' : ∀ k ok, ops[k]? = some ok → k ≠ i → (listed.setIfInBounds j true).getD k true = false →
          (∀ e ∈ ok.after, Region.binds .any e = true → e.on ≠ i) → oi.apart ops ok = true := fun k ok hk hki hun hno => by
        refine hfree k ok hk hki ?_ hno
        by_cases hjk : j = k
        · subst hjk; exact hjun
        · rw [getD_set_ne true hjk] at hun; exact hun
      refine wpOp_mono (fun a' w' h3 => ?_) h2
      have hSw : S w' := h3.2.1.resolve_left hjz
      refine ⟨.inr hSw, ih (listed.setIfInBounds j true) a' w' hfree' (ready_mono hr (Ne.symm hji)) h3.1 hSw ?_⟩
      rw [Array.setIfInBounds_comm _ _ hji]
      exact h3.2.2

def TD (P : Program) (ops : Array Oper) (Q : Exit → Act → World → Prop) (R0 : RO) (G0 : List Res) (z : Nat) (fuel : Nat) (listed : Array Bool) (n : Nat) (D : List Deferred) (env : List (Nat × Value)) (R : RO) (G : List Res) : Prop :=
  ∀ a w, Env n D env a → Own w R G → anyS P ops (onN Q) (fun w => Own w R0 G0) z fuel listed a w

theorem vS {i : Nat} {l : List Oper} (R0 : RO) (G0 : List Res) (z : Nat) (hm : P.follows .mixedOrders = true)
    (h : TD P l.toArray Q R0 G0 z l.length (Array.replicate l.length false) n D env R G) : TC P (.region i l.toArray true) Q n D env R G := by
  intro a w ha hw
  have h1 := wp_region_any (P := P) (ops := l.toArray) (Q := onN Q) (id := i) (a := a) (w := w) hm (fU _ _ _ _ (h a _ ha (hw.drew _)))
  exact Code.wp_mono (fun e a' w' h2 => by cases e <;> first | exact h2 | exact h2.elim) h1

def qI8 (ops : Array Oper) (z i : Nat) : Bool := Nat.ble ops.size z || Region.waitsFor .any ops z i
theorem rI {z i : Nat} (h : qI8 ops z i = true) (listed : Array Bool) (hun : listed.getD i true = false) : ¬ z ∈ Region.ready .any ops listed := by
  intro hr
  obtain ⟨-, oz, hoz, hall⟩ := mem_ready.1 hr
  unfold qI8 at h
  rw [Bool.or_eq_true] at h
  rcases h with h | h
  · have := (Array.getElem?_eq_some_iff.1 hoz).1
    have := Nat.le_of_ble_eq_true h
    omega
  · obtain ⟨oj, hoj, e, he, hb, hon⟩ := Region.waitsFor_spec h
    rw [hoz] at hoj
    cases hoj
    have := hall e he hb
    rw [hon, getD_both hun] at this
    cases this

theorem td {R0 : RO} {G0 : List Res} {z fuel : Nat} {listed : Array Bool} {d : Nat} {op : Op} {ty : TypeId} {pos : String} {af : Array Edge} {v : Value} (i : Nat) (hi : ops[i]? = some ⟨some d, op, ty, pos, af, none⟩) (hb : (Region.noSelect ops && Region.free .any ops listed i && (Region.ready .any ops listed).contains i && qI8 ops z i) = true)
    (h : VAL P n D env R0 G0 ⟨some d, op, ty, pos, af, none⟩ v) (hS : ∀ w, Own w R G → Own w R0 G0)
    (k : TD P ops Q R0 G0 z fuel (listed.setIfInBounds i true) n D ((d, v) :: env) R G) (hn : Nat.blt d n = true := by rfl) : TD P ops Q R0 G0 z (fuel + 1) listed n D env R G := by
  simp only [Bool.and_eq_true] at hb
  obtain ⟨⟨⟨hs, hf⟩, hr⟩, hz⟩ := hb
  intro a w ha hw
  refine qE3 (v := v) hi (Region.noSelect_spec hs) (fun c a w q => q) (rI hz) _ _ _ _ (Region.free_spec hi hf) (by simpa using hr) (.inl ⟨by simp [Region.wanted], fun w' hw' => h a w' ha hw'⟩) (hS w hw) ?_
  exact k _ _ (ha.put (Nat.le_of_ble_eq_true hn)) hw

def TDK (P : Program) (ops : Array Oper) (Q : Exit → Act → World → Prop) (R0 : RO) (G0 : List Res) (z i : Nat) (fuel : Nat) (listed : Array Bool) : Exit → Act → World → Prop := fun e a w => match e with
  | .normal => (i = z ∨ Own w R0 G0) ∧ anyS P ops (onN Q) (fun w => Own w R0 G0) z fuel listed a w
  | _ => False

def TDs (P : Program) (ops : Array Oper) (Q : Exit → Act → World → Prop) (R0 : RO) (G0 : List Res) (z : Nat) (fuel : Nat) (listed : Array Bool) (n : Nat) (D : List Deferred) (env : List (Nat × Value)) (R : RO) (G : List Res) : List Nat → Prop
  | [] => True
  | i :: is => (∃ o, ops[i]? = some o ∧ TL P ops (TDK P ops Q R0 G0 z i fuel (listed.setIfInBounds i true)) [o] n D env R G) ∧ TDs P ops Q R0 G0 z fuel listed n D env R G is

theorem qI9 {R0 : RO} {G0 : List Res} {z fuel : Nat} {listed : Array Bool} : ∀ {is : List Nat}, TDs P ops Q R0 G0 z fuel listed n D env R G is → ∀ i ∈ is, ∃ o, ops[i]? = some o ∧ TL P ops (TDK P ops Q R0 G0 z i fuel (listed.setIfInBounds i true)) [o] n D env R G
  | [], _, i, hi => by cases hi
  | j :: is, h, i, hi => by
    rcases List.mem_cons.1 hi with rfl | hi
    · exact h.1
    · exact qI9 h.2 i hi

theorem jO {R0 : RO} {G0 : List Res} {z fuel : Nat} {listed : Array Bool} (rs : List Nat) (hr : Region.ready .any ops listed = rs) (hne : rs.isEmpty = false) (h : TDs P ops Q R0 G0 z fuel listed n D env R G rs) : TD P ops Q R0 G0 z (fuel + 1) listed n D env R G := by
  intro a w ha hw
  refine ⟨fun e => (by rw [hr] at e; rw [e] at hne; cases hne), fun i hi => ?_⟩
  rw [hr] at hi
  obtain ⟨o, ho, ht⟩ := qI9 h i hi
  have h1 := ht a w ha hw
  unfold wpOp
  rw [ho]
  unfold wpList at h1
  dsimp only
  split
  · rename_i hwt
    rw [if_pos hwt] at h1
    rcases h1 with h1 | ⟨_, hlets⟩
    · left
      unfold Oper.wp at h1 ⊢
      generalize (execOp a.eval o).run P w = r at h1 ⊢
      cases r with
      | ok x w' =>
        cases x <;> simp only [Oper.upon] at h1 ⊢ <;> exact h1
      | halt x w' => cases x <;> simp only [Oper.upon] at h1 ⊢ <;> first | exact h1 | exact h1.elim
    · obtain ⟨a1, w1, h2⟩ := hlets
      exact h2.elim
  · rename_i hwt
    rw [if_neg hwt] at h1
    exact h1
theorem jD {R0 : RO} {G0 : List Res} {z fuel : Nat} {listed : Array Bool} : TDs P ops Q R0 G0 z fuel listed n D env R G [] := trivial
theorem tds {R0 : RO} {G0 : List Res} {z fuel : Nat} {listed : Array Bool} {i : Nat} {is : List Nat} {o : Oper} (hi : ops[i]? = some o) (h : TL P ops (TDK P ops Q R0 G0 z i fuel (listed.setIfInBounds i true)) [o] n D env R G) (k : TDs P ops Q R0 G0 z fuel listed n D env R G is) : TDs P ops Q R0 G0 z fuel listed n D env R G (i :: is) := ⟨⟨o, hi, h⟩, k⟩
theorem td1 {R0 : RO} {G0 : List Res} {z fuel : Nat} {listed : Array Bool} {o : Oper} (i : Nat) (hr : Region.ready .any ops listed = [i]) (hi : ops[i]? = some o) (h : TL P ops (TDK P ops Q R0 G0 z i fuel (listed.setIfInBounds i true)) [o] n D env R G) : TD P ops Q R0 G0 z (fuel + 1) listed n D env R G := jO [i] hr rfl (tds hi h jD)
theorem qY {R0 : RO} {G0 : List Res} {z i fuel : Nat} {listed : Array Bool} (hS : ∀ w, Own w R G → Own w R0 G0) (h : TD P ops Q R0 G0 z fuel listed n D env R G) : TX (TDK P ops Q R0 G0 z i fuel listed) .normal n D env R G := fun a w ha hw => ⟨.inr (hS w hw), h a w ha hw⟩
theorem xZ {R0 : RO} {G0 : List Res} {z fuel : Nat} {listed : Array Bool} (h : TD P ops Q R0 G0 z fuel listed n D env R G) : TX (TDK P ops Q R0 G0 z z fuel listed) .normal n D env R G := fun a w ha hw => ⟨.inl rfl, h a w ha hw⟩
theorem xK {R0 : RO} {G0 : List Res} {z : Nat} {listed : Array Bool} (hr : Region.ready .any ops listed = []) (h : TX Q .normal n D env R G) : TD P ops Q R0 G0 z 0 listed n D env R G := fun a w ha hw => ⟨hr, h a w ha hw⟩
end



theorem Kd.reps_take {α} {k : Kd α} {R : RO} : ∀ {l : List α} {cs} (m : Nat), k.reps R l cs → k.reps R (l.take m) (cs.take (m * k.sz))
  | [], cs, m, h => by rw [show cs = [] from h]; simpa using (show k.reps R [] [] from rfl)
  | x :: xs, cs, 0, h => by simpa using (show k.reps R [] [] from rfl)
  | x :: xs, cs, m + 1, ⟨c1, c2, e, h1, h2⟩ => by
    refine ⟨c1, c2.take (m * k.sz), ?_, h1, Kd.reps_take m h2⟩
    have := k.len _ _ _ h1
    rw [e, List.take_append, List.take_of_length_le (by rw [this, Nat.add_mul]; omega), this, show (m + 1) * k.sz - k.sz = m * k.sz by rw [Nat.add_mul]; omega]
theorem Kd.reps_drop {α} {k : Kd α} {R : RO} : ∀ {l : List α} {cs} (m : Nat), k.reps R l cs → k.reps R (l.drop m) (cs.drop (m * k.sz))
  | [], cs, m, h => by rw [show cs = [] from h]; simpa using (show k.reps R [] [] from rfl)
  | x :: xs, cs, 0, h => by simpa using h
  | x :: xs, cs, m + 1, ⟨c1, c2, e, h1, h2⟩ => by
    have := k.len _ _ _ h1
    have h3 := Kd.reps_drop m h2
    rw [e, List.drop_succ_cons, List.drop_append, List.drop_of_length_le (l := c1) (by rw [this, Nat.add_mul]; omega), this, show (m + 1) * k.sz - k.sz = m * k.sz by rw [Nat.add_mul]; omega]
    simpa using h3
theorem Kd.reps_set1 {α} {k : Kd α} {R : RO} {y : α} {v : Value} (hsz : k.sz = 1) (hy : k.rep R y [v]) : ∀ {l : List α} {cs} (i : Nat), k.reps R l cs → k.reps R (l.set i y) (cs.set i v)
  | [], cs, i, h => by rw [show cs = [] from h]; simpa using (show k.reps R [] [] from rfl)
  | x :: xs, cs, 0, ⟨c1, c2, e, h1, h2⟩ => by
    have := k.len _ _ _ h1
    rw [hsz] at this
    obtain ⟨u, rfl⟩ := List.length_eq_one_iff.1 this
    rw [e]
    exact ⟨[v], c2, rfl, hy, h2⟩
  | x :: xs, cs, i + 1, ⟨c1, c2, e, h1, h2⟩ => by
    have := k.len _ _ _ h1
    rw [hsz] at this
    obtain ⟨u, rfl⟩ := List.length_eq_one_iff.1 this
    rw [e]
    exact ⟨[u], c2.set i v, rfl, h1, Kd.reps_set1 hsz hy i h2⟩

theorem Kd.reps_get1 {α} {k : Kd α} {R : RO} (hsz : k.sz = 1) {l : List α} {cs} (h : k.reps R l cs) {i : Nat} {x : α} (hx : l[i]? = some x) : ∃ v, k.rep R x [v] ∧ cs[i]? = some v := by
  obtain ⟨c, h1, h2⟩ := Kd.reps_get h i x hx
  have := k.len _ _ _ h1
  rw [hsz] at this
  obtain ⟨u, rfl⟩ := List.length_eq_one_iff.1 this
  have := h2 0 u rfl
  rw [hsz, Nat.mul_one] at this
  exact ⟨u, h1, this⟩
def Kd.Ones {α} (k : Kd α) : Prop := ∀ R x cs, k.rep R x cs → cs.all one = true
theorem kN : kInt.Ones := fun _ _ _ h => by rw [h.1]; rfl
theorem ones_bool : kBool.Ones := fun _ _ _ h => by rw [show _ = _ from h]; rfl
theorem qA8 : kStr.Ones := fun _ _ _ h => by rw [h.1]; rfl
theorem ones_pair : kPair.Ones := fun _ _ _ h => by rw [h.1]; rfl
theorem ones_concept : kConcept.Ones := fun _ x _ h => by obtain ⟨A, d, e, _⟩ := qM h; rw [e]; rfl
theorem ones_sl {α} {k : Kd α} : k.sl.Ones := fun _ _ _ ⟨_, _, h, _⟩ => by rw [h]; rfl
theorem pU {α} {k : Kd α} (ho : k.Ones) {R : RO} : ∀ {l : List α} {cs}, k.reps R l cs → cs.all one = true
  | [], cs, h => by rw [show cs = [] from h]; rfl
  | x :: xs, cs, ⟨c1, c2, e, h1, h2⟩ => by rw [e, List.all_append, ho _ _ _ h1, pU ho h2]; rfl

theorem qE4 {α} {k : Kd α} {R : RO} {A : Option Addr} {l : List α} (h : SlAt k R A l) : ∃ cs, k.reps R l cs ∧ R.at (mM A) (aoff A) cs := by
  have key : ∀ (l : List α) (b off : Nat), (∀ (i : Nat) (x : α), l[i]? = some x → ∃ cs, k.rep R x cs ∧ R.at b (off + i * k.sz) cs) → ∃ cs, k.reps R l cs ∧ R.at b off cs := by
    intro l
    induction l with
    | nil => intro b off _; exact ⟨[], rfl, fun j v hj => by simp at hj⟩
    | cons x xs ih =>
      intro b off hh
      obtain ⟨c1, h1, h2⟩ := hh 0 x rfl
      obtain ⟨c2, h3, h4⟩ := ih b (off + k.sz) fun i y hy => by
        obtain ⟨c, h5, h6⟩ := hh (i + 1) y (by simpa using hy)
        exact ⟨c, h5, by rwa [show off + (i + 1) * k.sz = off + k.sz + i * k.sz by rw [Nat.add_mul]; omega] at h6⟩
      refine ⟨c1 ++ c2, ⟨c1, c2, rfl, h1, h3⟩, fun j v hj => ?_⟩
      have hl := k.len _ _ _ h1
      by_cases hjl : j < c1.length
      · rw [List.getElem?_append_left hjl] at hj
        simpa using h2 j v hj
      · rw [List.getElem?_append_right (by omega), hl] at hj
        have := h4 (j - k.sz) v hj
        rwa [show off + k.sz + (j - k.sz) = off + j by omega] at this
  exact key l _ _ h.get

section
variable {P : Program} {n : Nat} {D : List Deferred} {env env' : List (Nat × Value)} {R : RO} {G G' : List Res} {Q : Exit → Act → World → Prop} {ops : Array Oper} {rest : List Oper} {o : Oper}

theorem fE {w : World} {A : Option Addr} {cap len T sz i : Nat} {cs : List Value} (hw : Own w R G) (hG : G[i]? = some (.vec (.slice A len cap) len T sz cs)) {j : Nat} {v : Value} (hj : cs[j]? = some v) :
    ∃ g, A = some ⟨g, 0, none⟩ ∧ w.cell? ⟨g, j, none⟩ = some v := by
  have hv : w.ownsRow 0 T sz (.slice A len cap) len cs := hw.holds _ (List.mem_of_getElem? hG)
  rcases hv.2 with ⟨h2, h3⟩ | ⟨g, cap', cur, hv', hg, hh, r1, r2, r3, r4⟩
  · have := hv.1
    rw [h3, Nat.zero_mul] at this
    rw [List.eq_nil_of_length_eq_zero this] at hj
    simp at hj
  · obtain ⟨rfl, -, rfl⟩ : A = some ⟨g, 0, none⟩ ∧ len = len ∧ cap = cap' := by simpa using hv'
    refine ⟨g, rfl, ?_⟩
    rw [fQ hh]
    rw [← r4, List.getElem?_take] at hj
    split at hj
    · simpa using hj
    · cases hj
theorem fV {w : World} {A : Option Addr} {cap len T sz i : Nat} {cs : List Value} (hw : Own w R G) (hG : G[i]? = some (.vec (.slice A len cap) len T sz cs)) : cs.length = len * sz ∧ len ≤ cap ∧ (len ≠ 0 → ∃ g, A = some ⟨g, 0, none⟩) := by
  have hv : w.ownsRow 0 T sz (.slice A len cap) len cs := hw.holds _ (List.mem_of_getElem? hG)
  rcases hv.2 with ⟨h2, h3⟩ | ⟨g, cap', cur, hv', hg, hh, r1, r2, r3, r4⟩
  · exact ⟨hv.1, by omega, fun h => absurd h3 h⟩
  · obtain ⟨rfl, -, rfl⟩ : A = some ⟨g, 0, none⟩ ∧ len = len ∧ cap = cap' := by simpa using hv'
    exact ⟨hv.1, r1, fun _ => ⟨g, rfl⟩⟩

theorem v_idxV {t x y d e sz ty pos af} {A : Option Addr} {len cap T : Nat} {cs : List Value} {i : Nat} {kd : IntKind} (g : Nat) (hG : G[g]? = some (.vec (.slice A len cap) len T sz cs)) (hx : ev env x = some (.slice A len cap)) (hy : ev env y = some (.int kd (i : Int))) (ht : wE P t = some (e, sz)) (h1 : i < len) :
    VAL P n D env R G ⟨some d, .indexAddr t x y, ty, pos, af, none⟩ (.pointer (some ⟨mM A, i * sz, none⟩)) := fun a w ha hw => by
  show ((do let z ← Instr.indexAt t (a.eval x) (a.eval y); pure (Next.value z) : Sem Next)).run P w = _
  obtain ⟨b, rfl⟩ := (fV hw hG).2.2 (by omega)
  rw [ha.eval hx, ha.eval hy, qT (bW ht (by omega) (by omega))]
  simp [mM, Sem.run, pure]
theorem v_idxVI {t x y d e sz ty pos af} {A : Option Addr} {len cap T : Nat} {cs : List Value} {i : Int} {kd : IntKind} (g : Nat) (hG : G[g]? = some (.vec (.slice A len cap) len T sz cs)) (hx : ev env x = some (.slice A len cap)) (hy : ev env y = some (.int kd i)) (ht : wE P t = some (e, sz)) (h0 : 0 ≤ i) (h1 : i.toNat < len) :
    VAL P n D env R G ⟨some d, .indexAddr t x y, ty, pos, af, none⟩ (.pointer (some ⟨mM A, i.toNat * sz, none⟩)) := by
  obtain ⟨j, rfl⟩ := Int.eq_ofNat_of_zero_le h0
  exact v_idxV g hG hx hy ht h1

theorem hC {t x d o s ty pos af} {A : Option Addr} {len cap T sz : Nat} {cs : List Value} {v : Value} (g : Nat) (hG : G[g]? = some (.vec (.slice A len cap) len T sz cs)) (hx : ev env x = some (.pointer (some ⟨mM A, o, none⟩))) (ht : kR P t = some (false, s)) (hv : cs[o]? = some v) : VAL P n D env R G ⟨some d, .load t x, ty, pos, af, none⟩ v :=
  v_ldR hx ht fun w hw => by
    obtain ⟨b, rfl, hc⟩ := fE hw hG hv
    exact hc
theorem v_ldV_agg {t x d o ty pos af} {A : Option Addr} {len cap T sz : Nat} {cs : List Value} (g : Nat) (l' : List Value) (hG : G[g]? = some (.vec (.slice A len cap) len T sz cs)) (hx : ev env x = some (.pointer (some ⟨mM A, o, none⟩))) (ht : kR P t = some (true, l'.length)) (hv : ∀ j v, l'[j]? = some v → cs[o + j]? = some v) : VAL P n D env R G ⟨some d, .load t x, ty, pos, af, none⟩ (.agg l'.toArray) :=
  fS l' hx ht fun w hw j v hj => by
    obtain ⟨b, rfl, hc⟩ := fE hw hG (hv j v hj)
    exact hc

theorem tl_stV {t x y o s ty pos af} {A : Option Addr} {len cap T sz : Nat} {cs : List Value} {v : Value} (g : Nat) (hG : G[g]? = some (.vec (.slice A len cap) len T sz cs)) (hx : ev env x = some (.pointer (some ⟨mM A, o, none⟩))) (hy : ev env y = some v) (ht : kR P t = some (s, 1)) (h1 : one v = true) (ho : o < cs.length)
    (k : TL P ops Q rest n D env R (G.set g (.vec (.slice A len cap) len T sz (cs.set o v)))) : TL P ops Q (⟨none, .store t x y, ty, pos, af, none⟩ :: rest) n D env R G := by
  intro a w ha hw
  refine wpList_plain rfl fun K hK => ?_
  have hv : w.ownsRow 0 T sz (.slice A len cap) len cs := hw.holds _ (List.mem_of_getElem? hG)
  rcases hv.2 with ⟨h2, h3⟩ | ⟨b, cap', cur, hv', hg, hh, r1, r2, r3, r4⟩
  · have := hv.1
    rw [h3, Nat.zero_mul] at this
    omega
  · obtain ⟨rfl, -, rfl⟩ : A = some ⟨b, 0, none⟩ ∧ len = len ∧ cap = cap' := by simpa using hv'
    have hlen := hv.1
    have hcl : o < cur.toList.length := by
      have : (cur.toList.take (len * sz)).length = cs.length := by rw [r4]
      rw [List.length_take] at this
      omega
    have hcells : v.cells.toList = [v] := by cases v <;> first | rfl | (simp [one] at h1)
    obtain ⟨w', hr, a1, a2, a3, a4, a5, a6⟩ := eG (P := P) (b := b) (o := o) (l := cur.toList) (T := T) ht hcells rfl (by simpa using hh) (by simp at hcl ⊢; omega) (by simp [h1])
    have e : (execOp a.eval ⟨none, .store t x y, ty, pos, af, none⟩).run P w = .ok .skip w' := by
      show ((do Instr.storeAt t (a.eval x) (a.eval y); pure Next.skip : Sem Next)).run P w = _
      rw [ha.eval hx, ha.eval hy]
      have : (Instr.storeAt t (.pointer (some ⟨mM (some ⟨b, 0, none⟩), o, none⟩)) v).run P w = .ok () w' := by
        unfold Instr.storeAt Instr.sureAddr
        rw [qT (x := (⟨b, o, none⟩ : Addr)) (w' := w) rfl]
        exact hr
      rw [qT this]; rfl
    unfold Oper.wp
    rw [e]
    refine hK _ _ (k _ _ ha (hw.stepAt hG a1 a2 a3 (fun x _ hx => a6 x fun e => hx (by rw [e]; rfl)) ?_ fun x hx => .inl hx))
    refine ⟨by simpa using hlen, .inr ⟨b, cap, (hU cur.toList o [v]).toArray, rfl, hg, a5, r1, r2, ?_, ?_⟩⟩
    · simp [hU, r3]
    · simp only [hU, List.take_set, r4]

theorem Own.blkvec {w : World} {b T sz len : Nat} {cells : List Value} (h : Own w R (.blk b cells T :: G)) (hl : cells.length = len * sz) (hm : len ≤ maxLen) : Own w R (.vec (.slice (some ⟨b, 0, none⟩) len len) len T sz cells :: G) :=
  ⟨h.os, h.tape, h.output, h.ro, fun r hr => by
    rcases List.mem_cons.1 hr with rfl | hr
    · exact ⟨hl, .inr ⟨b, len, cells.toArray, rfl, Nat.zero_le _, h.holds _ (.head _), Nat.le_refl _, hm, by simp [hl], by simp [← hl]⟩⟩
    · exact h.holds r (.tail _ hr), fun r hr => by
    rcases List.mem_cons.1 hr with rfl | hr
    · intro x hx
      have : b = x := by simpa [Res.vec, Value.ownBlock] using hx
      exact h.away (.blk b cells T) (.head _) x this.symm
    · exact h.away r (.tail _ hr), List.pairwise_cons.2 ⟨fun s hs x hx => by
      have : b = x := by simpa [Res.vec, Value.ownBlock] using hx
      exact (List.pairwise_cons.1 h.apart).1 s hs x this.symm, h.tail.apart⟩⟩
theorem kJ {b T : Nat} {cells : List Value} (i len sz : Nat) (hG : G[i]? = some (.blk b cells T)) (hl : Nat.beq cells.length (len * sz) = true) (hm : Nat.ble len 1000000 = true)
    (k : TL P ops Q rest n D env R (.vec (.slice (some ⟨b, 0, none⟩) len len) len T sz cells :: G.eraseIdx i)) : TL P ops Q rest n D env R G := fun a w ha hw => by
  have h1 := hw.perm (wU i G)
  have e : pick i G = .blk b cells T :: G.eraseIdx i := by unfold pick; rw [hG]
  rw [e] at h1
  exact k a w ha (h1.blkvec (Nat.eq_of_beq_eq_true hl) (by have := Nat.le_of_ble_eq_true hm; simp only [maxLen]; omega))

structure Src (R : RO) (G : List Res) (A : Option Addr) (m sz : Nat) (cs : List Value) : Prop where
  len : cs.length = m * sz
  ones : cs.all one = true
  cell : ∀ w, Own w R G → m ≠ 0 → ∃ b oo, A = some ⟨b, oo, none⟩ ∧ ∀ j u, cs[j]? = some u → w.cell? ⟨b, oo + j, none⟩ = some u

theorem kX {α} {k : Kd α} {A : Option Addr} {l : List α} (ho : k.Ones) (h : SlAt k R A l) : ∃ cs, k.reps R l cs ∧ ∀ G, Src R G A l.length k.sz cs := by
  obtain ⟨cs, h1, h2⟩ := qE4 h
  refine ⟨cs, h1, fun G => ⟨Kd.reps_length h1, pU ho h1, fun w hw hne => ?_⟩⟩
  obtain ⟨b, o, rfl⟩ := h.addr (by intro e; rw [e] at hne; exact hne rfl)
  exact ⟨b, o, rfl, fun j u hj => h2.cell hw hj⟩
theorem src_vec {α} {k : Kd α} {A : Option Addr} {l : List α} {cap T i : Nat} {cs : List Value} (ho : k.Ones) (hr : k.reps R l cs) (hG : G[i]? = some (.vec (.slice A l.length cap) l.length T k.sz cs)) : Src R G A l.length k.sz cs := by
  refine ⟨Kd.reps_length hr, pU ho hr, fun w hw hne => ?_⟩
  obtain ⟨g, rfl⟩ := (fV hw hG).2.2 hne
  refine ⟨g, 0, rfl, fun j u hj => ?_⟩
  obtain ⟨g', e, hc⟩ := fE hw hG hj
  cases e
  simpa using hc
theorem src_blk {b T m sz i : Nat} {cs : List Value} (hG : G[i]? = some (.blk b cs T)) (hl : cs.length = m * sz) (ho : cs.all one = true) : Src R G (some ⟨b, 0, none⟩) m sz cs :=
  ⟨hl, ho, fun w hw _ => ⟨b, 0, rfl, fun j u hj => by have := bA hw hG hj; simpa using this⟩⟩
def rJ (A : Option Addr) (cap lo sz : Nat) : Option Addr := if cap = lo then A else A.map (·.add (lo * sz))
theorem all_sub {p : Value → Bool} {l m : List Value} (h : l.all p = true) (hs : ∀ x ∈ m, x ∈ l) : m.all p = true := by
  rw [List.all_eq_true] at h ⊢
  exact fun x hx => h x (hs x hx)
theorem mO {A : Option Addr} {len cap T sz i lo hi : Nat} {cs : List Value} (ho : cs.all one = true) (hG : G[i]? = some (.vec (.slice A len cap) len T sz cs)) (h1 : lo ≤ hi) (h2 : hi ≤ len) (hl : cs.length = len * sz) : Src R G (rJ A cap lo sz) (hi - lo) sz ((cs.drop (lo * sz)).take ((hi - lo) * sz)) := by
  refine ⟨?_, all_sub ho fun x hx => List.mem_of_mem_drop (List.mem_of_mem_take hx), fun w hw hne => ?_⟩
  · rw [List.length_take, List.length_drop, hl]
    have : hi * sz ≤ len * sz := Nat.mul_le_mul_right _ h2
    have e : (hi - lo) * sz = hi * sz - lo * sz := Nat.sub_mul _ _ _
    omega
  · obtain ⟨-, hcap, hA⟩ := fV hw hG
    obtain ⟨g, rfl⟩ := hA (by omega)
    refine ⟨g, lo * sz, ?_, fun j u hj => ?_⟩
    · unfold rJ
      rw [if_neg (by omega)]
      simp [cO]
    · rw [List.getElem?_take] at hj
      split at hj
      · rw [List.getElem?_drop] at hj
        obtain ⟨g', e, hc⟩ := fE hw hG hj
        cases e
        exact hc
      · cases hj

theorem gQ {w : World} {y : Nat} {i : Int} {kd c} (h0 : 0 ≤ i) (h1 : i ≤ (y : Int)) : (Instr.sliceBound (.int kd i) y c).run P w = .ok i.toNat w := by
  unfold Instr.sliceBound
  simp [asIntOf, h0, h1]

theorem fF {t e x sz d ty pos af} {low high : Option Operand} {A : Option Addr} {len cap T : Nat} {cs : List Value} (lo hi : Nat) (g : Nat) (hG : G[g]? = some (.vec (.slice A len cap) len T sz cs)) (hx : ev env x = some (.slice A len cap)) (ht : wE P t = some (e, sz))
    (hlo : match low with | none => lo = 0 | some y => ev env y = some (.int .i64 (lo : Int))) (hhi : match high with | none => hi = len | some y => ev env y = some (.int .i64 (hi : Int))) (h1 : lo ≤ hi) (h2 : hi ≤ len) :
    VAL P n D env R G ⟨some d, .slice t x low high none, ty, pos, af, none⟩ (.slice (rJ A cap lo sz) (hi - lo) (cap - lo)) := fun a w ha hw => by
  have hcap := (fV hw hG).2.1
  unfold wE at ht
  split at ht
  · rename_i e' hu
    cases hi' : P.info? e' with
    | none => rw [hi'] at ht; cases ht
    | some inf =>
      rw [hi', Option.map_some, Option.some.injEq, Prod.mk.injEq] at ht
      obtain ⟨rfl, rfl⟩ := ht
      have hsz : (sizeOf e').run P w = .ok inf.size w := by unfold sizeOf; rw [qT (kT hi')]; rfl
      have hb : (Instr.sliceBounds true len cap (low.map a.eval) (high.map a.eval) none).run P w = .ok (lo, hi, cap) w := by
        cases high with
        | none =>
          simp only [] at hhi
          subst hhi
          cases low with
          | none => simp only [] at hlo; subst hlo; rfl
          | some y =>
            simp only [] at hlo
            have hr := gQ (P := P) (w := w) (y := hi) (i := (lo : Int)) (kd := .i64) (c := .sliceB) (by omega) (by omega)
            simp only [Int.toNat_natCast] at hr
            simp [Instr.sliceBounds, ha.eval hlo, hr]
        | some y2 =>
          simp only [] at hhi
          have hr2 := gQ (P := P) (w := w) (y := cap) (i := (hi : Int)) (kd := .i64) (c := .sliceAcap) (by omega) (by omega)
          simp only [Int.toNat_natCast] at hr2
          cases low with
          | none =>
            simp only [] at hlo
            subst hlo
            simp [Instr.sliceBounds, ha.eval hhi, hr2]
          | some y =>
            simp only [] at hlo
            have hr := gQ (P := P) (w := w) (y := hi) (i := (lo : Int)) (kd := .i64) (c := .sliceB) (by omega) (by omega)
            simp only [Int.toNat_natCast] at hr
            simp [Instr.sliceBounds, ha.eval hlo, ha.eval hhi, hr, hr2]
      show ((do let z ← Instr.sliceAt t (a.eval x) (low.map a.eval) (high.map a.eval) ((none : Option Operand).map a.eval); pure (Next.value z) : Sem Next)).run P w = _
      rw [ha.eval hx]
      have e2 : (Instr.sliceAt t (.slice A len cap) (low.map a.eval) (high.map a.eval) ((none : Option Operand).map a.eval)).run P w = .ok (.slice (rJ A cap lo inf.size) (hi - lo) (cap - lo)) w := by
        unfold Instr.sliceAt
        rw [qT (run_underlying hu w)]
        simp only [Option.map_none]
        unfold Instr.slice
        rw [qT (run_underlying hu w)]
        simp only []
        rw [qT hb]
        simp only []
        rw [qT hsz]
        rfl
      rw [qT e2]; rfl
  · cases ht

theorem tl_appS {α : Type} {k : Kd α} {l m : List α} {t eT by_ : Nat} {zs : List Value} {d : Nat} {ty pos af} {s x : Operand} {A A2 : Option Addr} {cap cap2 : Nat} {cs ds : List Value} (i : Nat) (hv : k.reps R l cs) (he : k.reps R m ds) (hi : yO P t = some (eT, k.sz, by_, zs)) (hs : ev env s = some (.slice A l.length cap)) (hG : G[i]? = some (.vec (.slice A l.length cap) l.length eT k.sz cs))
    (hx : ev env x = some (.slice A2 m.length cap2)) (hsrc : Src R G A2 m.length k.sz ds) (hlen : l.length + m.length ≤ 1000000000) (hby : Nat.ble by_ 1000 = true) (hn : Nat.blt d n = true)
    (kont : ∀ A' c' cs', k.reps R (l ++ m) cs' → TL P ops Q rest n D ((d, .slice A' (l ++ m).length c') :: env) R (G.set i (.vec (.slice A' (l ++ m).length c') (l ++ m).length eT k.sz cs'))) : TL P ops Q (⟨some d, .call { callee := .builtin .append, args := #[s, x], argTypes := #[t, t] }, ty, pos, af, none⟩ :: rest) n D env R G := by
  intro a w ha hw
  by_cases hm : m.length = 0
  · have hm0 : m = [] := List.eq_nil_of_length_eq_zero hm
    subst hm0
    obtain ⟨hu, inf, z, hinf, hz, hsz, hbytes, hzs, h0⟩ := pT hi
    have hcap := (fV hw hG).2.1
    have hK2 := kont A cap (cs ++ ds) (Kd.reps_append hv he)
    have hds : ds = [] := he
    subst hds
    simp only [List.append_nil] at hK2
    have hset : G.set i (.vec (.slice A l.length cap) l.length eT k.sz cs) = G := by
      have := List.getElem?_eq_some_iff.1 hG
      obtain ⟨hlt, he⟩ := this
      rw [← he, List.set_getElem_self]
    rw [hset] at hK2
    refine wpList_plain rfl fun K hK => ?_
    have hso : (sizeOf eT).run P w = .ok k.sz w := by unfold sizeOf; rw [qT (kT hinf), ← hsz]; rfl
    have hrun0 : (Builtin.append_ #[t, t] ty #[.slice A l.length cap, .slice A2 0 cap2]).run P w = .ok (.slice A l.length cap) w := by
      cases A <;> cases A2 <;> simp [Builtin.append_, run_underlying hu, hso, Builtin.lenOf, Builtin.firstCells, hcap, loadCells, loadCellsFrom, storeCells, Result.andThen]
    have hrun : (execOp a.eval ⟨some d, .call { callee := .builtin .append, args := #[s, x], argTypes := #[t, t] }, ty, pos, af, none⟩).run P w = .ok (.value (.slice A l.length cap)) w := by
      simp [execOp, resolve, invoke, builtin, ha.eval hs, ha.eval hx]
      rw [hrun0]; rfl
    unfold Oper.wp
    rw [hrun]
    exact hK _ _ (hK2 _ _ (ha.put (Nat.le_of_ble_eq_true hn)) hw)
  · obtain ⟨b, oo, rfl, -⟩ := hsrc.cell w hw hm
    have hb2 := Nat.le_of_ble_eq_true hby
    have hmul : (l.length + m.length) * by_ ≤ (l.length + m.length) * 1000 := Nat.mul_le_mul_left _ hb2
    refine nU (k := fun A' c' => ?_) i hi hs hG hx (news := ds) hsrc.len (fun w hw j u hj => ?_) (qI7 hsrc.ones) (by omega) (by omega) hn a w ha hw
    · obtain ⟨b', oo', e, hc⟩ := hsrc.cell w hw hm
      cases e
      exact hc j u hj
    · have := kont A' c' (cs ++ ds) (Kd.reps_append hv he)
      simpa using this

theorem kH {α : Type} {k : Kd α} {l m : List α} {t eT by_ : Nat} {zs : List Value} {d mlen : Nat} {ty pos af} {s x : Operand} {A A2 : Option Addr} {cap cap2 : Nat} {cs ds : List Value} (i : Nat) (hv : k.reps R l cs) (he : k.reps R m ds) (hi : yO P t = some (eT, k.sz, by_, zs)) (hs : ev env s = some (.slice A l.length cap)) (hG : G[i]? = some (.vec (.slice A l.length cap) l.length eT k.sz cs))
    (hx : ev env x = some (.slice A2 mlen cap2)) (hml : mlen = m.length) (hsrc : Src R G A2 mlen k.sz ds) (hlen : l.length + m.length ≤ 1000000000) (hby : Nat.ble by_ 1000 = true) (hn : Nat.blt d n = true)
    (kont : ∀ A' c' cs', k.reps R (l ++ m) cs' → TL P ops Q rest n D ((d, .slice A' (l ++ m).length c') :: env) R (G.set i (.vec (.slice A' (l ++ m).length c') (l ++ m).length eT k.sz cs'))) : TL P ops Q (⟨some d, .call { callee := .builtin .append, args := #[s, x], argTypes := #[t, t] }, ty, pos, af, none⟩ :: rest) n D env R G := by
  subst hml
  exact tl_appS i hv he hi hs hG hx hsrc hlen hby hn kont
theorem vR {t x y d e ty pos af} {A : Option Addr} {len cap T : Nat} {cs : List Value} {i : Nat} {kd : IntKind} (g : Nat) (hG : G[g]? = some (.vec (.slice A len cap) len T 1 cs)) (hx : ev env x = some (.slice A len cap)) (hy : ev env y = some (.int kd (i : Int))) (ht : wE P t = some (e, 1)) (h1 : i < len) :
    VAL P n D env R G ⟨some d, .indexAddr t x y, ty, pos, af, none⟩ (.pointer (some ⟨mM A, i, none⟩)) := by
  have := v_idxV (P := P) (n := n) (D := D) (R := R) (d := d) (ty := ty) (pos := pos) (af := af) g hG hx hy ht h1
  rwa [Nat.mul_one] at this
theorem v_idxV1I {t x y d e ty pos af} {A : Option Addr} {len cap T : Nat} {cs : List Value} {i : Int} {kd : IntKind} (g : Nat) (hG : G[g]? = some (.vec (.slice A len cap) len T 1 cs)) (hx : ev env x = some (.slice A len cap)) (hy : ev env y = some (.int kd i)) (ht : wE P t = some (e, 1)) (h0 : 0 ≤ i) (h1 : i.toNat < len) :
    VAL P n D env R G ⟨some d, .indexAddr t x y, ty, pos, af, none⟩ (.pointer (some ⟨mM A, i.toNat, none⟩)) := by
  obtain ⟨j, rfl⟩ := Int.eq_ofNat_of_zero_le h0
  exact vR g hG hx hy ht h1
theorem pM {α : Type} {k : Kd α} {l : List α} {A : Option Addr} {cap T : Nat} {cs : List Value} (i : Nat) (hG : G[i]? = some (.vec (.slice A l.length cap) l.length T k.sz cs)) (hr : k.reps R l cs) (hsz : Nat.blt 0 k.sz = true) (hb : l.length ≤ big)
    (kont : ∀ R', R.le R' → SlAt k R' A l → TL P ops Q rest n D env R' (G.eraseIdx i)) : TL P ops Q rest n D env R G := fun a w ha hw => by
  obtain ⟨R', h1, h2, h3⟩ := dS i hw hG hr hsz hb
  exact kont R' h1 h2 a w ha h3
theorem kZ {α : Type} {k : Kd α} {e : Exit} {l : List α} {A : Option Addr} {cap T : Nat} {cs : List Value} (i : Nat) (hG : G[i]? = some (.vec (.slice A l.length cap) l.length T k.sz cs)) (hr : k.reps R l cs) (hsz : Nat.blt 0 k.sz = true) (hb : l.length ≤ big)
    (kont : ∀ R', R.le R' → SlAt k R' A l → TX Q e n D env R' (G.eraseIdx i)) : TX Q e n D env R G := fun a w ha hw => by
  obtain ⟨R', h1, h2, h3⟩ := dS i hw hG hr hsz hb
  exact kont R' h1 h2 a w ha h3
theorem lP {α : Type} {k : Kd α} {c : Code} {l : List α} {A : Option Addr} {cap T : Nat} {cs : List Value} (i : Nat) (hG : G[i]? = some (.vec (.slice A l.length cap) l.length T k.sz cs)) (hr : k.reps R l cs) (hsz : Nat.blt 0 k.sz = true) (hb : l.length ≤ big)
    (kont : ∀ R', R.le R' → SlAt k R' A l → TC P c Q n D env R' (G.eraseIdx i)) : TC P c Q n D env R G := fun a w ha hw => by
  obtain ⟨R', h1, h2, h3⟩ := dS i hw hG hr hsz hb
  exact kont R' h1 h2 a w ha h3
theorem dT {α : Type} {k : Kd α} {e : Exit} {b T : Nat} {l : List α} {cells : List Value} (i : Nat) (hG : G[i]? = some (.blk b cells T)) (hr : k.reps R l cells) (hb : l.length ≤ big)
    (kont : ∀ R', R.le R' → SlAt k R' (some ⟨b, 0, none⟩) l → TX Q e n D env R' (G.eraseIdx i)) : TX Q e n D env R G := fun a w ha hw => by
  have h1 := hw.perm (wU i G)
  have e : pick i G = .blk b cells T :: G.eraseIdx i := by unfold pick; rw [hG]
  rw [e] at h1
  obtain ⟨R', h2, h3, h4⟩ := fT h1 hr hb
  exact kont R' h2 h3 a w ha h4
theorem kO {fn : Func} {Rp : Ending → World → Prop} {t T b Tb : Nat} {cells : List Value} {e : Exit} (i : Nat) (he : e = .ret ∨ e = .normal) (hr : fn.results = #[.cell t T]) (hv : lk env t = some (.pointer (some ⟨b, 0, none⟩))) (ht : kR P T = some (true, cells.length)) (hG : G[i]? = some (.blk b cells Tb))
    (h : ∀ w, Own w R G → Rp (.returned (.agg cells.toArray)) w) : TX (bodyPost P fn Rp) e n [] env R G := by
  intro a w ha hw
  have hl : (loadVar T ⟨b, 0, none⟩).run P w = .ok (.agg cells.toArray) w := pS ht fun j v hj => by
    have := bA hw hG hj
    simpa using this
  have : (results fn a.tmps).run P w = .ok (.agg cells.toArray) w := by
    have h1 : a.tmps[t]?.getD undef = .pointer (some ⟨b, 0, none⟩) := by rw [ha.get _ _ hv]; rfl
    simp [results, hr, h1, asAddr, hl]
  rcases he with rfl | rfl <;> exact ⟨ha.defers, _, this, h w hw⟩
theorem mP {fn : Func} {Rp : Ending → World → Prop} {t u T b Tb : Nat} {v : Value} {cells : List Value} {e : Exit} (i : Nat) (he : e = .ret ∨ e = .normal) (hr : fn.results = #[.cell t T, .tmp u]) (hv : lk env t = some (.pointer (some ⟨b, 0, none⟩))) (hu : lk env u = some v) (ht : kR P T = some (true, cells.length)) (hG : G[i]? = some (.blk b cells Tb))
    (h : ∀ w, Own w R G → Rp (.returned (.tuple #[.agg cells.toArray, v])) w) : TX (bodyPost P fn Rp) e n [] env R G := by
  intro a w ha hw
  have hl : (loadVar T ⟨b, 0, none⟩).run P w = .ok (.agg cells.toArray) w := pS ht fun j v hj => by
    have := bA hw hG hj
    simpa using this
  have : (results fn a.tmps).run P w = .ok (.tuple #[.agg cells.toArray, v]) w := by
    have h1 : a.tmps[t]?.getD undef = .pointer (some ⟨b, 0, none⟩) := by rw [ha.get _ _ hv]; rfl
    have h2 : a.tmps[u]?.getD undef = v := by rw [ha.get _ _ hu]; rfl
    simp [results, hr, h1, h2, asAddr, hl]
  rcases he with rfl | rfl <;> exact ⟨ha.defers, _, this, h w hw⟩
end


theorem yW {α β : Type} (f : α → β → Value) {a a' : α} {b b' : β} (h : a = a') (k : b = b') : f a b = f a' b' := by rw [h, k]
theorem cong3 {α β γ : Type} (f : α → β → γ → Value) {a a' : α} {b b' : β} {c c' : γ} (h : a = a') (k : b = b') (l : c = c') : f a b c = f a' b' c' := by rw [h, k, l]

theorem nW (a b : ByteArray) : (a == b) = decide (a = b) := by rw [beq_toListBytes, dQ]
structure KeyK (κ : Type) where
  enc : κ → Value
  desc : TypeDesc → Bool
  same : ∀ d a b, desc d = true → ∃ t : Bool, Instr.sameNow d (enc a) (enc b) = some t ∧ (t = true ↔ a = b)
  bits : ∀ a, Instr.sameBits 10000 (enc a) (enc a) = true
  flat : ∀ d a w (P : Program) (e : Bool) t, P.underlying t = some d → desc d = true → (Instr.checkKey e 10000 t (enc a)).run P w = .ok () w

def jS : KeyK Int := ⟨fun a => .int .i64 a, fun d => match d with | .int _ => true | _ => false,
  fun d a b h => by cases d <;> first | (simp at h; done) | exact ⟨a == b, by simp [Instr.sameNow], by simp⟩,
  fun a => (by show ((IntKind.i64 == IntKind.i64) && (a == a)) = true; simp),
  fun d a w P e t hu hd => by
    unfold Instr.checkKey
    rw [qT (run_underlying hu w)]
    cases d <;> first | (simp at hd; done) | rfl⟩
def keyS : KeyK ByteArray := ⟨fun a => .string a, fun d => match d with | .string => true | _ => false,
  fun d a b h => by cases d <;> first | (simp at h; done) | exact ⟨decide (a = b), by simp [Instr.sameNow, nW], by simp⟩,
  fun a => (by show (a == a) = true; rw [nW]; simp),
  fun d a w P e t hu hd => by
    unfold Instr.checkKey
    rw [qT (run_underlying hu w)]
    cases d <;> first | (simp at hd; done) | rfl⟩

def aK {κ : Type} (K : KeyK κ) (P : Program) (t : TypeId) : Bool :=
  match P.underlying t with
  | some (.map k e) => (match P.underlying k with | some d => K.desc d | none => false) && (match (P.info? e).bind (·.zero) with | some (.bool b) => !b | _ => false)
  | _ => false
theorem aL {κ : Type} {K : KeyK κ} {P : Program} {t : TypeId} (h : aK K P t = true) : ∃ k e d, P.underlying t = some (.map k e) ∧ P.underlying k = some d ∧ K.desc d = true ∧ ∀ w, (zeroValue e).run P w = .ok (.bool false) w := by
  unfold aK at h
  split at h
  · rename_i k e hu
    simp only [Bool.and_eq_true] at h
    obtain ⟨h1, h2⟩ := h
    split at h1
    · rename_i d hd
      split at h2
      · rename_i b hz
        simp only [Bool.not_eq_true'] at h2
        subst h2
        obtain ⟨inf, hi, hz⟩ := Option.bind_eq_some_iff.1 hz
        exact ⟨k, e, d, hu, hd, h1, fun w => by unfold zeroValue; rw [qT (kT hi), hz]; rfl⟩
      · cases h2
    · cases h1
  · cases h

def mkE {κ : Type} (enc : κ → Value) : Nat → List κ → List MapEntry
  | _, [] => []
  | i, k :: ks => { key := enc k, val := .bool true, born := i } :: mkE enc (i + 1) ks
theorem qE5 {κ : Type} (enc : κ → Value) : ∀ (i : Nat) (ks : List κ), (mkE enc i ks).length = ks.length
  | _, [] => rfl
  | i, k :: ks => by simp [mkE, qE5 enc (i + 1) ks]
theorem dU {κ : Type} (enc : κ → Value) : ∀ (i : Nat) (ks : List κ) (j : Nat), (mkE enc i ks)[j]? = (ks[j]?).map fun k => ⟨enc k, .bool true, i + j⟩
  | _, [], j => by simp [mkE]
  | i, k :: ks, 0 => by simp [mkE]
  | i, k :: ks, j + 1 => by
    simp only [mkE, List.getElem?_cons_succ, dU enc (i + 1) ks j]
    congr 1; funext k; congr 1; omega
theorem lQ {κ : Type} (enc : κ → Value) : ∀ (i : Nat) (ks : List κ) (k : κ), mkE enc i (ks ++ [k]) = mkE enc i ks ++ [{ key := enc k, val := .bool true, born := i + ks.length }]
  | _, [], k => rfl
  | i, x :: ks, k => by
    simp only [List.cons_append, mkE, lQ enc (i + 1) ks k, List.length_cons]
    congr 4; omega

def Res.set {κ : Type} (K : KeyK κ) (b : Nat) (ks : List κ) : Res := .raw b (.map (mkE K.enc 0 ks).toArray ks.length)

def zE {κ : Type} [DecidableEq κ] (ks : List κ) (k : κ) : List κ := if k ∈ ks then ks else ks ++ [k]
theorem insK_mem {κ : Type} [DecidableEq κ] {ks : List κ} {k x : κ} : x ∈ zE ks k ↔ x ∈ ks ∨ x = k := by
  unfold zE; split
  · rename_i h; constructor
    · exact .inl
    · rintro (h' | rfl)
      · exact h'
      · exact h
  · simp
theorem insK_nodup {κ : Type} [DecidableEq κ] {ks : List κ} {k : κ} (h : ks.Nodup) : (zE ks k).Nodup := by
  unfold zE; split
  · exact h
  · rename_i hk
    rw [List.nodup_append]
    refine ⟨h, by simp, fun a ha b hb => ?_⟩
    simp at hb
    subst hb
    exact fun e => hk (e ▸ ha)
theorem insK_length {κ : Type} [DecidableEq κ] {ks : List κ} {k : κ} : (zE ks k).length ≤ ks.length + 1 := by
  unfold zE; split <;> simp

theorem fW {κ : Type} [DecidableEq κ] (K : KeyK κ) {d : TypeDesc} (hd : K.desc d = true) (k : κ) : ∀ (ks : List κ) (i0 i : Nat), Instr.findNow d (K.enc k) (mkE K.enc i0 ks) i = some ((ks.findIdx? (fun x => decide (k = x))).map fun j => (i + j, .bool true))
  | [], _, _ => by simp [mkE, Instr.findNow]
  | x :: ks, i0, i => by
    obtain ⟨t, h1, h2⟩ := K.same d k x hd
    unfold mkE Instr.findNow
    rw [h1]
    cases t with
    | true =>
      have : k = x := h2.1 rfl
      simp [List.findIdx?_cons, this]
    | false =>
      have : ¬ k = x := fun e => by have := h2.2 e; cases this
      simp only [fW K hd k ks (i0 + 1) (i + 1), List.findIdx?_cons, decide_eq_true_eq, this, if_false, Option.map_map, Bool.false_eq_true, decide_false]
      congr 2
      funext j
      simp; omega
theorem fX {κ : Type} [DecidableEq κ] {ks : List κ} {k : κ} : (ks.findIdx? (fun x => decide (k = x))).isSome = decide (k ∈ ks) := by
  rw [List.findIdx?_isSome]
  rw [Bool.eq_iff_iff]
  simp

section
variable {P : Program} {n : Nat} {D : List Deferred} {env env' : List (Nat × Value)} {R : RO} {G G' : List Res} {Q : Exit → Act → World → Prop} {ops : Array Oper} {rest : List Oper} {o : Oper}

theorem wZ {x d ty pos af t} {p : Prop} [Decidable p] (hx : ev env x = some (.bool (decide p))) : VAL P n D env R G ⟨some d, .unOp .not t x, ty, pos, af, none⟩ (.bool (decide (¬ p))) := by
  have := wJ (P := P) (n := n) (D := D) (R := R) (G := G) (d := d) (ty := ty) (pos := pos) (af := af) (t := t) hx
  rwa [← decide_not] at this
theorem Own.newRaw {w : World} (h : Own w R G) (o : Obj) : Own { w with heap := w.heap.push o } R (.raw w.heap.size o :: G) := by
  refine h.emp.step rfl rfl rfl (fun b hb _ => by simp [Array.getElem?_push, Nat.ne_of_lt hb]) ?_ (fun b hb => .inr ?_)
  · show ({ w with heap := w.heap.push o } : World).heap[w.heap.size]? = some o
    simp
  · have : b = w.heap.size := hb
    omega

theorem xJ {κ : Type} (K : KeyK κ) {t d : Nat} {ty pos af} (hn : Nat.blt d n = true) (k : ∀ b, TL P ops Q rest n D ((d, .map (some b)) :: env) R (.set K b [] :: G)) : TL P ops Q (⟨some d, .makeMap t none, ty, pos, af, none⟩ :: rest) n D env R G := by
  intro a w ha hw
  refine wpList_plain rfl fun K' hK => ?_
  unfold Oper.wp
  have e : (execOp a.eval ⟨some d, .makeMap t none, ty, pos, af, none⟩).run P w = .ok (.value (.map (some w.heap.size))) { w with heap := w.heap.push (.map #[] 0) } := by
    simp [execOp, Instr.makeMap, newObj, Sem.run, pure, bind, Sem.bind]
  rw [e]
  exact hK _ _ (k _ _ _ (ha.put (Nat.le_of_ble_eq_true hn)) (hw.newRaw _))

theorem fY {κ : Type} [DecidableEq κ] {K : KeyK κ} {kt d} {w : World} (hu : P.underlying kt = some d) (hd : K.desc d = true) (k : κ) (ks : List κ) : (Instr.findKey kt (K.enc k) (mkE K.enc 0 ks)).run P w = .ok ((ks.findIdx? (fun x => decide (k = x))).map fun j => (0 + j, .bool true)) w := by
  unfold Instr.findKey
  rw [qT (run_underlying hu w), fW K hd]
  rfl
theorem mQ {κ : Type} [DecidableEq κ] {K : KeyK κ} {t x y d b ty pos af} {ks : List κ} {k : κ} (i : Nat) (ht : aK K P t = true) (hG : G[i]? = some (.set K b ks)) (hx : ev env x = some (.map (some b))) (hy : ev env y = some (K.enc k)) :
    VAL P n D env R G ⟨some d, .lookup t x y false, ty, pos, af, none⟩ (.bool (decide (k ∈ ks))) := fun a w ha hw => by
  obtain ⟨kt, e, ds, h1, h2, h3, h4⟩ := aL ht
  have hh : w.heap[b]? = some (.map (mkE K.enc 0 ks).toArray ks.length) := hw.holds _ (List.mem_of_getElem? hG)
  show ((do let z ← Instr.lookup t (a.eval x) (a.eval y) false; pure (Next.value z) : Sem Next)).run P w = _
  rw [ha.eval hx, ha.eval hy]
  have e1 : (Instr.lookup t (.map (some b)) (K.enc k) false).run P w = .ok (.bool (decide (k ∈ ks))) w := by
    unfold Instr.lookup
    rw [qT (run_underlying h1 w)]
    have hf := fY (w := w) h2 h3 k ks
    have hm := fX (ks := ks) (k := k)
    cases hfi : ks.findIdx? (fun x => decide (k = x)) with
    | none =>
      rw [hfi] at hm
      rw [← hm]
      rw [hfi] at hf
      simp [MapKept.run_getObj_map hh, K.flat _ _ _ _ _ _ h2 h3, hf, h4]
    | some j =>
      rw [hfi] at hm
      rw [← hm]
      rw [hfi] at hf
      simp [MapKept.run_getObj_map hh, K.flat _ _ _ _ _ _ h2 h3, hf]
  rw [qT e1]; rfl

theorem mkE_self {κ : Type} [DecidableEq κ] {K : KeyK κ} {ks : List κ} {k : κ} {j : Nat} (h : ks.findIdx? (fun x => decide (k = x)) = some j) : ((mkE K.enc 0 ks).toArray.modify j fun e => { e with key := K.enc k, val := .bool true }) = (mkE K.enc 0 ks).toArray := by
  rw [List.findIdx?_eq_some_iff_getElem] at h
  obtain ⟨hj, hk, -⟩ := h
  have hk : k = ks[j] := by simpa using hk
  apply Array.ext'
  rw [Array.toList_modify]
  apply List.ext_getElem?
  intro i
  rw [List.getElem?_modify]
  by_cases hij : j = i
  · subst hij
    simp [dU, List.getElem?_eq_getElem hj, ← hk]
  · simp only [if_neg hij]; simp

theorem wX {κ : Type} [DecidableEq κ] {K : KeyK κ} {t x y b ty pos af} {ks : List κ} {k : κ} (i : Nat) (ht : aK K P t = true) (hG : G[i]? = some (.set K b ks)) (hx : ev env x = some (.map (some b))) (hy : ev env y = some (K.enc k))
    (kont : TL P ops Q rest n D env R (G.set i (.set K b (zE ks k)))) : TL P ops Q (⟨none, .mapUpdate t x y (.const (.bool true)), ty, pos, af, none⟩ :: rest) n D env R G := by
  intro a w ha hw
  obtain ⟨kt, e, ds, h1, h2, h3, h4⟩ := aL ht
  have hh : w.heap[b]? = some (.map (mkE K.enc 0 ks).toArray ks.length) := hw.holds _ (List.mem_of_getElem? hG)
  have hf := fY (P := P) (w := w) h2 h3 k ks
  have hset := MapKept.heap_set (o' := .map (mkE K.enc 0 (zE ks k)).toArray (zE ks k).length) hh
  refine wpList_plain rfl fun K' hK => ?_
  have hrun : (Instr.mapUpdate t (.map (some b)) (K.enc k) (.bool true)).run P w = .ok () { w with heap := w.heap.setIfInBounds b (.map (mkE K.enc 0 (zE ks k)).toArray (zE ks k).length) } := by
    have hm := fX (ks := ks) (k := k)
    unfold Instr.mapUpdate
    rw [qT (run_underlying h1 w)]
    cases hfi : ks.findIdx? (fun x => decide (k = x)) with
    | none =>
      rw [hfi] at hf hm
      have hk : ¬ k ∈ ks := by simpa using hm
      have he : zE ks k = ks ++ [k] := by unfold zE; rw [if_neg hk]
      simp [MapKept.run_getObj_map hh, K.flat _ _ _ _ _ _ h2 h3, hf, MapKept.run_setObj_map _ hh, he, lQ]
    | some j =>
      rw [hfi] at hf hm
      have hk : k ∈ ks := by simpa using hm
      have he : zE ks k = ks := by unfold zE; rw [if_pos hk]
      have hkey : ((mkE K.enc 0 ks)[j]?).map (·.key) = some (K.enc k) := by
        rw [List.findIdx?_eq_some_iff_getElem] at hfi
        obtain ⟨hj, hk', -⟩ := hfi
        have hk' : k = ks[j] := by simpa using hk'
        rw [dU, List.getElem?_eq_getElem hj, ← hk']; rfl
      have hself := mkE_self (K := K) hfi
      have hst : (Instr.keyThatStays (K.enc k) (K.enc k)).run P w = .ok (K.enc k) w := by
        unfold Instr.keyThatStays
        rw [if_pos (K.bits k)]; rfl
      simp [MapKept.run_getObj_map hh, K.flat _ _ _ _ _ _ h2 h3, hf, hkey, hst, MapKept.run_setObj_map _ hh, he]
      rw [← hself]; simp
  have e : (execOp a.eval ⟨none, .mapUpdate t x y (.const (.bool true)), ty, pos, af, none⟩).run P w = .ok .skip { w with heap := w.heap.setIfInBounds b (.map (mkE K.enc 0 (zE ks k)).toArray (zE ks k).length) } := by
    show ((do Instr.mapUpdate t (a.eval x) (a.eval y) (a.eval (.const (.bool true))); pure Next.skip : Sem Next)).run P w = _
    rw [ha.eval hx, ha.eval hy, show a.eval (.const (.bool true)) = .bool true from rfl, qT hrun]; rfl
  unfold Oper.wp
  rw [e]
  exact hK _ _ (kont _ _ ha (hw.stepAt hG rfl rfl rfl (fun x _ hx => hset.2 x hx) hset.1 fun x hx => .inl hx))

theorem tl_range {κ : Type} {K : KeyK κ} {t x d b ty pos af} {ks : List κ} (i : Nat) (ht : aK K P t = true) (hG : G[i]? = some (.set K b ks)) (hx : ev env x = some (.map (some b))) (hn : Nat.blt d n = true)
    (kont : ∀ r, TL P ops Q rest n D ((d, .pointer (some ⟨r, 0, none⟩)) :: env) R (.raw r (.mapIter (some b) ks.length #[] ks.length) :: G)) : TL P ops Q (⟨some d, .range t x, ty, pos, af, none⟩ :: rest) n D env R G := by
  intro a w ha hw
  obtain ⟨kt, e, ds, h1, h2, h3, h4⟩ := aL ht
  have hh : w.heap[b]? = some (.map (mkE K.enc 0 ks).toArray ks.length) := hw.holds _ (List.mem_of_getElem? hG)
  refine wpList_plain rfl fun K' hK => ?_
  have e : (execOp a.eval ⟨some d, .range t x, ty, pos, af, none⟩).run P w = .ok (.value (.pointer (some ⟨w.heap.size, 0, none⟩))) { w with heap := w.heap.push (.mapIter (some b) ks.length #[] ks.length) } := by
    show ((do let z ← Instr.range t (a.eval x); pure (Next.value z) : Sem Next)).run P w = _
    rw [ha.eval hx]
    have : (Instr.range t (.map (some b))).run P w = .ok (.pointer (some ⟨w.heap.size, 0, none⟩)) { w with heap := w.heap.push (.mapIter (some b) ks.length #[] ks.length) } := by
      unfold Instr.range
      rw [qT (run_underlying h1 w)]
      simp [MapKept.run_getObj_map hh]
    rw [qT this]; rfl
  unfold Oper.wp
  rw [e]
  exact hK _ _ (kont _ _ _ (ha.put (Nat.le_of_ble_eq_true hn)) (hw.newRaw _))

theorem tl_next {κ : Type} {K : KeyK κ} {x d b r ty pos af} {ks : List κ} {seen : List Nat} (i j : Nat) (hG : G[i]? = some (.set K b ks)) (hJ : G[j]? = some (.raw r (.mapIter (some b) ks.length seen.toArray ks.length))) (hx : ev env x = some (.pointer (some ⟨r, 0, none⟩))) (hn : Nat.blt d n = true)
    (k1 : (∀ q, q < ks.length → q ∈ seen) → TL P ops Q rest n D ((d, .tuple #[.bool false]) :: env) R G)
    (k2 : ∀ q k, ks[q]? = some k → ¬ q ∈ seen → TL P ops Q rest n D ((d, .tuple #[.bool true, K.enc k, .bool true]) :: env) R (G.set j (.raw r (.mapIter (some b) ks.length (seen ++ [q]).toArray ks.length)))) : TL P ops Q (⟨some d, .next x false, ty, pos, af, none⟩ :: rest) n D env R G := by
  intro a w ha hw
  have hh : w.heap[b]? = some (.map (mkE K.enc 0 ks).toArray ks.length) := hw.holds _ (List.mem_of_getElem? hG)
  have hr : w.heap[r]? = some (.mapIter (some b) ks.length seen.toArray ks.length) := hw.holds _ (List.mem_of_getElem? hJ)
  have hborn : ∀ y ∈ (mkE K.enc 0 ks), ∃ q k, ks[q]? = some k ∧ y = ⟨K.enc k, .bool true, q⟩ := fun y hy => by
    obtain ⟨q, hq⟩ := List.mem_iff_getElem?.1 hy
    rw [dU] at hq
    cases hk : ks[q]? with
    | none => rw [hk] at hq; cases hq
    | some k => rw [hk] at hq; simp at hq; exact ⟨q, k, hk, hq.symm⟩
  refine wpList_plain rfl fun K' hK => ?_
  have hex : ∀ v w', (Instr.next (.pointer (some ⟨r, 0, none⟩)) false ty).run P w = .ok v w' → (execOp a.eval ⟨some d, .next x false, ty, pos, af, none⟩).run P w = .ok (.value v) w' := fun v w' h => by
    show ((do let z ← Instr.next (a.eval x) false ty; pure (Next.value z) : Sem Next)).run P w = _
    rw [ha.eval hx, qT h]; rfl
  rcases run_next_at (P := P) w ty r b ks.length ks.length seen.toArray (mkE K.enc 0 ks).toArray ks.length hr hh (fun y hy => by
      obtain ⟨q, k, hk, rfl⟩ := hborn y (by simpa using hy)
      exact (List.getElem?_eq_some_iff.1 hk).1) (Nat.le_refl _) with ⟨h0, hrun⟩ | ⟨e, he, w1, hal, hrun⟩
  · unfold Oper.wp
    rw [hex _ _ hrun]
    refine hK _ _ (k1 (fun q hq => ?_) _ _ (ha.put (Nat.le_of_ble_eq_true hn)) hw)
    have := all_seen _ _ h0 ⟨K.enc ks[q], .bool true, q⟩ (by
      apply List.mem_iff_getElem?.2
      exact ⟨q, by simp [dU, List.getElem?_eq_getElem hq]⟩)
    simpa using this
  · obtain ⟨hem, hes⟩ := mem_left he
    obtain ⟨q, k, hk, rfl⟩ := hborn e (by simpa using hem)
    have hw1 : Own w1 R G := by
      rcases hal with rfl | rfl
      · exact hw
      · exact hw.drew _
    have hr1 : w1.heap[r]? = some (.mapIter (some b) ks.length seen.toArray ks.length) := hw1.holds _ (List.mem_of_getElem? hJ)
    have hset := MapKept.heap_set (o' := .mapIter (some b) ks.length (seen.toArray.push q) ks.length) hr1
    unfold Oper.wp
    rw [hex _ _ hrun]
    refine hK _ _ (k2 q k hk (by simpa using hes) _ _ (ha.put (Nat.le_of_ble_eq_true hn)) (hw1.stepAt hJ rfl rfl rfl (fun x _ hx => hset.2 x hx) ?_ fun x hx => .inl hx))
    show (w1.heap.setIfInBounds r _)[r]? = _
    have := hset.1
    simpa using this

theorem v_entry {κ : Type} {K : KeyK κ} {x d b r ty pos af} {ks : List κ} {seen : List Nat} {q : Nat} {k : κ} (i j : Nat) (hG : G[i]? = some (.set K b ks)) (hJ : G[j]? = some (.raw r (.mapIter (some b) ks.length (seen ++ [q]).toArray ks.length))) (hx : ev env x = some (.pointer (some ⟨r, 0, none⟩))) (hq : ks[q]? = some k) :
    VAL P n D env R G ⟨some d, .entry x, ty, pos, af, none⟩ (.tuple #[K.enc k, .bool true]) := fun a w ha hw => by
  have hh : w.heap[b]? = some (.map (mkE K.enc 0 ks).toArray ks.length) := hw.holds _ (List.mem_of_getElem? hG)
  have hr : w.heap[r]? = some (.mapIter (some b) ks.length (seen ++ [q]).toArray ks.length) := hw.holds _ (List.mem_of_getElem? hJ)
  have hn : ∀ (i : Nat) (ks : List κ), ((mkE K.enc i ks).map (·.born)) = List.range' i ks.length := by
    intro i ks
    induction ks generalizing i with
    | nil => rfl
    | cons y ys ih => simp [mkE, ih, List.range'_succ]
  have h := run_entry_at (P := P) w r b ks.length seen.toArray (mkE K.enc 0 ks).toArray ks.length ⟨K.enc k, .bool true, q⟩ (by simpa using hr) hh (by
    apply List.mem_iff_getElem?.2
    exact ⟨q, by simp [dU, hq]⟩) (by
    show ((mkE K.enc 0 ks).map (·.born)).Nodup
    rw [hn]
    exact List.nodup_range')
  show ((do let z ← Instr.entry (a.eval x); pure (Next.value z) : Sem Next)).run P w = _
  rw [ha.eval hx, qT h]; rfl
end


def fA (P : Program) : List Field → Option (List (Nat × Nat))
  | [] => some []
  | f :: fs => match P.info? f.type, fA P fs with
    | some i, some r => some ((f.offset, i.size) :: r)
    | _, _ => none
def pR (P : Program) (t : TypeId) : Option (Bool × List (Nat × Nat) × Nat) :=
  match P.underlying t with
  | some (.struct fs) => (fA P fs.toList).map fun l => (true, l, 0)
  | some (.array _ e) => (P.info? e).map fun i => (false, [], i.size)
  | _ => none
def dN (q : Bool × List (Nat × Nat) × Nat) (i : Nat) : Option (Nat × Nat) := if q.1 then q.2.1[i]? else some (i * q.2.2, q.2.2)
def lN (q : Bool × List (Nat × Nat) × Nat) : List Value → List (Nat × Value) → Option (List Value)
  | zs, [] => some zs
  | zs, (i, v) :: r => match dN q i with
    | some (off, size) => if Nat.beq v.cells.toList.length size && Nat.ble (off + v.cells.toList.length) zs.length then lN q (hU zs off v.cells.toList) r else none
    | none => none

theorem fO (q : Bool × List (Nat × Nat) × Nat) : ∀ (ps : List (Nat × Value)) (zs cs : List Value), lN q zs ps = some cs → Instr.fill (dN q) zs.toArray ps = some cs.toArray
  | [], zs, cs, h => by simp only [lN, Option.some.injEq] at h; subst h; rfl
  | (i, v) :: r, zs, cs, h => by
    unfold lN at h
    unfold Instr.fill
    split at h
    · rename_i off size hp
      rw [hp]
      split at h
      · rename_i hc
        simp only [Bool.and_eq_true] at hc
        have h1 : v.cells.size = size := by have := Nat.eq_of_beq_eq_true hc.1; simpa using this
        have h2 : off + v.cells.size ≤ zs.length := by have := Nat.le_of_ble_eq_true hc.2; simpa using this
        have hcc : (decide (v.cells.size ≠ size) || decide (off + v.cells.size > zs.toArray.size)) = false := by simp [h1]; omega
        simp only [hcc, Bool.false_eq_true, if_false]
        have e2 := aI off v.cells.toList 0 zs.toArray
        rw [Nat.add_zero] at e2
        have e3 : v.cells.zipIdx.foldl (fun (cs : Array Value) (x : Value × Nat) => match x with | (c, j) => cs.setIfInBounds (off + j) c) zs.toArray = (v.cells.toList.zipIdx 0).foldl (fun (cs : Array Value) (p : Value × Nat) => cs.setIfInBounds (off + p.2) p.1) zs.toArray := by
          rw [← Array.foldl_toList]; simp
        rw [e3, e2]
        exact fO q r _ _ h
      · cases h
    · cases h

section
variable {P : Program} {n : Nat} {D : List Deferred} {env env' : List (Nat × Value)} {R : RO} {G G' : List Res} {Q : Exit → Act → World → Prop} {ops : Array Oper} {rest : List Oper} {o : Oper}

theorem eF {w : World} : ∀ {fs : List Field} {l : List (Nat × Nat)}, fA P fs = some l → (fs.mapM fun f => (do pure (f.offset, ← sizeOf f.type) : Sem (Nat × Nat))).run P w = .ok l w
  | [], l, h => by cases h; rfl
  | f :: fs, l, h => by
    unfold fA at h
    split at h
    · rename_i i r hi hr
      cases h
      have ih := eF (w := w) hr
      have hs : (sizeOf f.type).run P w = .ok i.size w := by unfold sizeOf; rw [qT (kT hi)]; rfl
      rw [List.mapM_cons]
      have e1 : (do pure (f.offset, ← sizeOf f.type) : Sem (Nat × Nat)).run P w = .ok (f.offset, i.size) w := by rw [qT hs]; rfl
      rw [qT e1, qT ih]; rfl
    · cases h

theorem qH5 {w : World} {t : TypeId} {zs cs : List Value} {q : Bool × List (Nat × Nat) × Nat} {ps : List (Nat × Value)} (hz : zG P t = some zs) (hp : pR P t = some q) (hb : lN q zs ps = some cs) : (Instr.build t ps.toArray).run P w = .ok (.agg cs.toArray) w := by
  unfold zG at hz
  obtain ⟨z, hz1, hz2⟩ := Option.map_eq_some_iff.1 hz
  obtain ⟨inf, hi, hz1⟩ := Option.bind_eq_some_iff.1 hz1
  have hzz : (zeroValue t).run P w = .ok z w := by unfold zeroValue; rw [qT (kT hi), hz1]; rfl
  have hzc : z.cells = zs.toArray := by rw [← hz2]
  have hf := fO q ps zs cs hb
  unfold Instr.build
  rw [qT hzz]
  unfold pR at hp
  split at hp
  · rename_i fs hu
    obtain ⟨l, hl, rfl⟩ := Option.map_eq_some_iff.1 hp
    rw [qT (run_underlying hu w)]
    have hl2 := eF (P := P) (w := w) hl
    have e : (fs.mapM fun f => (do pure (f.offset, ← sizeOf f.type) : Sem (Nat × Nat))).run P w = .ok l.toArray w := by
      rw [Array.mapM_eq_mapM_toList]
      show (Sem.run P (List.toArray <$> _) w) = _
      rw [Sem.run_map, hl2]; rfl
    simp only []
    rw [qT e]
    have hpl : (fun x => l.toArray[x]?) = dN (true, l, 0) := by funext x; simp [dN]
    rw [hzc, hpl, hf]; rfl
  · rename_i len e hu
    obtain ⟨i, hl, rfl⟩ := Option.map_eq_some_iff.1 hp
    rw [qT (run_underlying hu w)]
    have hs : (sizeOf e).run P w = .ok i.size w := by unfold sizeOf; rw [qT (kT hl)]; rfl
    simp only []
    rw [qT hs]
    have hpl : (fun x => some (x * i.size, i.size)) = dN (false, [], i.size) := by funext x; simp [dN]
    rw [hzc, hpl, hf]; rfl
  · cases hp

theorem xP {t d ty pos af} {ps : List (Nat × Operand)} {vs zs : List Value} {q : Bool × List (Nat × Nat) × Nat} (cs : List Value) (hz : zG P t = some zs) (hp : pR P t = some q) (hv : evs env (ps.map Prod.snd) = some vs) (hb : lN q zs ((ps.map Prod.fst).zip vs) = some cs) :
    VAL P n D env R G ⟨some d, .build t ps.toArray, ty, pos, af, none⟩ (.agg cs.toArray) := fun a w ha _ => by
  have hparts : (ps.toArray.map fun (p : Nat × Operand) => (p.1, a.eval p.2)) = ((ps.map Prod.fst).zip vs).toArray := by
    rw [← aH ha hv]
    simp only [List.map_toArray]
    congr 1
    clear hv hb
    induction ps with
    | nil => rfl
    | cons p ps ih => simpa using ih
  show ((do let z ← Instr.build t (ps.toArray.map fun (p : Nat × Operand) => (p.1, a.eval p.2)); pure (Next.value z) : Sem Next)).run P w = _
  rw [hparts, qT (qH5 hz hp hb)]; rfl
end


instance memBytes (x : ByteArray) (l : List ByteArray) : Decidable (x ∈ l) := @List.instDecidableMemOfLawfulBEq ByteArray instBEqOfDecidableEq _ x l

def mH (P : Program) (t : TypeId) : Option (Nat × TypeId × Nat) :=
  match P.underlying t with
  | some (.array n e) => (P.info? e).map fun i => (n, e, i.size)
  | _ => none
def fB (P : Program) (s j : Nat) : Option Nat :=
  match P.underlying s with
  | some (.struct fs) => match fs[j]? with
    | some f => match kR P f.type with
      | some (false, _) => some f.offset
      | _ => none
    | none => none
  | _ => none
def qH6 (P : Program) (t : TypeId) : Option Nat :=
  match P.underlying t with
  | some (.array n e) => match kR P e with
    | some (false, 1) => some n
    | _ => none
  | _ => none
def aF (P : Program) (t : TypeId) : Bool := match P.underlying t with
  | some (.interface _) => false
  | some _ => true
  | none => false
def lB (P : Program) (t : TypeId) (name : String) : Option FuncId :=
  match P.info? t with
  | some i => match i.methods.find? (·.name == name) with
    | some m => match m.func, P.underlying t with
      | some (f, false), some (.struct _) => if m.path.isEmpty then some f else none
      | _, _ => none
    | none => none
  | none => none

section
variable {P : Program} {n : Nat} {D : List Deferred} {env env' : List (Nat × Value)} {R : RO} {G G' : List Res} {Q : Exit → Act → World → Prop} {ops : Array Oper} {rest : List Oper} {o : Oper}

theorem v_cap {t x d e s ty pos af ad} {len cap : Nat} (hx : ev env x = some (.slice ad len cap)) (ht : wE P t = some (e, s))
    : VAL P n D env R G ⟨some d, .call { callee := .builtin .cap, args := #[x], argTypes := #[t] }, ty, pos, af, none⟩ (.int .i64 (cap : Int)) :=
  fun a w ha _ => by
    unfold wE at ht
    split at ht
    · rename_i e' hu
      simp [execOp, resolve, invoke, builtin, Builtin.cap_, ha.eval hx, run_underlying hu, goInt]
    · cases ht
theorem qH7 {t x y yt d e s ty pos af} {A : Option Addr} {len cap m c : Nat} (hx : ev env x = some (.slice A len cap)) (hy : ev env y = some (.slice none m c)) (ht : wE P t = some (e, s)) :
    VAL P n D env R G ⟨some d, .binOp .eql t x y yt, ty, pos, af, none⟩ (.bool A.isNone) :=
  nL hx hy fun w => by
    unfold wE at ht
    split at ht
    · rename_i e' hu
      have h1 : (eqGuard .eql t x y (.slice A len cap) (.slice none m c)).run P w = .ok () w := by unfold eqGuard; rfl
      rw [qT h1]
      have h2 : (Op.equal t (.slice A len cap) (.slice none m c)).run P w = .ok A.isNone w := by
        show (Op.equalIn 10000 t _ _).run P w = _
        unfold Op.equalIn
        rw [qT (run_underlying hu w)]
        cases A <;> rfl
      show ((do pure (Value.bool (← Op.equal t (.slice A len cap) (.slice none m c))) : Sem Value)).run P w = _
      rw [qT h2]; rfl
    · cases ht
theorem zN {x d a ty pos af} (hx : ev env x = some (.pointer (some a))) : VAL P n D env R G ⟨some d, .nilCheck x, ty, pos, af, none⟩ (.pointer (some a)) :=
  fun a' w ha _ => by simp [execOp, ha.eval hx, pure]
theorem nM {x d t v ty pos af} (hx : ev env x = some (.iface t v)) : VAL P n D env R G ⟨some d, .nilCheck x, ty, pos, af, none⟩ (.iface t v) :=
  fun a' w ha _ => by simp [execOp, ha.eval hx, pure]
theorem v_idxG {t x y d e s ty pos af} {len b o : Nat} {i : Int} {kd : IntKind} (o' : Nat) (hx : ev env x = some (.pointer (some ⟨b, o, none⟩))) (hy : ev env y = some (.int kd i)) (ht : mH P t = some (len, e, s)) (h0 : 0 ≤ i) (h1 : i < (len : Int)) (ho : o + i.toNat * s = o') :
    VAL P n D env R G ⟨some d, .indexAddr t x y, ty, pos, af, none⟩ (.pointer (some ⟨b, o', none⟩)) := fun a w ha _ => by
  show ((do let z ← Instr.indexAt t (a.eval x) (a.eval y); pure (Next.value z) : Sem Next)).run P w = _
  rw [ha.eval hx, ha.eval hy]
  unfold mH at ht
  split at ht
  · rename_i n' e' hu
    obtain ⟨inf, hi, he⟩ := Option.map_eq_some_iff.1 ht
    simp only [Prod.mk.injEq] at he
    obtain ⟨rfl, rfl, rfl⟩ := he
    have hsz : (sizeOf e').run P w = .ok inf.size w := by unfold sizeOf; rw [qT (kT hi)]; rfl
    have : (Instr.indexAt t (.pointer (some ⟨b, o, none⟩)) (.int kd i)).run P w = .ok (.pointer (some ⟨b, o', none⟩)) w := by
      simp [Instr.indexAt, asIntOf, run_underlying hu, Instr.sureAddr, h0, h1, hsz, cO, ho]
    rw [qT this]; rfl
  · cases ht
theorem rF {t x d j off ty pos af} {cs : List Value} {v : Value} (hx : ev env x = some (.agg cs.toArray)) (ht : fB P t j = some off) (hv : cs[off]? = some v) : VAL P n D env R G ⟨some d, .field t x j, ty, pos, af, none⟩ v := fun a w ha _ => by
  show ((do let z ← Instr.field t (a.eval x) j; pure (Next.value z) : Sem Next)).run P w = _
  rw [ha.eval hx]
  unfold fB at ht
  split at ht
  · rename_i fs hu
    split at ht
    · rename_i f hf
      split at ht
      · rename_i sz hl
        cases ht
        have : (Instr.field t (.agg cs.toArray) j).run P w = .ok v w := by
          unfold Instr.field
          rw [qT (run_underlying hu w)]
          simp only [hf]
          have h2 : (part f.type cs.toArray f.offset).run P w = .ok v w := by
            unfold part
            rw [qT (cN hl)]
            simp [hv]
          exact h2
        rw [qT this]; rfl
      · cases ht
    · cases ht
  · cases ht
theorem hT {t x y d ty pos af} {len : Nat} {cs : List Value} {i : Int} {kd : IntKind} {v : Value} (hx : ev env x = some (.agg cs.toArray)) (hy : ev env y = some (.int kd i)) (ht : qH6 P t = some len) (h0 : 0 ≤ i) (h1 : i < (len : Int)) (hv : cs[i.toNat]? = some v) :
    VAL P n D env R G ⟨some d, .index t x y, ty, pos, af, none⟩ v := fun a w ha _ => by
  show ((do let z ← Instr.index t (a.eval x) (a.eval y); pure (Next.value z) : Sem Next)).run P w = _
  rw [ha.eval hx, ha.eval hy]
  unfold qH6 at ht
  split at ht
  · rename_i n' e' hu
    split at ht
    · rename_i hl
      cases ht
      have : (Instr.index t (.agg cs.toArray) (.int kd i)).run P w = .ok v w := by
        unfold Instr.index
        have ha : (asIntOf (.int kd i)).run P w = .ok (kd, i) w := rfl
        rw [qT ha, qT (run_underlying hu w)]
        simp only []
        rw [if_pos ⟨h0, h1⟩, qT (dO hl)]
        have h2 : (part e' cs.toArray (i.toNat * 1)).run P w = .ok v w := by
          unfold part
          rw [qT (cN hl)]
          simp [hv]
        exact h2
      rw [qT this]; rfl
    · cases ht
  · cases ht
theorem qD8 {t x d v ty pos af} (hx : ev env x = some v) (ht : aF P t = true) : VAL P n D env R G ⟨some d, .makeInterface t x, ty, pos, af, none⟩ (.iface t v) := fun a w ha _ => by
  show ((do let z ← Instr.makeInterface t (a.eval x); pure (Next.value z) : Sem Next)).run P w = _
  rw [ha.eval hx]
  unfold aF at ht
  have : (Instr.makeInterface t v).run P w = .ok (.iface t v) w := by
    unfold Instr.makeInterface
    split at ht
    · cases ht
    · rename_i d' hne hu
      rw [qT (run_underlying hu w)]
      cases d' <;> first | rfl | exact absurd rfl (hne _)
    · cases ht
  rw [qT this]; rfl
theorem v_mkF {fn xs vs d ty pos af} (hv : evs env xs = some vs) : VAL P n D env R G ⟨some d, .makeFunc fn #[] xs.toArray, ty, pos, af, none⟩ (.func fn #[] vs.toArray) := fun a w ha _ => by
  show ((do let z ← Instr.makeFunc fn ((#[] : Array Operand).map a.eval) (xs.toArray.map a.eval); pure (Next.value z) : Sem Next)).run P w = _
  have e : xs.toArray.map a.eval = vs.toArray := by rw [← aH ha hv]; simp
  rw [e]; simp [Instr.makeFunc, pure]

theorem gJ {κ : Type} [DecidableEq κ] {K : KeyK κ} {t x y d b ty pos af} {ks : List κ} {k : κ} (ht : aK K P t = true) (hG : Res.set K b ks ∈ G) (hx : ev env x = some (.map (some b))) (hy : ev env y = some (K.enc k)) :
    VAL P n D env R G ⟨some d, .lookup t x y false, ty, pos, af, none⟩ (.bool (decide (k ∈ ks))) := by
  obtain ⟨i, hi⟩ := List.mem_iff_getElem?.1 hG
  exact mQ i ht hi hx hy

def Goes (P : Program) (n : Nat) (D : List Deferred) (env : List (Nat × Value)) (op : Op) (f : FuncId) (vs : List Value) : Prop :=
  ∀ a dst ty pos af w, Env n D env a → (execOp a.eval ⟨dst, op, ty, pos, af, none⟩).run P w = .ok (.enter f vs.toArray) w

theorem pE {x : Operand} {f : FuncId} {at_ : Array TypeId} {xs : List Operand} {vs : List Value} {cap : Array Value} (hc : Callable P f) (hx : ev env x = some (.func (.func f) #[] cap)) (hv : evs env xs = some vs) :
    Goes P n D env (.call { callee := .value x, args := xs.toArray, argTypes := at_ }) f (vs ++ cap.toList) := fun a dst ty pos af w ha => by
  have e : xs.toArray.map a.eval = vs.toArray := by rw [← aH ha hv]; simp
  have e2 : (execOp a.eval ⟨dst, .call { callee := .value x, args := xs.toArray, argTypes := at_ }, ty, pos, af, none⟩) = (do callFunc f (#[] ++ vs.toArray ++ cap) : Sem Next) := by
    simp [execOp, resolve, e, ha.eval hx, Deferred.ofValue, invoke]
  rw [e2, sS hc]
  simp
theorem gO {x : Operand} {name : String} {f t : Nat} {v : Value} {at_ : Array TypeId} {xs : List Operand} {vs : List Value} (hm : lB P t name = some f) (hc : Callable P f) (hx : ev env x = some (.iface t v)) (hv : evs env xs = some vs) :
    Goes P n D env (.call { callee := .invoke x name, args := xs.toArray, argTypes := at_ }) f (v :: vs) := fun a dst ty pos af w ha => by
  have e : xs.toArray.map a.eval = vs.toArray := by rw [← aH ha hv]; simp
  unfold lB at hm
  split at hm
  · rename_i inf hi
    split at hm
    · rename_i m hf
      split at hm
      · rename_i f' fs hfu hu
        split at hm
        · rename_i hp
          cases hm
          have hmeth : (method (P.types.size + Made.depth) t v name).run P w = .ok (f, v) w := by
            have hd : P.types.size + Made.depth = (P.types.size + (Made.depth - 1)) + 1 := by unfold Made.depth; omega
            rw [hd]
            unfold method
            rw [qT (kT hi)]
            rw [hf]
            have hpl : m.path.toList = [] := by simpa using hp
            simp only []
            rw [hpl]
            have h1 : (follow [] t (.val v)).run P w = .ok (t, .val v) w := rfl
            rw [qT h1]
            simp only [hfu]
            have h2 : (receiverAt t (.val v) false (if m.path.isEmpty = true then some ((name.splitOn ".").getLastD name) else none)).run P w = .ok v w := by
              unfold receiverAt
              rw [qT (run_underlying hu w)]
              rfl
            rw [qT h2]; rfl
          have e2 : (execOp a.eval ⟨dst, .call { callee := .invoke x name, args := xs.toArray, argTypes := at_ }, ty, pos, af, none⟩) = callMethod (.iface t v) name vs.toArray := by
            simp [execOp, resolve, e, ha.eval hx, invoke]
          rw [e2]
          unfold callMethod
          have h3 : (program).run P w = .ok P w := rfl
          simp only []
          rw [qT h3, qT hmeth]
          simp only []
          rw [sS hc]
          simp
        · cases hm
      · cases hm
    · cases hm
  · cases hm

theorem wV {f d ty pos af vs v} {op : Op} {G' : List Res} (hg : Goes P n D env op f vs) (hk : ∀ w, Own w R G → Calls P f vs.toArray w (kK R G' v)) (hn : Nat.blt d n = true)
    (k : TL P ops Q rest n D ((d, v) :: env) R G') : TL P ops Q (⟨some d, op, ty, pos, af, none⟩ :: rest) n D env R G := by
  intro a w ha hw
  refine wpList_plain rfl fun K hK => ?_
  unfold Oper.wp
  rw [hg a _ _ _ _ w ha]
  simp only [Oper.upon]
  refine (hk w hw).mono ?_
  rintro e w' ⟨rfl, ho⟩
  exact hK _ _ (k _ _ (ha.put (Nat.le_of_ble_eq_true hn)) ho)
theorem cL {f d ty pos af vs} {op : Op} {φ : Value → RO → List Res → Prop} {G1 : List Res} (hg : Goes P n D env op f vs) (hk : ∀ w, Own w R G → Calls P f vs.toArray w (gZ R G1 φ)) (hn : Nat.blt d n = true)
    (k : ∀ v R' L, R.le R' → φ v R' L → TL P ops Q rest n D ((d, v) :: env) R' (L ++ G1)) : TL P ops Q (⟨some d, op, ty, pos, af, none⟩ :: rest) n D env R G := by
  intro a w ha hw
  refine wpList_plain rfl fun K hK => ?_
  unfold Oper.wp
  rw [hg a _ _ _ _ w ha]
  simp only [Oper.upon]
  refine (hk w hw).mono ?_
  rintro e w' ⟨v, R', L, rfl, hle, ho, hp⟩
  exact hK _ _ (k v R' L hle hp _ _ (ha.put (Nat.le_of_ble_eq_true hn)) ho)
theorem nN {Qf : Act → Prop} {f d ty pos af vs v} {op : Op} (hg : Goes P n D env op f vs) (hk : ∀ w, Own w R G → Calls P f vs.toArray w (kK R G v)) (hn : Nat.blt d n = true)
    (k : TQ P ops Qf rest n D ((d, v) :: env) R G) : TQ P ops Qf (⟨some d, op, ty, pos, af, none⟩ :: rest) n D env R G := by
  intro a ha
  show if Region.wanted _ (yielded ops a.tmps) then _ else _
  rw [if_pos (by simp [Region.wanted])]
  refine ⟨v, fun w hw => ?_, k _ (ha.put (Nat.le_of_ble_eq_true hn))⟩
  unfold Oper.quietAt
  rw [hg a _ _ _ _ w ha]
  exact ⟨rfl, (hk w hw).mono fun e w' h => h⟩

theorem tU {v : Value} (h : v.cells = #[v]) (k : Nat) : (Builtin.zeroCells v.cells k).toList = List.replicate k v := by
  unfold Builtin.zeroCells
  rw [h]
  simp only [Array.toList_map, Array.toList_range]
  apply List.ext_getElem?
  intro i
  simp only [List.getElem?_map, List.getElem?_replicate, List.getElem?_range']
  by_cases hi : i < k
  · simp [hi, Nat.mod_one]
  · simp [hi]
theorem bO {v : Value} (h : v.cells = #[v]) (k : Nat) : (Builtin.zeroCells v.cells k).size = k := by
  have := congrArg List.length (tU h k)
  simpa using this
def isInt (P : Program) (t : TypeId) : Bool := match P.underlying t with | some (.int _) => true | _ => false
theorem tl_appz {t tn e by_ : Nat} {z0 : Value} {d : Nat} {ty pos af} {s x : Operand} {k : Nat} {kq : IntKind} (hi : yO P t = some (e, 1, by_, [z0])) (htn : isInt P tn = true) (h1 : z0.cells = #[z0]) (hs : ev env s = some (.slice none 0 0)) (hx : ev env x = some (.int kq (k : Int)))
    (h0 : 0 < k) (hk : k ≤ 1000000000) (hby : Nat.ble by_ 1000 = true) (hn : Nat.blt d n = true)
    (kont : ∀ A' c', TL P ops Q rest n D ((d, .slice A' k c') :: env) R (.vec (.slice A' k c') k e 1 (List.replicate k z0) :: G)) : TL P ops Q (⟨some d, .call { callee := .builtin .append, args := #[s, x], argTypes := #[t, tn] }, ty, pos, af, none⟩ :: rest) n D env R G := by
  intro a w ha hw
  obtain ⟨hu, inf, z, hinf, hz, hsz, hbytes, hzs, hpos⟩ := pT hi
  have hzz : z.cells = #[z0] := by
    unfold yO at hi
    rw [hu] at hi
    simp only [hinf, hz] at hi
    split at hi
    · simp only [Option.some.injEq, Prod.mk.injEq] at hi
      have := hi.2.2.2
      apply Array.ext'
      simpa using this
    · cases hi
  unfold isInt at htn
  split at htn
  · rename_i kn hun
    have hb2 := Nat.le_of_ble_eq_true hby
    have hmul : k * inf.bytes ≤ k * 1000 := Nat.mul_le_mul_left _ (by omega)
    have hr := Lib.run_append_nil_zeros (P := P) w t tn ty e inf z kq kn hu hun hinf hz k h0 (by omega) (by omega) (by omega)
    refine wpList_plain rfl fun K hK => ?_
    have hrun : (execOp a.eval ⟨some d, .call { callee := .builtin .append, args := #[s, x], argTypes := #[t, tn] }, ty, pos, af, none⟩).run P w = .ok (.value (.slice (some ⟨w.heap.size, 0, none⟩) k (grownCap w k 0 e))) (w.drew.alloc (.cells (Builtin.zeroCells z.cells k ++ Builtin.zeroCells z.cells (grownCap w k 0 e - k)) e)) := by
      simp [execOp, resolve, invoke, builtin, ha.eval hs, ha.eval hx, hr]
    unfold Oper.wp
    rw [hrun]
    have hcap : k ≤ grownCap w k 0 e ∧ grownCap w k 0 e ≤ maxLen := ⟨grownCap_ge w k 0 e, grownCap_le_maxLen w k 0 e (by simp only [maxLen]; omega)⟩
    have hc2 : z0.cells = z.cells := by rw [h1, hzz]
    refine hK _ _ (kont _ _ _ _ (ha.put (Nat.le_of_ble_eq_true hn)) (Own.new hw rfl rfl rfl (fun b hb => ?_) ?_ fun b hb => ?_))
    · exact heap_alloc_old w.drew _ hb
    · refine ⟨by simp, .inr ⟨w.heap.size, grownCap w k 0 e, _, rfl, Nat.zero_le _, heap_alloc_new w.drew _, hcap.1, hcap.2, ?_, ?_⟩⟩
      · rw [← hc2, Array.size_append, bO h1, bO h1]; omega
      · rw [← hc2, Array.toList_append, tU h1, Nat.mul_one, List.take_append_of_le_length (by simp), List.take_of_length_le (by simp)]
    · have : w.heap.size = b := by simpa [Res.vec, Value.ownBlock] using hb
      omega
  · cases htn

theorem nO {t e x sz d ty pos af} {high : Operand} {A : Option Addr} {len cap T m : Nat} {cs : List Value} (g : Nat) (hG : G[g]? = some (.vec (.slice A len cap) len T sz cs)) (hx : ev env x = some (.slice A len cap)) (ht : wE P t = some (e, sz))
    (hhi : ev env high = some (.int .i64 (m : Int))) (hm : m ≤ len) (hn : Nat.blt d n = true)
    (k : TL P ops Q rest n D ((d, .slice A m cap) :: env) R (G.set g (.vec (.slice A m cap) m T sz (cs.take (m * sz))))) : TL P ops Q (⟨some d, .slice t x none (some high) none, ty, pos, af, none⟩ :: rest) n D env R G := by
  intro a w ha hw
  have hv := fF (P := P) (n := n) (D := D) (R := R) (d := d) (ty := ty) (pos := pos) (af := af) (low := none) (high := some high) 0 m g hG hx ht rfl hhi (Nat.zero_le _) hm a w ha hw
  have hown : w.ownsRow 0 T sz (.slice A len cap) len cs := hw.holds _ (List.mem_of_getElem? hG)
  have hA : rJ A cap 0 sz = A := by
    unfold rJ
    split
    · rfl
    · rcases hown.2 with ⟨h2, h3⟩ | ⟨b, cap', cur, hv', _⟩
      · simp at h2; rw [h2.1]; rfl
      · simp at hv'; rw [hv'.1]; simp [cO]
  rw [hA] at hv
  simp only [Nat.sub_zero] at hv
  refine wpList_plain rfl fun K hK => ?_
  unfold Oper.wp
  rw [hv]
  have hnew : w.ownsRow 0 T sz (.slice A m cap) m (cs.take (m * sz)) := by
    have hle : m * sz ≤ len * sz := Nat.mul_le_mul_right _ hm
    refine ⟨by rw [List.length_take, hown.1]; omega, ?_⟩
    rcases hown.2 with ⟨h2, h3⟩ | ⟨b, cap', cur, hv', h1, h2, h3, h4, h5, h6⟩
    · simp at h2
      have : m = 0 := by omega
      subst this
      exact .inl ⟨by rw [h2.1, h2.2.2], rfl⟩
    · simp at hv'
      refine .inr ⟨b, cap', cur, by rw [hv'.1, hv'.2], h1, h2, by omega, h4, h5, ?_⟩
      rw [← h6, List.take_take, Nat.min_eq_left hle]
  refine hK _ _ (k _ _ (ha.put (Nat.le_of_ble_eq_true hn)) ?_)
  have h1 := hw.perm (wU g G)
  have e1 : pick g G = .vec (.slice A len cap) len T sz cs :: G.eraseIdx g := by unfold pick; rw [hG]
  rw [e1] at h1
  have h2 : Own w R (.vec (.slice A m cap) m T sz (cs.take (m * sz)) :: G.eraseIdx g) := Own.step h1 rfl rfl rfl (fun _ _ _ => rfl) hnew fun b hb => .inl (by
    have hb : (Value.slice A m cap).ownBlock = some b := hb
    show (Value.slice A len cap).ownBlock = some b
    cases A <;> simp [Value.ownBlock] at hb ⊢; exact hb)
  refine h2.perm ?_
  clear h1 h2 hv hown hnew k hA e1 hx
  induction G generalizing g with
  | nil => simp at hG
  | cons r G ih =>
    cases g with
    | zero => exact List.Perm.refl _
    | succ g => exact (List.Perm.swap r _ _).trans ((ih (hw := hw.tail) g (by simpa using hG)).cons r)

theorem qH8 {t e x ty pos af by_} {z0 : Value} {A : Option Addr} {len cap T lo : Nat} {cs : List Value} (g : Nat) (hi : yO P t = some (e, 1, by_, [z0])) (h1 : z0.cells = #[z0]) (h2 : one z0 = true) (hG : G[g]? = some (.vec (.slice A len cap) len T 1 cs))
    (hx : ev env x = some (.slice (rJ A cap lo 1) (len - lo) (cap - lo))) (hlo : lo ≤ len)
    (k : TL P ops Q rest n D env R (G.set g (.vec (.slice A len cap) len T 1 (cs.take lo ++ List.replicate (len - lo) z0)))) : TL P ops Q (⟨none, .call { callee := .builtin .clear, args := #[x], argTypes := #[t] }, ty, pos, af, none⟩ :: rest) n D env R G := by
  intro a w ha hw
  obtain ⟨hu, inf, z, hinf, hz, hsz, hbytes, hzs, hpos⟩ := pT hi
  have hzz : z.cells = #[z0] := by
    unfold yO at hi
    rw [hu] at hi
    simp only [hinf, hz] at hi
    split at hi
    · simp only [Option.some.injEq, Prod.mk.injEq] at hi
      have := hi.2.2.2
      apply Array.ext'
      simpa using this
    · cases hi
  have hc2 : z.cells = z0.cells := by rw [h1, hzz]
  have hown : w.ownsRow 0 T 1 (.slice A len cap) len cs := hw.holds _ (List.mem_of_getElem? hG)
  refine wpList_plain rfl fun K hK => ?_
  unfold Oper.wp
  rcases Nat.eq_zero_or_pos (len - lo) with h0 | h0
  · have hrun : (execOp a.eval ⟨none, .call { callee := .builtin .clear, args := #[x], argTypes := #[t] }, ty, pos, af, none⟩).run P w = .ok (.value (.tuple #[])) w := by
      rw [h0] at hx
      have : (Builtin.clear_ #[t] ty #[.slice (rJ A cap lo 1) 0 (cap - lo)]).run P w = .ok (.tuple #[]) w := by
        simp only [Builtin.clear_, List.getElem?_toArray, List.getElem?_cons_zero]
        rw [qT (run_underlying hu w)]
        cases hcu : rJ A cap lo 1 <;> rfl
      simp [execOp, resolve, invoke, builtin, ha.eval hx]
      rw [this]; rfl
    rw [hrun]
    have hcs : cs.take lo ++ List.replicate (len - lo) z0 = cs := by
      rw [h0, List.replicate_zero, List.append_nil, List.take_of_length_le (by rw [hown.1]; omega)]
    rw [hcs] at k
    have hset : G.set g (.vec (.slice A len cap) len T 1 cs) = G := by
      obtain ⟨hlt, he⟩ := List.getElem?_eq_some_iff.1 hG
      rw [← he, List.set_getElem_self]
    rw [hset] at k
    exact hK _ _ (k _ _ ha hw)
  · rcases hown.2 with ⟨h3, h4⟩ | ⟨b, cap', cur, hv', q1, q2, q3, q4, q5, q6⟩
    · omega
    · obtain ⟨rfl, -, rfl⟩ : A = some ⟨b, 0, none⟩ ∧ len = len ∧ cap = cap' := by simpa using hv'
      have hcut : rJ (some ⟨b, 0, none⟩) cap lo 1 = some ⟨b, lo, none⟩ := by
        unfold rJ; rw [if_neg (by omega)]; simp [cO]
      rw [hcut] at hx
      have hvs : (Builtin.zeroCells z.cells (len - lo)).toList = List.replicate (len - lo) z0 := by rw [hc2]; exact tU h1 _
      obtain ⟨w', hr, a1, a2, a3, a4, a5, a6⟩ := tA (P := P) (b := b) (o := lo) (T := T) (List.replicate (len - lo) z0) cur.toList 0 w (by simpa using q2) (by simp; omega) (by simp [h2])
      have hrun : (execOp a.eval ⟨none, .call { callee := .builtin .clear, args := #[x], argTypes := #[t] }, ty, pos, af, none⟩).run P w = .ok (.value (.tuple #[])) w' := by
        have : (Builtin.clear_ #[t] ty #[.slice (some ⟨b, lo, none⟩) (len - lo) (cap - lo)]).run P w = .ok (.tuple #[]) w' := by
          simp only [Builtin.clear_, List.getElem?_toArray, List.getElem?_cons_zero]
          rw [qT (run_underlying hu w)]
          obtain ⟨q, hq⟩ : ∃ q, len - lo = q + 1 := ⟨len - lo - 1, by omega⟩
          rw [hq] at hr hvs ⊢
          have hzv : (zeroValue e).run P w = .ok z w := by unfold zeroValue; rw [qT (kT hinf), hz]; rfl
          show ((do storeCells ⟨b, lo, none⟩ (Builtin.zeroCells (← zeroValue e).cells (q + 1)).toList; pure (Value.tuple #[]) : Sem Value)).run P w = _
          rw [qT hzv, hvs, qT hr]; rfl
        simp [execOp, resolve, invoke, builtin, ha.eval hx]
        rw [this]; rfl
      rw [hrun]
      refine hK _ _ (k _ _ ha (hw.stepAt hG a1 a2 a3 (fun y _ hy => a6 y fun e => hy (by rw [e]; rfl)) ?_ fun y hy => .inl hy))
      have hl : cur.toList.length = cap := by simpa using q5
      refine ⟨by have := hown.1; simp; omega, .inr ⟨b, cap, _, rfl, q1, a5, q3, q4, by simp [mK, hl], ?_⟩⟩
      rw [Nat.mul_one] at q6 ⊢
      simp only [Nat.add_zero]
      rw [nV _ _ _ (by simp; omega), ← q6, List.take_take, Nat.min_eq_left hlo]
      rw [List.take_append_of_le_length (by simp; omega), List.take_of_length_le (by simp; omega)]

theorem v_sliceN {t e x sz d ty pos af} {high : Operand} (hx : ev env x = some (.slice none 0 0)) (ht : wE P t = some (e, sz)) (hhi : ev env high = some (.int .i64 0)) :
    VAL P n D env R G ⟨some d, .slice t x none (some high) none, ty, pos, af, none⟩ (.slice none 0 0) := fun a w ha hw => by
  unfold wE at ht
  split at ht
  · rename_i e' hu
    cases hi' : P.info? e' with
    | none => rw [hi'] at ht; cases ht
    | some inf =>
      have hsz : (sizeOf e').run P w = .ok inf.size w := by unfold sizeOf; rw [qT (kT hi')]; rfl
      show ((do let z ← Instr.sliceAt t (a.eval x) ((none : Option Operand).map a.eval) ((some high).map a.eval) ((none : Option Operand).map a.eval); pure (Next.value z) : Sem Next)).run P w = _
      rw [ha.eval hx]
      have hr := gQ (P := P) (w := w) (y := 0) (i := 0) (kd := .i64) (c := .sliceAcap) (by omega) (by omega)
      have e2 : (Instr.sliceAt t (.slice none 0 0) ((none : Option Operand).map a.eval) ((some high).map a.eval) ((none : Option Operand).map a.eval)).run P w = .ok (.slice none 0 0) w := by
        unfold Instr.sliceAt
        rw [qT (run_underlying hu w)]
        simp only [Option.map_none]
        unfold Instr.slice
        rw [qT (run_underlying hu w)]
        simp only [Option.map_some, ha.eval hhi]
        have hb : (Instr.sliceBounds true 0 0 none (some (Value.int .i64 0)) none).run P w = .ok (0, 0, 0) w := by
          simp [Instr.sliceBounds, hr]
        rw [qT hb]
        simp only []
        rw [qT hsz]
        rfl
      rw [qT e2]; rfl
  · cases ht
end
section
variable {P : Program} {n : Nat} {D : List Deferred} {env env' : List (Nat × Value)} {R : RO} {G G' : List Res} {Q : Exit → Act → World → Prop} {ops : Array Oper} {rest : List Oper} {o : Oper}
theorem qH9 {t x d b o s ty pos af} {l : List Value} {T : TypeId} {v : Value} (hG : Res.blk b l T ∈ G) (hx : ev env x = some (.pointer (some ⟨b, o, none⟩))) (ht : kR P t = some (false, s)) (hl : l[o]? = some v) : VAL P n D env R G ⟨some d, .load t x, ty, pos, af, none⟩ v := by
  obtain ⟨i, hi⟩ := List.mem_iff_getElem?.1 hG
  exact jM i hx ht hi hl
theorem qD9 {t x d b o ty pos af} {l : List Value} {T : TypeId} (l' : List Value) (hG : Res.blk b l T ∈ G) (hx : ev env x = some (.pointer (some ⟨b, o, none⟩))) (ht : kR P t = some (true, l'.length)) (hl : (l.drop o).take l'.length = l') : VAL P n D env R G ⟨some d, .load t x, ty, pos, af, none⟩ (.agg l'.toArray) := by
  obtain ⟨i, hi⟩ := List.mem_iff_getElem?.1 hG
  exact qQ i l' hx ht hi hl
end
theorem wrap_rng (x : Int) : i64 (IntKind.i64.wrap x) := by unfold i64; rw [IntKind.wrap_i64]; omega
theorem fP {α} {k : Kd α} {R : RO} {x : α} {v : Value} (h : k.rep R x [v]) : ∀ m : Nat, k.reps R (List.replicate m x) (List.replicate m v)
  | 0 => rfl
  | m + 1 => ⟨[v], List.replicate m v, rfl, h, fP h m⟩
theorem qE0 {α} {k : Kd α} {R : RO} {l : List α} {cs : List Value} {x : α} {v : Value} (hsz : k.sz = 1) (hl : k.reps R l cs) (h : k.rep R x [v]) (a m : Nat) : k.reps R (l.take a ++ List.replicate m x) (cs.take a ++ List.replicate m v) := by
  have := Kd.reps_take a hl
  rw [hsz, Nat.mul_one] at this
  exact Kd.reps_append this (fP h m)



def FW (ρ : Option Nat) : Fence := { Fence.wide with round := ρ }
def TCr (ρ : Option Nat) (P : Program) (c : Code) (Q : Exit → Act → World → Prop) (n : Nat) (D : List Deferred) (env : List (Nat × Value)) (R : RO) (G : List Res) : Prop :=
  ∀ a w, Env n D env a → Own w R G → c.wpIn (FW ρ) 0 P Q a w
def TLr (ρ : Option Nat) (P : Program) (ops : Array Oper) (Q : Exit → Act → World → Prop) (rest : List Oper) (n : Nat) (D : List Deferred) (env : List (Nat × Value)) (R : RO) (G : List Res) : Prop :=
  ∀ a w, Env n D env a → Own w R G → wpListIn (FW ρ) 0 P ops Q rest a w
def qI0 (o : Oper) : Bool := match o.op with | .defer _ => false | _ => true
def onR (ρ : Option Nat) (P : Program) (ops : Array Oper) (Q : Exit → Act → World → Prop) (rest : List Oper) : Exit → Act → World → Prop := fun e a w => match e with
  | .normal => wpListIn (FW ρ) 0 P ops Q rest a w
  | _ => False

def Res.join (L : List Res) : Res :=
  ⟨fun b => ∃ r ∈ L, r.foot b, fun w => (∀ r ∈ L, r.holds w) ∧ L.Pairwise (fun r s : Res => ∀ b, r.foot b → ¬ s.foot b),
   fun w w' h k => ⟨fun r hr => r.loc w w' (fun b hb => h b ⟨r, hr, hb⟩) (k.1 r hr), k.2⟩,
   fun w k b ⟨r, hr, hb⟩ => r.lt w (k.1 r hr) b hb⟩
theorem Own.join {w R G} {L : List Res} (h : Own w R (L ++ G)) : Own w R (.join L :: G) :=
  ⟨h.os, h.tape, h.output, h.ro, fun r hr => by
    rcases List.mem_cons.1 hr with rfl | hr
    · exact ⟨fun r hr => h.holds r (List.mem_append_left _ hr), (List.pairwise_append.1 h.apart).1⟩
    · exact h.holds r (List.mem_append_right _ hr),
   fun r hr b hb => by
    rcases List.mem_cons.1 hr with rfl | hr
    · obtain ⟨s, hs, hb⟩ := hb; exact h.away s (List.mem_append_left _ hs) b hb
    · exact h.away r (List.mem_append_right _ hr) b hb,
   List.pairwise_cons.2 ⟨fun s hs b hb hc => by
    obtain ⟨r, hr, hb⟩ := hb
    exact (List.pairwise_append.1 h.apart).2.2 r hr s hs b hb hc, (List.pairwise_append.1 h.apart).2.1⟩⟩
theorem Own.unjoin {w R G} {L : List Res} (h : Own w R (.join L :: G)) : Own w R (L ++ G) :=
  have hj : (∀ r ∈ L, r.holds w) ∧ L.Pairwise fun r s => ∀ b, r.foot b → ¬ s.foot b := h.holds _ (.head _)
  have hp := List.pairwise_cons.1 h.apart
  ⟨h.os, h.tape, h.output, h.ro, fun r hr => by
    rcases List.mem_append.1 hr with hr | hr
    · exact hj.1 r hr
    · exact h.holds r (.tail _ hr),
   fun r hr b hb => by
    rcases List.mem_append.1 hr with hr | hr
    · exact h.away _ (.head _) b ⟨r, hr, hb⟩
    · exact h.away r (.tail _ hr) b hb,
   List.pairwise_append.2 ⟨hj.2, hp.2, fun r hr s hs b hb hc => hp.1 s hs b ⟨r, hr, hb⟩ hc⟩⟩

structure YieldOk {α σ : Type} (P : Program) (R0 : RO) (L : Nat) (k : Kd α) (St : σ → Res) (visit : α → σ → σ) : Prop where
  run : ∀ {R : RO} {G : List Res} {w : World} {x : α} {cs : List Value} (s : σ), R0.le R → k.rep R x cs → Own w R (St s :: G) →
    YieldAt .wide 0 P L #[.agg cs.toArray] w (gZ R G fun v R' L' => v = .bool true ∧ L' = [St (visit x s)])

theorem YieldOk.mono {α σ : Type} {P : Program} {R R' : RO} {L : Nat} {k : Kd α} {St : σ → Res} {visit : α → σ → σ} (h : YieldOk P R L k St visit) (hle : R.le R') : YieldOk P R' L k St visit := ⟨fun s h0 h1 h2 => h.run s (hle.trans h0) h1 h2⟩
theorem nP {n : Nat} {D : List Deferred} {env : List (Nat × Value)} {a : Act} {x : Operand} {xs : List Operand} {vs : List Value} {L dst ty pos af at_} (ha : Env n D env a) (hx : ev env x = some (.func (.yield L) #[] #[])) (hv : evs env xs = some vs) :
    (execOp a.eval ⟨dst, .call { callee := .value x, args := xs.toArray, argTypes := at_ }, ty, pos, af, none⟩) = Instr.yield L vs.toArray := by
  have e : xs.toArray.map a.eval = vs.toArray := by rw [← aH ha hv]; simp
  simp [execOp, resolve, e, ha.eval hx, Deferred.ofValue, invoke]

section
variable {P : Program} {ρ : Option Nat} {n : Nat} {D : List Deferred} {env env' : List (Nat × Value)} {R : RO} {G G' : List Res} {Q : Exit → Act → World → Prop} {ops : Array Oper} {rest : List Oper} {o : Oper}

theorem qI1 {c : Code} (h : TCr none P c Q n D env R G) : TC P c Q n D env R G := fun a w ha hw => wpIn_wide.1 (h a w ha hw)
theorem tcr_of_tc {c : Code} (h : TC P c Q n D env R G) : TCr none P c Q n D env R G := fun a w ha hw => wpIn_wide.2 (h a w ha hw)
theorem yV {i : Nat} {l : List Oper} (h : TLr ρ P l.toArray Q l n D env R G) : TCr ρ P (.region i l.toArray false) Q n D env R G := fun a w ha hw => wpIn_region_lit (h a w ha hw)
theorem mI {x y : Code} (h : TCr ρ P x (Exit.then (y.wpIn (FW ρ) 0 P Q) Q) n D env R G) : TCr ρ P (.seq x y) Q n D env R G := fun a w ha hw => wpIn_seq (h a w ha hw)
theorem nQ {i : Nat} {c : Code} (h : TCr ρ P c (Exit.inBlock i Q) n D env R G) : TCr ρ P (.block i c) Q n D env R G := fun a w ha hw => wpIn_block (h a w ha hw)
theorem qA5 (h : TX Q .normal n D env R G) : TCr ρ P .skip Q n D env R G := fun a w ha hw => wpIn_skip (h a w ha hw)
theorem cM {y : Code} {Q' : Exit → Act → World → Prop} (h : TCr ρ P y Q n D env R G) : TX (Exit.then (y.wpIn (FW ρ) 0 P Q) Q') .normal n D env R G := h
theorem fC {c : Operand} {x y : Code} {t : Bool} (hc : ev env c = some (.bool t)) (ht : t = true → TCr ρ P x Q n D env R G) (hf : t = false → TCr ρ P y Q n D env R G) : TCr ρ P (.cond c x y) Q n D env R G :=
  fun a w ha hw => wpIn_cond_split (ha.eval hc) (fun h => ht h a w ha hw) (fun h => hf h a w ha hw)
theorem tV (h : TX Q .normal n D env R G) : TLr ρ P ops Q [] n D env R G := fun a w ha hw => h a w ha hw
theorem tlr_G (G') (h : ∀ w, Own w R G → Own w R G') (k : TLr ρ P ops Q rest n D env R G') : TLr ρ P ops Q rest n D env R G := fun a w ha hw => k a w ha (h w hw)
theorem wW (h : TLr ρ P ops Q rest n D env R G) : TX (onR ρ P ops Q rest) .normal n D env R G := h

theorem vE (hg : qI0 o = true) (hgd : o.guard.isNone = true) (h : TL P ops (onR ρ P ops Q rest) [o] n D env R G) : TLr ρ P ops Q (o :: rest) n D env R G := fun a w ha hw => by
  have h1 := h a w ha hw
  have hd : ∀ c, o.op ≠ .defer c := fun c e => by unfold qI0 at hg; rw [e] at hg; cases hg
  have hwt : Region.wanted o (yielded ops a.tmps) = true := by
    cases hq : o.guard with
    | none => simp [Region.wanted, hq]
    | some q => rw [hq] at hgd; cases hgd
  unfold wpList at h1
  unfold wpListIn
  rw [if_pos hwt] at h1 ⊢
  rcases h1 with h1 | ⟨_, hlets⟩
  · refine ⟨fun _ _ => trivial, ?_⟩
    have hs : Oper.semAt (FW ρ).round a.eval o = execOp a.eval o := Oper.semAt_eq _ _ _ hd
    rw [hs]
    unfold Oper.wp at h1
    generalize (execOp a.eval o).run P w = r at h1 ⊢
    cases r with
    | ok x w' =>
      cases x <;> simp only [Oper.upon, Oper.uponIn] at h1 ⊢ <;> first | exact h1 | exact h1.elim | skip
      · rename_i f args
        refine ⟨fun h => (by cases h), ?_⟩
        refine callsIn_wide.2 (h1.mono ?_)
        intro e w'' h2
        cases e
        · exact h2
        · exact h2.elim
        · obtain ⟨_, _, h3⟩ := h2; exact h3.elim
      · rename_i row args
        refine ⟨fun h => (by cases h), fun c cs _ => ?_⟩
        obtain ⟨v, w'', h2, h3⟩ := h1 c cs
        exact ⟨v, w'', h2, stepsIn_wide.2 h3⟩
    | halt x w' => cases x <;> simp only [Oper.upon, Oper.uponIn] at h1 ⊢ <;> first | exact h1 | exact h1.elim
  · obtain ⟨a1, w1, h2⟩ := hlets
    exact h2.elim

theorem qI2 {L d ty pos af at_ x xs vs} {φ : Value → RO → List Res → Prop} {G1 : List Res} (hx : ev env x = some (.func (.yield L) #[] #[])) (hv : evs env xs = some vs) (hk : ∀ w, Own w R G → YieldAt .wide 0 P L vs.toArray w (gZ R G1 φ)) (hn : Nat.blt d n = true)
    (k : ∀ v R' L', R.le R' → φ v R' L' → TLr none P ops Q rest n D ((d, v) :: env) R' (L' ++ G1)) : TLr none P ops Q (⟨some d, .call { callee := .value x, args := xs.toArray, argTypes := at_ }, ty, pos, af, none⟩ :: rest) n D env R G := fun a w ha hw => by
  refine wpListIn_plain rfl fun K hK => ?_
  refine ⟨fun _ _ => trivial, ?_⟩
  obtain ⟨fn, tmps, assign, body, hr, hround⟩ := hk w hw
  have hs : Oper.semAt (FW none).round a.eval ⟨some d, .call { callee := .value x, args := xs.toArray, argTypes := at_ }, ty, pos, af, none⟩ = Instr.yield L vs.toArray := nP ha hx hv
  rw [hs, hr]
  refine ⟨fun h => (by cases h), hround.mono ?_⟩
  rintro e w' ⟨v, R', L', rfl, hle, ho, hp⟩
  exact hK _ _ (k v R' L' hle hp _ _ (ha.put (Nat.le_of_ble_eq_true hn)) ho)

theorem Own.putObj {w : World} {l : Nat} {o o' : Obj} (h : Own w R (.raw l o :: G)) : Own (w.putObj l o') R (.raw l o' :: G) := by
  have hh : w.heap[l]? = some o := h.holds _ (.head _)
  exact Own.step h rfl rfl rfl (fun b _ hb => World.putObj_heap_other (fun e => hb e)) (World.putObj_heap_same (zV hh)) fun b hb => .inl hb

theorem perm2 (u v : Res) (l m : List Res) : (u :: v :: (l ++ m)).Perm (l ++ (u :: v :: m)) := by
  have := (List.perm_append_comm (l₁ := [u, v]) (l₂ := l)).append_right m
  simpa using this

theorem tc_range {α σ Z : Type} {κ : Kd α} {g : Operand} {p : Nat} {assign body : Code} {f : FuncId} {caps : List Value} (Gm : σ → List Res) (visit : α → σ → σ) (fin : σ → σ) (s0 : σ) (G0 : List Res) (envA : Z → List Value → List (Nat × Value)) (GA : Z → List Value → σ → List Res)
    (hg : ev env g = some (.func (.func f) #[] caps.toArray)) (hc : Callable P f) (hp : Nat.blt p n = true) (hG : ∀ w, Own w R G → Own w R (Gm s0 ++ G0))
    (hassign : ∀ (l : Nat) (R' : RO) (s : σ) (x : α) (cs : List Value) (G1 : List Res) (K : Exit → Act → World → Prop), R.le R' → κ.rep R' x cs → (∀ z a w R'', R'.le R'' → Env n [] (envA z cs) a → Own w R'' (GA z cs s ++ G1) → K .normal a w) → TCr (some l) P assign K n [] ((p, .agg cs.toArray) :: env) R' (Gm s ++ G1))
    (hbody : ∀ (z : Z) (l : Nat) (R' : RO) (s : σ) (x : α) (cs : List Value) (G1 : List Res) (K : Exit → Act → World → Prop), R.le R' → κ.rep R' x cs → (∀ a w R'', R'.le R'' → Own w R'' (Gm (visit x s) ++ G1) → K .normal a w) → TCr (some l) P body K n [] (envA z cs) R' (GA z cs s ++ G1))
    (hcall : ∀ (L : Nat) (St : σ → Res), YieldOk P R L κ St visit → ∀ w, Own w R (St s0 :: G0) → Calls P f ((Value.func (.yield L) #[] #[]) :: caps).toArray w (gZ R G0 fun _ _ L' => L' = [St (fin s0)]))
    (k : ∀ B R', R.le R' → TX Q .normal n ({ target := .collected B, args := #[] } :: D) env R' (.raw B (.deferred (some [])) :: (Gm (fin s0) ++ G0))) : TC P (.rangeFunc g #[p] assign body) Q n D env R G := by
  intro a w ha hw
  refine (wpIn_wide (n := 0)).1 (wpIn_rangeFunc fun fn _ => ?_)
  obtain ⟨rec, hrec⟩ : ∃ rec : LoopState → Loop, rec = fun st => { state := st, pending := none, fn, tmps := a.tmps, params := #[p], assign, body, defers := w.heap.size } := ⟨_, rfl⟩
  obtain ⟨W1, hW1⟩ : ∃ W1, (w.alloc (.deferred (some []))).alloc (.loop (rec .ready)) = W1 := ⟨_, rfl⟩
  have h1 : Own W1 R (.raw (w.heap.size + 1) (.loop (rec .ready)) :: .raw w.heap.size (.deferred (some [])) :: (Gm s0 ++ G0)) := by
    have a1 : Own (w.alloc (.deferred (some []))) R (.raw w.heap.size (.deferred (some [])) :: (Gm s0 ++ G0)) :=
      (hG w hw).new rfl rfl rfl (fun b hb => heap_alloc_old w _ hb) (World.alloc_heap_new w _) fun b hb => by have : b = w.heap.size := hb; omega
    rw [← hW1]
    have hs : (w.alloc (.deferred (some []))).heap.size = w.heap.size + 1 := by simp
    exact a1.new rfl rfl rfl (fun b hb => heap_alloc_old _ _ hb) (by have := World.alloc_heap_new (w.alloc (.deferred (some []))) (.loop (rec .ready)); rw [hs] at this; exact this) fun b hb => by have : b = w.heap.size + 1 := hb; omega
  refine ⟨w.heap.size + 1, [{ target := .collected w.heap.size, args := #[] }], W1, { target := .fn (.func f) caps.toArray, args := #[.func (.yield (w.heap.size + 1)) #[] #[]] }, W1, f,
    ((Value.func (.yield (w.heap.size + 1)) #[] #[]) :: caps).toArray, W1, ?_, ?_, fun _ _ => trivial, ?_, fun h => (by cases h), ?_⟩
  · rw [← hW1, hrec]; exact run_enterLoop_outer _ _ _ _ _
  · have e1 := ha.eval hg
    simp only [resolve, rangeCall, e1, Deferred.ofValue]
    simp [go_sem, Act.eval]
  · have := sS (P := P) (w := W1) (args := #[.func (.yield (w.heap.size + 1)) #[] #[]] ++ caps.toArray) hc
    simpa [invoke] using this
  · refine callsIn_wide.2 ?_
    have hy : YieldOk P R (w.heap.size + 1) κ (fun s => .join (.raw (w.heap.size + 1) (.loop (rec .ready)) :: .raw w.heap.size (.deferred (some [])) :: Gm s)) visit := by
      refine ⟨?_⟩
      intro R0 G' w0 x cs s hle0 hr ho
      have h2 : Own w0 R0 (.raw (w.heap.size + 1) (.loop (rec .ready)) :: .raw w.heap.size (.deferred (some [])) :: (Gm s ++ G')) := Own.unjoin ho
      have hl : w0.heap[w.heap.size + 1]? = some (.loop (rec .ready)) := h2.holds _ (.head _)
      have hyr : (Instr.yield (w.heap.size + 1) #[.agg cs.toArray]).run P w0 = .ok (.round (w.heap.size + 1) fn (a.tmps.setIfInBounds p (.agg cs.toArray)) assign body) w0 := by
        have := run_yield (P := P) (args := #[.agg cs.toArray]) hl (by rw [hrec]; rfl)
        rw [hrec] at this; simpa using this
      refine ⟨fn, _, assign, body, hyr, roundIn_of_wpIn (F := Fence.wide) trivial ?_⟩
      have hp' := Nat.le_of_ble_eq_true hp
      have henv : Env n [] ((p, .agg cs.toArray) :: env) { tmps := a.tmps.setIfInBounds p (.agg cs.toArray), defers := [] } :=
        Env.put (a := { tmps := a.tmps, defers := [] }) ⟨ha.size, rfl, ha.get⟩ hp'
      have h3 : Own w0 R0 (Gm s ++ (.raw (w.heap.size + 1) (.loop (rec .ready)) :: .raw w.heap.size (.deferred (some [])) :: G')) := h2.perm (by
        exact perm2 _ _ _ _)
      have hback : ∀ {w1 : World} {R1 : RO} {o : Obj} {l : List Res}, Own w1 R1 (l ++ (.raw (w.heap.size + 1) o :: .raw w.heap.size (.deferred (some [])) :: G')) → Own w1 R1 (.raw (w.heap.size + 1) o :: .raw w.heap.size (.deferred (some [])) :: (l ++ G')) := fun h => h.perm (perm2 _ _ _ _).symm
      refine hassign (w.heap.size + 1) R0 s x cs _ _ hle0 hr (fun z a1 w1 R1 hle1 he1 ho1 => ?_) _ _ henv h3
      have hb1 := hback ho1
      have hl1 : w1.heap[w.heap.size + 1]? = some (.loop (rec .ready)) := hb1.holds _ (.head _)
      refine ⟨_, run_beginRound hl1 (by rw [hrec]), ?_⟩
      have hb2 : Own _ R1 (.raw (w.heap.size + 1) (.loop { rec .ready with state := .busy }) :: .raw w.heap.size (.deferred (some [])) :: (GA z cs s ++ G')) := Own.putObj hb1
      refine hbody z (w.heap.size + 1) R1 s x cs _ _ (hle0.trans hle1) (κ.mono _ _ _ _ hle1 hr) (fun a2 w2 R2 hle2 ho2 => ?_) _ _ he1 (hb2.perm (perm2 _ _ _ _))
      have hb3 := hback ho2
      have hl3 : w2.heap[w.heap.size + 1]? = some (.loop { rec .ready with state := .busy }) := hb3.holds _ (.head _)
      refine ⟨_, _, run_endRound none hl3, _, R2, [_], rfl, hle1.trans hle2, ?_, rfl, rfl⟩
      have e4 : ({ { rec .ready with state := .busy } with state := if (none : Option Code).isNone then .ready else .done, pending := none } : Loop) = rec .ready := by rw [hrec]; rfl
      rw [e4]
      have hb4 : Own (w2.putObj (w.heap.size + 1) (.loop (rec .ready))) R2 (.raw (w.heap.size + 1) (.loop (rec .ready)) :: .raw w.heap.size (.deferred (some [])) :: (Gm (visit x s) ++ G')) := Own.putObj hb3
      exact Own.join (L := .raw (w.heap.size + 1) (.loop (rec .ready)) :: .raw w.heap.size (.deferred (some [])) :: Gm (visit x s)) hb4
    refine (hcall (w.heap.size + 1) _ hy W1 (Own.join (L := .raw (w.heap.size + 1) (.loop (rec .ready)) :: .raw w.heap.size (.deferred (some [])) :: Gm s0) h1)).mono ?_
    rintro e w' ⟨v, R', L', rfl, hle, ho, rfl⟩
    have h2 : Own w' R' (.raw (w.heap.size + 1) (.loop (rec .ready)) :: .raw w.heap.size (.deferred (some [])) :: (Gm (fin s0) ++ G0)) := Own.unjoin ho
    have hl : w'.heap[w.heap.size + 1]? = some (.loop (rec .ready)) := h2.holds _ (.head _)
    refine ⟨none, _, by have := run_endLoop (P := P) hl (by rw [hrec]; simp); rw [hrec] at this; exact this, ?_⟩
    exact k _ R' hle _ _ ⟨ha.size, by show _ ++ a.defers = _; rw [ha.defers]; rfl, ha.get⟩ (Own.putObj (o' := _) (by rw [hrec] at h2; exact h2)).tail

theorem qI3 {f : FuncId} {fn : Func} {c : Code} {vs : List Value} {w : World} {Rp : Ending → World → Prop} (hf : P.funcs[f]? = some fn) (hb : fn.body = some c) (hn : fn.ntmps = n) (hl : Nat.ble vs.length n = true)
    (h : TC P c (bodyPostM .wide 0 P fn Rp) n [] (qE2 0 vs) R G) (hw : Own w R G) : Calls P f vs.toArray w Rp := by
  refine (callsIn_wide (n := 0)).1 (callsIn_of_wp_marks hf hb trivial ((wpIn_wide (n := 0)).2 (h _ w ⟨?_, rfl, fun t v e => ?_⟩ hw)))
  · have := Nat.le_of_ble_eq_true hl
    simp [hn]; omega
  · obtain ⟨j, rfl, hj⟩ := mL vs 0 t v e
    have hlt : j < vs.length := (List.getElem?_eq_some_iff.1 hj).1
    simp only [Nat.zero_add]
    rw [Array.getElem?_append_left (by simpa using hlt)]
    simpa using hj
theorem tx_ret0M {fn : Func} {Rp : Ending → World → Prop} {B : Nat} {e : Exit} (he : e = .ret ∨ e = .normal) (hr : fn.results = #[]) (h : ∀ w, Own w R G → Rp (.returned (.tuple #[])) w) : TX (bodyPostM .wide 0 P fn Rp) e n [{ target := .collected B, args := #[] }] env R (.raw B (.deferred (some [])) :: G) := by
  intro a w ha hw
  have hb : w.heap[B]? = some (.deferred (some [])) := hw.holds _ (.head _)
  have : LeavesInM .wide 0 P fn a.tmps Rp a.defers .returning w := by
    rw [ha.defers]
    refine ⟨by simp, .inl ⟨B, _, rfl, run_takeDeferred hb, ?_⟩⟩
    exact ⟨_, results_none hr _ _ _, h _ (Own.putObj (o' := .deferred none) hw).tail⟩
  rcases he with rfl | rfl <;> exact this
theorem qI4 {fn : Func} {Rp : Ending → World → Prop} {t u x y : Nat} {v v' v'' v3 : Value} {e : Exit} (he : e = .ret ∨ e = .normal) (hr : fn.results = #[.tmp t, .tmp u, .tmp x, .tmp y]) (hv : lk env t = some v) (hv' : lk env u = some v') (hv'' : lk env x = some v'') (hv3 : lk env y = some v3) (h : ∀ w, Own w R G → Rp (.returned (.tuple #[v, v', v'', v3])) w) : TX (bodyPost P fn Rp) e n [] env R G := by
  intro a w ha hw
  have : (results fn a.tmps).run P w = .ok (.tuple #[v, v', v'', v3]) w := by
    simp [results, hr, ha.get _ _ hv, ha.get _ _ hv', ha.get _ _ hv'', ha.get _ _ hv3]
  rcases he with rfl | rfl <;> exact ⟨ha.defers, _, this, h w hw⟩
end
end Go.Proofs.YtcbcdlajnmkioaaGreatDoor
