/- A part of the proof of the statement ModuleModules of isagogelaw19: rules by which code is walked. -/
import Derived.Tactics
import Derived.Below
import Derived.KernelRfl
import Derived.WalkKit
import Derived.Laws.AppendOwn
import Derived.Deep.Quiet
import Derived.StillTail
import Derived.Laws.MakeOwn
namespace Go.Proofs.YtcbcdlajnmkioaaGreatDoor
open Go


structure RO where
  os : Os
  tape : Nat → Question → Nat
  output : Array (Nat × ByteArray)
  heap : Nat → Option Obj

structure RO.le (R R' : RO) : Prop where
  os : R'.os = R.os
  tape : R'.tape = R.tape
  output : R'.output = R.output
  heap : ∀ b o, R.heap b = some o → R'.heap b = some o

theorem RO.le.refl (R : RO) : R.le R := ⟨rfl, rfl, rfl, fun _ _ h => h⟩
theorem RO.le.trans {R S T : RO} (h : R.le S) (k : S.le T) : R.le T :=
  ⟨k.os.trans h.os, k.tape.trans h.tape, k.output.trans h.output, fun b o e => k.heap b o (h.heap b o e)⟩

structure Aside (p : Prop) : Prop where
  out : p

structure Res where
  foot : Nat → Prop
  holds : World → Prop
  loc : ∀ w w' : World, (∀ b, foot b → w'.heap[b]? = w.heap[b]?) → holds w → holds w'
  lt : ∀ w : World, holds w → ∀ b, foot b → b < w.heap.size

def Res.emp : Res := ⟨fun _ => False, fun _ => True, fun _ _ _ h => h, fun _ _ _ h => h.elim⟩

theorem zV {w : World} {b : Nat} {o : Obj} (h : w.heap[b]? = some o) : b < w.heap.size := (Array.getElem?_eq_some_iff.1 h).1

def Res.blk (b : Nat) (l : List Value) (T : TypeId) : Res :=
  ⟨fun x => x = b, fun w => w.heap[b]? = some (.cells l.toArray T (0, 0)),
   fun _ _ h k => (h b rfl).trans k, fun _ h _ e => e ▸ zV h⟩

def Res.raw (b : Nat) (o : Obj) : Res :=
  ⟨fun x => x = b, fun w => w.heap[b]? = some o, fun _ _ h k => (h b rfl).trans k, fun _ h _ e => e ▸ zV h⟩

structure Own (w : World) (R : RO) (G : List Res) : Prop where
  os : w.os = R.os
  tape : w.tape = R.tape
  output : w.output = R.output
  ro : ∀ b o, R.heap b = some o → w.heap[b]? = some o
  holds : ∀ r ∈ G, r.holds w
  away : ∀ r ∈ G, ∀ b, r.foot b → R.heap b = none
  apart : G.Pairwise fun r s => ∀ b, r.foot b → ¬ s.foot b

theorem Own.emp {w R G} (h : Own w R G) : Own w R (.emp :: G) :=
  ⟨h.os, h.tape, h.output, h.ro, fun r hr => by rcases List.mem_cons.1 hr with rfl | hr; exact trivial; exact h.holds r hr,
   fun r hr => by rcases List.mem_cons.1 hr with rfl | hr; exact fun _ k => k.elim; exact h.away r hr,
   List.pairwise_cons.2 ⟨fun _ _ _ k => k.elim, h.apart⟩⟩

theorem Own.tail {w R r G} (h : Own w R (r :: G)) : Own w R G :=
  ⟨h.os, h.tape, h.output, h.ro, fun r hr => h.holds r (.tail _ hr), fun r hr => h.away r (.tail _ hr), (List.pairwise_cons.1 h.apart).2⟩

theorem Own.drop {w R G} (h : Own w R G) : ∀ k, Own w R (G.drop k)
  | 0 => h
  | k + 1 => by
    cases G with
    | nil => simpa using h
    | cons r G => simpa using (Own.tail h).drop k

theorem Own.perm {w R G G'} (h : Own w R G) (p : G.Perm G') : Own w R G' :=
  ⟨h.os, h.tape, h.output, h.ro, fun r hr => h.holds r (p.mem_iff.2 hr), fun r hr => h.away r (p.mem_iff.2 hr),
   (p.pairwise_iff fun k b hb hc => k b hc hb).1 h.apart⟩

def pick (k : Nat) (G : List Res) : List Res := match G[k]? with
  | some r => r :: G.eraseIdx k
  | none => G

theorem wU : ∀ (k : Nat) (G : List Res), G.Perm (pick k G)
  | _, [] => by simp [pick]
  | 0, r :: G => by simp [pick]
  | k + 1, r :: G => by
    have ih := wU k G
    unfold pick at ih ⊢
    simp only [List.getElem?_cons_succ, List.eraseIdx_cons_succ]
    cases h : G[k]? with
    | none => exact List.Perm.refl _
    | some s =>
      simp only [h] at ih
      exact (List.Perm.cons r ih).trans (List.Perm.swap s r _)

theorem Own.weaken {w R R' G} (h : Own w R' G) (k : R.le R') : Own w R G :=
  ⟨h.os.trans k.os, h.tape.trans k.tape, h.output.trans k.output, fun b o e => h.ro b o (k.heap b o e), h.holds,
   fun r hr b hb => (by
    have := h.away r hr b hb
    cases e : R.heap b with
    | none => rfl
    | some o => rw [k.heap b o e] at this; cases this), h.apart⟩

theorem Own.step {w w' : World} {R G} {r r' : Res} (h : Own w R (r :: G)) (hos : w'.os = w.os) (htape : w'.tape = w.tape) (hout : w'.output = w.output)
    (hsame : ∀ b, b < w.heap.size → ¬ r.foot b → w'.heap[b]? = w.heap[b]?) (hold : r'.holds w') (hfoot : ∀ b, r'.foot b → r.foot b ∨ w.heap.size ≤ b) : Own w' R (r' :: G) := by
  have hr := h.away r (.head _)
  have hpw := List.pairwise_cons.1 h.apart
  refine ⟨hos.trans h.os, htape.trans h.tape, hout.trans h.output, fun b o e => ?_, fun s hs => ?_, fun s hs b hb => ?_, List.pairwise_cons.2 ⟨fun s hs b hb hc => ?_, hpw.2⟩⟩
  · have h1 := h.ro b o e
    rw [hsame b (zV h1) fun k => by rw [hr b k] at e; cases e]; exact h1
  · rcases List.mem_cons.1 hs with rfl | hs
    · exact hold
    · exact s.loc w w' (fun b hb => hsame b (s.lt w (h.holds s (.tail _ hs)) b hb) fun k => hpw.1 s hs b k hb) (h.holds s (.tail _ hs))
  · rcases List.mem_cons.1 hs with rfl | hs
    · rcases hfoot b hb with k | k
      · exact hr b k
      · cases e : R.heap b with
        | none => rfl
        | some o => have := zV (h.ro b o e); omega
    · exact h.away s (.tail _ hs) b hb
  · rcases hfoot b hb with k | k
    · exact hpw.1 s hs b k hc
    · have := s.lt w (h.holds s (.tail _ hs)) b hc; omega

theorem Own.drew {w R G} (h : Own w R G) (n : Nat) : Own { w with drawn := n } R G :=
  ⟨h.os, h.tape, h.output, h.ro, fun r hr => r.loc w _ (fun _ _ => rfl) (h.holds r hr), h.away, h.apart⟩

def RO.add (R : RO) (b : Nat) (o : Obj) : RO := { R with heap := fun x => if x = b then some o else R.heap x }

theorem RO.le_add {R : RO} {b : Nat} {o : Obj} (h : R.heap b = none) : R.le (R.add b o) :=
  ⟨rfl, rfl, rfl, fun x p e => by
    show (if x = b then some o else R.heap x) = some p
    by_cases k : x = b
    · subst k; rw [h] at e; cases e
    · rw [if_neg k]; exact e⟩

theorem Own.retire {w R G b l T} (h : Own w R (.blk b l T :: G)) : R.le (R.add b (.cells l.toArray T (0, 0))) ∧ Own w (R.add b (.cells l.toArray T (0, 0))) G := by
  have h0 : R.heap b = none := h.away _ (.head _) b rfl
  have hh : w.heap[b]? = some (.cells l.toArray T (0, 0)) := h.holds _ (.head _)
  refine ⟨RO.le_add h0, h.os, h.tape, h.output, fun x o e => ?_, h.tail.holds, fun r hr x hx => ?_, h.tail.apart⟩
  · have e : (if x = b then some (Obj.cells l.toArray T (0, 0)) else R.heap x) = some o := e
    by_cases k : x = b
    · subst k; rw [if_pos rfl] at e; rw [← e]; exact hh
    · rw [if_neg k] at e; exact h.ro x o e
  · show (if x = b then some (Obj.cells l.toArray T (0, 0)) else R.heap x) = none
    rw [if_neg fun k : x = b => (List.pairwise_cons.1 h.apart).1 r hr b rfl (k ▸ hx)]
    exact h.tail.away r hr x hx


def lk : List (Nat × Value) → Nat → Option Value
  | [], _ => none
  | (s, v) :: e, t => match Nat.beq s t with
    | true => some v
    | false => lk e t

structure Env (n : Nat) (D : List Deferred) (env : List (Nat × Value)) (a : Act) : Prop where
  size : a.tmps.size = n
  defers : a.defers = D
  get : ∀ t v, lk env t = some v → a.tmps[t]? = some v

theorem yT {s t : Nat} {v : Value} {e} (h : s ≠ t) : lk ((s, v) :: e) t = lk e t := by
  have : Nat.beq s t = false := by
    cases hb : Nat.beq s t with
    | false => rfl
    | true => exact absurd (Nat.eq_of_beq_eq_true hb) h
  simp [lk, this]

theorem yU {t : Nat} {v : Value} {e} : lk ((t, v) :: e) t = some v := by
  simp [lk]

theorem Env.put {n D env a d v} (h : Env n D env a) (hd : d < n) : Env n D ((d, v) :: env) (a.put (some d) v) := by
  refine ⟨by simp [Act.put, h.size], h.defers, fun t u e => ?_⟩
  by_cases k : d = t
  · subst k
    rw [yU] at e
    cases e
    simp [Act.put, h.size, hd]
  · rw [yT k] at e
    simp only [Act.put]
    rw [Array.getElem?_setIfInBounds_ne k]
    exact h.get t u e

theorem Env.putNone {n D env a v} (h : Env n D env a) : Env n D env (a.put none v) := h

theorem Env.sub {n D env env' a} (h : Env n D env a) (k : ∀ t v, lk env' t = some v → lk env t = some v) : Env n D env' a :=
  ⟨h.size, h.defers, fun t v e => h.get t v (k t v e)⟩

def lA (env : List (Nat × Value)) : List (Nat × Value) → Prop
  | [] => True
  | (t, v) :: e => lk env t = some v ∧ lA env e

theorem xL {env} : ∀ {env'}, lA env env' → ∀ t v, lk env' t = some v → lk env t = some v
  | [], _, _, _, e => by cases e
  | (s, u) :: env', h, t, v, e => by
    by_cases k : s = t
    · subst k; rw [yU] at e; cases e; exact h.1
    · rw [yT k] at e; exact xL h.2 t v e

def ev (env : List (Nat × Value)) : Operand → Option Value
  | .tmp t => lk env t
  | .const v => some v
  | .global g => some (.pointer (some ⟨g, 0, none⟩))
  | .func f => some (.func (.func f) #[] #[])

theorem Env.eval {n D env a} (h : Env n D env a) {x : Operand} {v : Value} (e : ev env x = some v) : a.eval x = v := by
  cases x with
  | tmp t =>
    have := h.get t v e
    simp [Act.eval, this]
  | const u => simpa [ev, Act.eval] using e
  | global g => simpa [ev, Act.eval] using e
  | func f => simpa [ev, Act.eval] using e


section
variable (P : Program)

def TX (Q : Exit → Act → World → Prop) (e : Exit) (n : Nat) (D : List Deferred) (env : List (Nat × Value)) (R : RO) (G : List Res) : Prop :=
  ∀ a w, Env n D env a → Own w R G → Q e a w
def TL (ops : Array Oper) (Q : Exit → Act → World → Prop) (rest : List Oper) (n : Nat) (D : List Deferred) (env : List (Nat × Value)) (R : RO) (G : List Res) : Prop :=
  ∀ a w, Env n D env a → Own w R G → wpList P ops Q rest a w
def TC (c : Code) (Q : Exit → Act → World → Prop) (n : Nat) (D : List Deferred) (env : List (Nat × Value)) (R : RO) (G : List Res) : Prop :=
  ∀ a w, Env n D env a → Own w R G → c.wp P Q a w
end

section
variable {P : Program} {n : Nat} {D : List Deferred} {env env' : List (Nat × Value)} {R : RO} {G G' : List Res} {Q : Exit → Act → World → Prop} {ops : Array Oper} {rest : List Oper} {o : Oper}

theorem qE {x y : Code} (h : TC P x (Exit.then (y.wp P Q) Q) n D env R G) : TC P (.seq x y) Q n D env R G := fun a w ha hw => wp_seq (h a w ha hw)
theorem qX {i : Nat} {c : Code} (h : TC P c (Exit.inBlock i Q) n D env R G) : TC P (.block i c) Q n D env R G := fun a w ha hw => wp_block (h a w ha hw)
theorem qZ (h : TX Q .normal n D env R G) : TC P .skip Q n D env R G := fun a w ha hw => wp_skip (h a w ha hw)
theorem jE {i : Nat} (h : TX Q (.exit i) n D env R G) : TC P (.exit i) Q n D env R G := fun a w ha hw => wp_exit (h a w ha hw)
theorem qV (h : TX Q .ret n D env R G) : TC P .ret Q n D env R G := fun a w ha hw => wp_ret (h a w ha hw)
theorem qA {i : Nat} {l : List Oper} (h : TL P l.toArray Q l n D env R G) : TC P (.region i l.toArray false) Q n D env R G := fun a w ha hw => wp_region_lit (h a w ha hw)
theorem rE {c : Operand} {x y : Code} {t : Bool} (hc : ev env c = some (.bool t)) (ht : t = true → TC P x Q n D env R G) (hf : t = false → TC P y Q n D env R G) : TC P (.cond c x y) Q n D env R G :=
  fun a w ha hw => wp_cond_split (ha.eval hc) (fun h => ht h a w ha hw) (fun h => hf h a w ha hw)
theorem tc_if {c : Operand} {x y : Code} {p : Prop} [Decidable p] (hc : ev env c = some (.bool (decide p))) (ht : p → TC P x Q n D env R G) (hf : ¬ p → TC P y Q n D env R G) : TC P (.cond c x y) Q n D env R G :=
  rE hc (fun h => ht (of_decide_eq_true h)) (fun h => hf (of_decide_eq_false h))
theorem xE {c : Operand} {x y : Code} (hc : ev env c = some (.bool true)) (h : TC P x Q n D env R G) : TC P (.cond c x y) Q n D env R G := rE hc (fun _ => h) (fun k => by cases k)
theorem xV {c : Operand} {x y : Code} (hc : ev env c = some (.bool false)) (h : TC P y Q n D env R G) : TC P (.cond c x y) Q n D env R G := rE hc (fun k => by cases k) (fun _ => h)

theorem qB (h : TX Q .normal n D env R G) : TL P ops Q [] n D env R G := fun a w ha hw => wpList_nil (h a w ha hw)

theorem qC {y : Code} {Q' : Exit → Act → World → Prop} (h : TC P y Q n D env R G) : TX (Exit.then (y.wp P Q) Q') .normal n D env R G := h
theorem qI {K : Act → World → Prop} (h : TX Q .ret n D env R G) : TX (Exit.then K Q) .ret n D env R G := h
theorem qK {K : Act → World → Prop} {i : Nat} (h : TX Q (.exit i) n D env R G) : TX (Exit.then K Q) (.exit i) n D env R G := h
theorem jC {i : Nat} (h : TX Q .normal n D env R G) : TX (Exit.inBlock i Q) .normal n D env R G := h
theorem qN {i : Nat} (h : TX Q .ret n D env R G) : TX (Exit.inBlock i Q) .ret n D env R G := h
theorem xG {i : Nat} (h : TX Q .normal n D env R G) : TX (Exit.inBlock i Q) (.exit i) n D env R G := fun a w ha hw => by
  show if i = i then _ else _
  rw [if_pos rfl]; exact h a w ha hw
theorem tx_blk_other {i j : Nat} (hne : j ≠ i) (h : TX Q (.exit j) n D env R G) : TX (Exit.inBlock i Q) (.exit j) n D env R G := fun a w ha hw => by
  show if j = i then _ else _
  rw [if_neg hne]; exact h a w ha hw

theorem tc_env {c : Code} (env') (he : lA env env') (h : TC P c Q n D env' R G) : TC P c Q n D env R G := fun a w ha hw => h a w (ha.sub (xL he)) hw
theorem lM (env') (he : lA env env') (h : TL P ops Q rest n D env' R G) : TL P ops Q rest n D env R G := fun a w ha hw => h a w (ha.sub (xL he)) hw
theorem tx_env {e : Exit} (env') (he : lA env env') (h : TX Q e n D env' R G) : TX Q e n D env R G := fun a w ha hw => h a w (ha.sub (xL he)) hw
theorem tl_pick (k : Nat) (h : TL P ops Q rest n D env R (pick k G)) : TL P ops Q rest n D env R G := fun a w ha hw => h a w ha (hw.perm (wU k G))
theorem tc_pick {c : Code} (k : Nat) (h : TC P c Q n D env R (pick k G)) : TC P c Q n D env R G := fun a w ha hw => h a w ha (hw.perm (wU k G))
theorem tx_pick {e : Exit} (k : Nat) (h : TX Q e n D env R (pick k G)) : TX Q e n D env R G := fun a w ha hw => h a w ha (hw.perm (wU k G))
theorem tc_drop {c : Code} (k : Nat) (h : TC P c Q n D env R (G.drop k)) : TC P c Q n D env R G := fun a w ha hw => h a w ha (hw.drop k)
theorem tx_drop {e : Exit} (k : Nat) (h : TX Q e n D env R (G.drop k)) : TX Q e n D env R G := fun a w ha hw => h a w ha (hw.drop k)

def eE (P : Program) (c : Code) (Q : Exit → Act → World → Prop) (a : Act) (w : World) : Prop :=
  ∀ (b : Frame) (k : List Item) (cs : List Frame), ∃ e a' w', Q e a' w' ∧ Arrives P (lone (b.at a (.code c :: .inLoop c :: k)) cs w) b k cs e a' w'
theorem mG {c : Code} {a : Act} {w : World} (h : c.wp P (Exit.then (eE P c Q) Q) a w) : eE P c Q a w := by
  intro b k cs
  obtain ⟨e, a₁, w₁, hq, harr⟩ := h b (.inLoop c :: k) cs
  cases e with
  | normal =>
    obtain ⟨e₂, a₂, w₂, hq₂, harr₂⟩ := hq b k cs
    exact ⟨e₂, a₂, w₂, hq₂, .of_steps (Steps.trans harr (.one step_inLoop)) harr₂⟩
  | exit id => exact ⟨_, a₁, w₁, hq, .pass (x := .inLoop c) rfl (fun _ _ => .inl (by simp)) harr⟩
  | goto l => exact ⟨_, a₁, w₁, hq, .pass (x := .inLoop c) rfl (fun _ _ => .inl (by simp)) harr⟩
  | ret => exact ⟨_, a₁, w₁, hq, .pass (x := .inLoop c) rfl (fun _ _ => .inl (by simp)) harr⟩
  | panic ch => exact ⟨_, a₁, w₁, hq, .pass (x := .inLoop c) rfl (fun _ _ => .inl (by simp)) harr⟩
  | outgrown => exact ⟨_, a₁, w₁, hq, .pass (x := .inLoop c) rfl (fun _ _ => .inl (by simp)) harr⟩
theorem qD7 {c : Code} {a : Act} {w : World} (h : eE P c Q a w) : (Code.loop c).wp P Q a w := fun b k cs =>
  let ⟨e, a', w', hq, harr⟩ := h b k cs
  ⟨e, a', w', hq, .of_steps (.one step_loop) harr⟩

def TH (P : Program) (c : Code) (Q : Exit → Act → World → Prop) (n : Nat) (D : List Deferred) (env : List (Nat × Value)) (R : RO) (G : List Res) : Prop :=
  ∀ a w, Env n D env a → Own w R G → eE P c Q a w
theorem jF {c : Code} (h : TH P c Q n D env R G) : TC P (.loop c) Q n D env R G := fun a w ha hw => qD7 (h a w ha hw)
theorem qA4 {c : Code} (h : TC P c (Exit.then (eE P c Q) Q) n D env R G) : TH P c Q n D env R G := fun a w ha hw => mG (h a w ha hw)
theorem xQ {c : Code} {Q' : Exit → Act → World → Prop} (h : TH P c Q n D env R G) : TX (Exit.then (eE P c Q) Q') .normal n D env R G := h
theorem th_env {c : Code} (env') (he : lA env env') (h : TH P c Q n D env' R G) : TH P c Q n D env R G := fun a w ha hw => h a w (ha.sub (xL he)) hw
theorem th_weaken {c : Code} {R' : RO} (k : R.le R') (h : TH P c Q n D env R G) : TH P c Q n D env R' G := fun a w ha hw => h a w ha (hw.weaken k)
theorem jH {c : Code} {R' : RO} (k : R.le R') (h : TC P c Q n D env R G) : TC P c Q n D env R' G := fun a w ha hw => h a w ha (hw.weaken k)

theorem vH {x y : Code} (env' : List (Nat × Value)) (G' : List Res) (J : RO → Prop)
    (h : ∀ K : Exit → Act → World → Prop, Aside (∀ a w R', R.le R' → J R' → Env n D env' a → Own w R' G' → K .normal a w) → Aside (∀ e a w, e ≠ .normal → Q e a w → K e a w) → TC P x K n D env R G)
    (k : ∀ R', R.le R' → J R' → TC P y Q n D env' R' G') : TC P (.seq x y) Q n D env R G :=
  qE (h _ ⟨fun a w R' hle hj ha hw => k R' hle hj a w ha hw⟩ ⟨fun e a w he hq => by
    cases e <;> first | exact absurd rfl he | exact hq⟩)
theorem xW {K : Exit → Act → World → Prop} {env' : List (Nat × Value)} {G' : List Res} {J : RO → Prop} {R0 : RO} (hK : Aside (∀ a w R', R0.le R' → J R' → Env n D env' a → Own w R' G' → K .normal a w))
    (hle : R0.le R) (hj : J R) (he : lA env env') (hg : ∀ w, Own w R G → Own w R G') : TX K .normal n D env R G := fun a w ha hw => hK.out a w R hle hj (ha.sub (xL he)) (hg w hw)
theorem tx_cut_exit {K : Exit → Act → World → Prop} {e : Exit} (hE : Aside (∀ e a w, e ≠ .normal → Q e a w → K e a w)) (he : e ≠ .normal) (h : TX Q e n D env R G) : TX K e n D env R G := fun a w ha hw => hE.out e a w he (h a w ha hw)

theorem jN {c : Code} {β : Type} (μ : β → Nat) (E : β → List (Nat × Value)) (Gs : β → List Res) (I : β → Prop) (b0 : β) (henv : lA env (E b0)) (hI : I b0) (hG : ∀ w, Own w R G → Own w R (Gs b0))
    (round : ∀ b, I b → Aside (∀ b', I b' → μ b' < μ b → TH P c Q n D (E b') R (Gs b')) → TC P c (Exit.then (eE P c Q) Q) n D (E b) R (Gs b)) : TH P c Q n D env R G := by
  have key : ∀ m b, I b → μ b = m → TH P c Q n D (E b) R (Gs b) := by
    intro m
    induction m using Nat.strongRecOn with
    | _ m ih =>
      intro b hI hm
      exact qA4 (round b hI ⟨fun b' hI' hlt => ih (μ b') (hm ▸ hlt) b' hI' rfl⟩)
  exact fun a w ha hw => key _ b0 hI rfl a w (ha.sub (xL henv)) (hG w hw)

theorem wD {c : Code} {β : Type} (μ : β → Nat) (E : β → List (Nat × Value)) (Gs : β → List Res) (I : β → RO → Prop) (b0 : β) (henv : lA env (E b0)) (hI : I b0 R) (hG : ∀ w, Own w R G → Own w R (Gs b0))
    (round : ∀ b R', R.le R' → I b R' → Aside (∀ b' R'', R'.le R'' → I b' R'' → μ b' < μ b → TH P c Q n D (E b') R'' (Gs b')) → TC P c (Exit.then (eE P c Q) Q) n D (E b) R' (Gs b)) : TH P c Q n D env R G := by
  have key : ∀ m b R', R.le R' → I b R' → μ b = m → TH P c Q n D (E b) R' (Gs b) := by
    intro m
    induction m using Nat.strongRecOn with
    | _ m ih =>
      intro b R' hle hI hm
      exact qA4 (round b R' hle hI ⟨fun b' R'' hle' hI' hlt => ih (μ b') (hm ▸ hlt) b' R'' (hle.trans hle') hI' rfl⟩)
  exact fun a w ha hw => key _ b0 R (.refl R) hI rfl a w (ha.sub (xL henv)) (hG w hw)
end


section
variable {P : Program} {n : Nat} {D : List Deferred} {env env' : List (Nat × Value)} {R : RO} {G G' : List Res} {Q : Exit → Act → World → Prop} {ops : Array Oper} {rest : List Oper} {o : Oper}


def VAL (P : Program) (n : Nat) (D : List Deferred) (env : List (Nat × Value)) (R : RO) (G : List Res) (o : Oper) (v : Value) : Prop :=
  ∀ a w, Env n D env a → Own w R G → (execOp a.eval o).run P w = .ok (.value v) w

theorem tl {d : Nat} {op : Op} {ty : TypeId} {pos : String} {af : Array Edge} {v : Value} (h : VAL P n D env R G ⟨some d, op, ty, pos, af, none⟩ v)
    (k : TL P ops Q rest n D ((d, v) :: env) R G) (hn : Nat.blt d n = true := by rfl) : TL P ops Q (⟨some d, op, ty, pos, af, none⟩ :: rest) n D env R G := by
  have hn : d < n := Nat.le_of_ble_eq_true hn
  intro a w ha hw
  refine wpList_plain rfl fun K hK => ?_
  unfold Oper.wp
  rw [h a w ha hw]
  simp only [Oper.upon]
  exact hK _ _ (k _ _ (ha.put hn) hw)

theorem qG {d x v ty pos af} (hx : ev env x = some v) : VAL P n D env R G ⟨some d, .move x, ty, pos, af, none⟩ v :=
  fun a w ha _ => by simp [execOp, ha.eval hx, pure]
theorem qD {d x v ty pos af} (hx : ev env x = some v) : VAL P n D env R G ⟨some d, .assign x, ty, pos, af, none⟩ v :=
  fun a w ha _ => by simp [execOp, ha.eval hx, pure]
theorem qT {α β : Type} {P : Program} {m : Sem α} {f : α → Sem β} {w w' : World} {x : α} (h : m.run P w = .ok x w') : (m >>= f).run P w = (f x).run P w' := by
  simp [h]

theorem nL {op t x y yt d vx vy v ty pos af} (hx : ev env x = some vx) (hy : ev env y = some vy) (hb : ∀ w, (do eqGuard op t x y vx vy; binOp op t vx vy : Sem Value).run P w = .ok v w)
    : VAL P n D env R G ⟨some d, .binOp op t x y yt, ty, pos, af, none⟩ v :=
  fun a w ha _ => by
    show ((do let z ← (do eqGuard op t x y (a.eval x) (a.eval y); binOp op t (a.eval x) (a.eval y) : Sem Value); pure (Next.value z) : Sem Next)).run P w = _
    rw [ha.eval hx, ha.eval hy, qT (hb w)]; rfl
def ib (op : BinOp) (k : IntKind) (a b : Int) : Option Value :=
  match op with
  | .add => some (.int k (k.wrap (a + b)))
  | .sub => some (.int k (k.wrap (a - b)))
  | .mul => some (.int k (k.wrap (a * b)))
  | .eql => some (.bool (decide (a = b)))
  | .neq => some (.bool (decide (¬ a = b)))
  | .lss => some (.bool (decide (a < b)))
  | .leq => some (.bool (decide (a ≤ b)))
  | .gtr => some (.bool (decide (b < a)))
  | .geq => some (.bool (decide (b ≤ a)))
  | _ => none

theorem run_ib {op t x y k a b v} (h : ib op k a b = some v) : ∀ w, (do eqGuard op t x y (.int k a) (.int k b); binOp op t (.int k a) (.int k b) : Sem Value).run P w = .ok v w := by
  intro w
  rw [eqGuard_at_int]
  cases op <;> simp only [ib, Option.some.injEq, reduceCtorEq] at h <;> subst h
  · rw [binOp_add]; rfl
  · rw [binOp_sub]; rfl
  · rw [binOp_mul]; rfl
  · rw [binOp_eql]; rfl
  · rw [binOp_neq]
    have e : (a != b) = decide (¬ a = b) := by by_cases e : a = b <;> simp [e]
    rw [e]; rfl
  · rw [binOp_lss]; rfl
  · rw [binOp_leq]; rfl
  · rw [binOp_gtr]; rfl
  · rw [binOp_geq]; rfl

theorem jR {op t x y yt d kd a b v ty pos af} (hx : ev env x = some (.int kd a)) (hy : ev env y = some (.int kd b)) (hb : ib op kd a b = some v) : VAL P n D env R G ⟨some d, .binOp op t x y yt, ty, pos, af, none⟩ v := nL hx hy (run_ib hb)

theorem dM {x : Int} (h1 : -9223372036854775808 ≤ x) (h2 : x ≤ 9223372036854775807) : IntKind.i64.wrap x = x := by
  rw [IntKind.wrap_i64]; omega
theorem jT {t x y yt d a b ty pos af} (hx : ev env x = some (.int .i64 a)) (hy : ev env y = some (.int .i64 b)) (h1 : -9223372036854775808 ≤ a + b) (h2 : a + b ≤ 9223372036854775807) : VAL P n D env R G ⟨some d, .binOp .add t x y yt, ty, pos, af, none⟩ (.int .i64 (a + b)) := by
  have := jR (P := P) (n := n) (D := D) (R := R) (G := G) (op := .add) (t := t) (yt := yt) (d := d) (ty := ty) (pos := pos) (af := af) hx hy rfl
  rwa [dM h1 h2] at this
theorem bV {t x y yt d a b ty pos af} (hx : ev env x = some (.int .i64 a)) (hy : ev env y = some (.int .i64 b)) (h1 : -9223372036854775808 ≤ a - b) (h2 : a - b ≤ 9223372036854775807) : VAL P n D env R G ⟨some d, .binOp .sub t x y yt, ty, pos, af, none⟩ (.int .i64 (a - b)) := by
  have := jR (P := P) (n := n) (D := D) (R := R) (G := G) (op := .sub) (t := t) (yt := yt) (d := d) (ty := ty) (pos := pos) (af := af) hx hy rfl
  rwa [dM h1 h2] at this
theorem qH4 {t x y yt d a b ty pos af} (hx : ev env x = some (.int .i64 a)) (hy : ev env y = some (.int .i64 b)) (h1 : -9223372036854775808 ≤ a * b) (h2 : a * b ≤ 9223372036854775807) : VAL P n D env R G ⟨some d, .binOp .mul t x y yt, ty, pos, af, none⟩ (.int .i64 (a * b)) := by
  have := jR (P := P) (n := n) (D := D) (R := R) (G := G) (op := .mul) (t := t) (yt := yt) (d := d) (ty := ty) (pos := pos) (af := af) hx hy rfl
  rwa [dM h1 h2] at this

def bb (op : BinOp) (a b : Bool) : Option Value :=
  match op with
  | .eql => some (.bool (a == b))
  | .neq => some (.bool (a != b))
  | _ => none

theorem wJ {x d b ty pos af t} (hx : ev env x = some (.bool b)) : VAL P n D env R G ⟨some d, .unOp .not t x, ty, pos, af, none⟩ (.bool (!b)) :=
  fun a w ha _ => by
    show ((do let z ← Op.unary .not (a.eval x); pure (Next.value z) : Sem Next)).run P w = _
    rw [ha.eval hx]; rfl
theorem tl_head {d v v'} (h : v = v') (k : TL P ops Q rest n D ((d, v') :: env) R G) : TL P ops Q rest n D ((d, v) :: env) R G := h ▸ k

theorem v_pick_or {d c a b p q ty pos af} (hc : ev env c = some (.bool p)) (ha : ev env a = some (.bool true)) (hb : ev env b = some (.bool q))
    : VAL P n D env R G ⟨some d, .pick c a b, ty, pos, af, none⟩ (.bool (p || q)) :=
  fun w a' h _ => by cases p <;> simp [execOp, h.eval hc, h.eval ha, h.eval hb, asBool]
theorem qR {d c a b va ty pos af} (hc : ev env c = some (.bool true)) (ha : ev env a = some va)
    : VAL P n D env R G ⟨some d, .pick c a b, ty, pos, af, none⟩ va :=
  fun w a' h _ => by simp [execOp, h.eval hc, h.eval ha, asBool]
theorem qO {d c a b vb ty pos af} (hc : ev env c = some (.bool false)) (hb : ev env b = some vb)
    : VAL P n D env R G ⟨some d, .pick c a b, ty, pos, af, none⟩ vb :=
  fun w a' h _ => by simp [execOp, h.eval hc, h.eval hb, asBool]
theorem sR {dst : Option Nat} {op ty pos af j want d0} {a : Act} {t : Bool} (ha : Env n D env a) (hj : (ops[j]?).bind (·.dst) = some d0) (hv : lk env d0 = some (.bool t)) :
    Region.wanted ⟨dst, op, ty, pos, af, some (j, want)⟩ (yielded ops a.tmps) = (t == want) := by
  have hy : yielded ops a.tmps j = some t := by
    unfold yielded
    rw [hj, Option.bind_some, ha.get _ _ hv]
  simp only [Region.wanted, hy]
  cases t <;> cases want <;> rfl
theorem qJ {dst : Option Nat} {op ty pos af j want} (d0 : Nat) (hj : (ops[j]?).bind (·.dst) = some d0) (hv : lk env d0 = some (.bool want))
    (h : TL P ops Q (⟨dst, op, ty, pos, af, none⟩ :: rest) n D env R G) : TL P ops Q (⟨dst, op, ty, pos, af, some (j, want)⟩ :: rest) n D env R G := by
  intro a w ha hw
  have := h a w ha hw
  unfold wpList at this ⊢
  rw [sR ha hj hv]
  rw [if_pos (by simp [Region.wanted])] at this
  rw [if_pos (by simp)]
  exact this
theorem qF {dst op ty pos af j want} (d0 : Nat) (hj : (ops[j]?).bind (·.dst) = some d0) (hv : lk env d0 = some (.bool (!want))) (hn : Nat.blt dst n = true)
    (h : TL P ops Q rest n D ((dst, undef) :: env) R G) : TL P ops Q (⟨some dst, op, ty, pos, af, some (j, want)⟩ :: rest) n D env R G := by
  intro a w ha hw
  unfold wpList
  rw [sR ha hj hv, if_neg (by cases want <;> simp)]
  exact h _ _ (ha.put (Nat.le_of_ble_eq_true hn)) hw
theorem xY {dst op ty pos af j want} (d0 : Nat) (hj : (ops[j]?).bind (·.dst) = some d0) (hv : lk env d0 = some undef) (hn : Nat.blt dst n = true)
    (h : TL P ops Q rest n D ((dst, undef) :: env) R G) : TL P ops Q (⟨some dst, op, ty, pos, af, some (j, want)⟩ :: rest) n D env R G := by
  intro a w ha hw
  unfold wpList
  have hy : yielded ops a.tmps j = none := by
    unfold yielded
    rw [hj, Option.bind_some, ha.get _ _ hv]; rfl
  rw [if_neg (by simp [Region.wanted, hy])]
  exact h _ _ (ha.put (Nat.le_of_ble_eq_true hn)) hw
theorem xX {p : Prop} [Decidable p] (d0 : Nat) (hv : lk env d0 = some (.bool (decide p))) (h1 : p → TL P ops Q rest n D ((d0, .bool true) :: env) R G) (h2 : ¬ p → TL P ops Q rest n D ((d0, .bool false) :: env) R G) : TL P ops Q rest n D env R G := by
  intro a w ha hw
  by_cases k : p
  · refine h1 k a w ⟨ha.size, ha.defers, fun t v e => ?_⟩ hw
    by_cases e' : d0 = t
    · subst e'; rw [yU] at e; cases e; rw [ha.get _ _ hv]; simp [k]
    · rw [yT e'] at e; exact ha.get t v e
  · refine h2 k a w ⟨ha.size, ha.defers, fun t v e => ?_⟩ hw
    by_cases e' : d0 = t
    · subst e'; rw [yU] at e; cases e; rw [ha.get _ _ hv]; simp [k]
    · rw [yT e'] at e; exact ha.get t v e
theorem qP {c : Code} {p : Prop} [Decidable p] (d0 : Nat) (hv : lk env d0 = some (.bool (decide p))) (h1 : p → TC P c Q n D ((d0, .bool true) :: env) R G) (h2 : ¬ p → TC P c Q n D ((d0, .bool false) :: env) R G) : TC P c Q n D env R G := by
  intro a w ha hw
  by_cases k : p
  · refine h1 k a w ⟨ha.size, ha.defers, fun t v e => ?_⟩ hw
    by_cases e' : d0 = t
    · subst e'; rw [yU] at e; cases e; rw [ha.get _ _ hv]; simp [k]
    · rw [yT e'] at e; exact ha.get t v e
  · refine h2 k a w ⟨ha.size, ha.defers, fun t v e => ?_⟩ hw
    by_cases e' : d0 = t
    · subst e'; rw [yU] at e; cases e; rw [ha.get _ _ hv]; simp [k]
    · rw [yT e'] at e; exact ha.get t v e
theorem vI {c : Code} {t : Bool} (d0 : Nat) (hv : lk env d0 = some (.bool t)) (h1 : t = true → TC P c Q n D ((d0, .bool true) :: env) R G) (h2 : t = false → TC P c Q n D ((d0, .bool false) :: env) R G) : TC P c Q n D env R G :=
  qP (p := t = true) d0 (by rw [hv]; cases t <;> rfl) h1 fun h => h2 (by simpa using h)
theorem kQ {t : Bool} (d0 : Nat) (hv : lk env d0 = some (.bool t)) (h1 : t = true → TL P ops Q rest n D ((d0, .bool true) :: env) R G) (h2 : t = false → TL P ops Q rest n D ((d0, .bool false) :: env) R G) : TL P ops Q rest n D env R G :=
  xX (p := t = true) d0 (by rw [hv]; cases t <;> rfl) h1 fun h => h2 (by simpa using h)
end
end Go.Proofs.YtcbcdlajnmkioaaGreatDoor

namespace Go.Proofs.YtcbcdlajnmkioaaGreatDoor
open Go
set_option linter.unusedVariables false
set_option linter.unusedSimpArgs false


def zG (P : Program) (t : TypeId) : Option (List Value) := ((P.info? t).bind (·.zero)).map (·.cells.toList)
def kG (P : Program) (s j : Nat) : Option Nat :=
  match P.underlying s with
  | some (.struct fs) => match fs[j]? with
    | some f => match P.info? f.type with
      | some i => if i.size = 0 then none else some f.offset
      | none => none
    | none => none
  | _ => none
def kR (P : Program) (t : TypeId) : Option (Bool × Nat) :=
  match P.underlying t, P.info? t with
  | some d, some i => some ((match d with | .struct _ | .array .. => true | _ => false), i.size)
  | _, _ => none
def wE (P : Program) (t : TypeId) : Option (TypeId × Nat) :=
  match P.underlying t with
  | some (.slice e) => (P.info? e).map fun i => (e, i.size)
  | _ => none
def qI5 (P : Program) (t : TypeId) : Bool := match P.underlying t with | some .string => true | _ => false

section
variable {P : Program} {w : World}

theorem cN {t b s} (h : kR P t = some (b, s)) : (isAgg t).run P w = .ok b w := by
  unfold kR at h
  split at h
  · rename_i d i hd hi
    unfold isAgg
    rw [qT (run_underlying hd w)]
    cases d <;> simp only [Option.some.injEq, Prod.mk.injEq] at h <;> rw [← h.1] <;> rfl
  · cases h
theorem kT {t i} (h : P.info? t = some i) : (typeInfo t).run P w = .ok i w := by
  unfold typeInfo program
  show (Sem.bind (.program .pure) _).run P w = _
  simp only [Sem.bind, Sem.run, h]
  rfl
theorem dO {t b s} (h : kR P t = some (b, s)) : (sizeOf t).run P w = .ok s w := by
  unfold kR at h
  split at h
  · rename_i d i hd hi
    simp only [Option.some.injEq, Prod.mk.injEq] at h
    unfold sizeOf
    rw [qT (kT hi), ← h.2]; rfl
  · cases h

theorem fQ {b o : Nat} {c : Array Value} {T fz} (h : w.heap[b]? = some (.cells c T fz)) : w.cell? ⟨b, o, none⟩ = c[o]? := by
  simp [World.cell?, h]

theorem cO (b o k : Nat) : (⟨b, o, none⟩ : Addr).add k = ⟨b, o + k, none⟩ := by unfold Addr.add; split <;> simp_all

theorem qA6 {a : Addr} {v : Value} (h : w.cell? a = some v) : (load a).run P w = .ok v w := by
  simp [load, Sem.run, h]

theorem tL {b o : Nat} : ∀ (l : List Value) (i : Nat) (acc : Array Value), (∀ j v, l[j]? = some v → w.cell? ⟨b, o + i + j, none⟩ = some v) →
    (loadCellsFrom ⟨b, o, none⟩ i l.length acc).run P w = .ok (acc ++ l.toArray) w
  | [], i, acc, _ => by simp [loadCellsFrom, pure]
  | v :: l, i, acc, h => by
    show (do let x ← load ((⟨b, o, none⟩ : Addr).add i); loadCellsFrom ⟨b, o, none⟩ (i + 1) l.length (acc.push x) : Sem (Array Value)).run P w = _
    rw [cO, qT (qA6 (by simpa using h 0 v rfl)), tL l (i + 1) (acc.push v) fun j u hj => by have := h (j + 1) u hj; rwa [show o + i + (j + 1) = o + (i + 1) + j by omega] at this]
    simp
theorem mJ {b o : Nat} (l : List Value) (h : ∀ j v, l[j]? = some v → w.cell? ⟨b, o + j, none⟩ = some v) : (loadCells ⟨b, o, none⟩ l.length).run P w = .ok l.toArray w := by
  unfold loadCells
  rw [tL l 0 #[] (by simpa using h)]; simp

theorem pS {t b o} {l : List Value} (ht : kR P t = some (true, l.length)) (h : ∀ j v, l[j]? = some v → w.cell? ⟨b, o + j, none⟩ = some v) : (loadVar t ⟨b, o, none⟩).run P w = .ok (.agg l.toArray) w := by
  unfold loadVar
  rw [qT (cN ht), if_pos rfl, qT (dO ht), qT (mJ l h)]; rfl
theorem fR {t b o s} {v : Value} (ht : kR P t = some (false, s)) (h : w.cell? ⟨b, o, none⟩ = some v) : (loadVar t ⟨b, o, none⟩).run P w = .ok v w := by
  unfold loadVar
  rw [qT (cN ht)]
  exact qA6 h


def one : Value → Bool
  | .agg _ | .tuple _ => false
  | _ => true

theorem qE1 {b o : Nat} {l : List Value} {T v} (hh : w.heap[b]? = some (.cells l.toArray T (0, 0))) (ho : o < l.length) (h1 : one v = true) :
    ∃ w', (store ⟨b, o, none⟩ v).run P w = .ok () w' ∧ w'.os = w.os ∧ w'.tape = w.tape ∧ w'.output = w.output ∧ w'.heap.size = w.heap.size ∧ w'.heap[b]? = some (.cells (l.set o v).toArray T (0, 0)) ∧ ∀ x, x ≠ b → w'.heap[x]? = w.heap[x]? := by
  have hc : w.cell? ⟨b, o, none⟩ = some (l[o]) := by rw [fQ hh]; simp [ho]
  have hf : w.frozen? ⟨b, o, none⟩ = false := by simp [World.frozen?, hh]
  refine ⟨w.setCell ⟨b, o, none⟩ v, ?_, rfl, rfl, rfl, by simp [World.setCell], ?_, fun x hx => ?_⟩
  · cases v <;> first | (simp [one] at h1; done) | (simp [store, Sem.run, hc, hf])
  · simp only [World.setCell, Array.getElem?_modify, if_true, hh, Option.map_some]
    simp
  · simp only [World.setCell, Array.getElem?_modify]
    rw [if_neg (Ne.symm hx)]

def hU (l : List Value) (o : Nat) : List Value → List Value
  | [] => l
  | v :: vs => hU (l.set o v) (o + 1) vs

theorem mK (l : List Value) (o : Nat) (vs : List Value) : (hU l o vs).length = l.length := by
  induction vs generalizing l o with
  | nil => rfl
  | cons v vs ih => simp [hU, ih]

theorem tA {b o : Nat} {T} : ∀ (vs : List Value) (l : List Value) (i : Nat) (w : World), w.heap[b]? = some (.cells l.toArray T (0, 0)) → o + i + vs.length ≤ l.length → vs.all one = true →
    ∃ w', (storeCells ⟨b, o, none⟩ vs i).run P w = .ok () w' ∧ w'.os = w.os ∧ w'.tape = w.tape ∧ w'.output = w.output ∧ w'.heap.size = w.heap.size ∧ w'.heap[b]? = some (.cells (hU l (o + i) vs).toArray T (0, 0)) ∧ ∀ x, x ≠ b → w'.heap[x]? = w.heap[x]?
  | [], l, i, w, hh, _, _ => ⟨w, rfl, rfl, rfl, rfl, rfl, hh, fun _ _ => rfl⟩
  | v :: vs, l, i, w, hh, hl, h1 => by
    simp only [List.all_cons, Bool.and_eq_true] at h1
    simp only [List.length_cons] at hl
    obtain ⟨w1, hr, a1, a2, a3, a4, a5, a6⟩ := qE1 (P := P) (o := o + i) (v := v) hh (by omega) h1.1
    obtain ⟨w2, hr2, b1, b2, b3, b4, b5, b6⟩ := tA (o := o) vs (l.set (o + i) v) (i + 1) w1 a5 (by simp; omega) h1.2
    refine ⟨w2, ?_, b1.trans a1, b2.trans a2, b3.trans a3, b4.trans a4, b5, fun x hx => (b6 x hx).trans (a6 x hx)⟩
    show (do store ((⟨b, o, none⟩ : Addr).add i) v; storeCells ⟨b, o, none⟩ vs (i + 1) : Sem Unit).run P w = _
    rw [cO, qT hr, hr2]

theorem eG {t b o g s T} {v : Value} {vs l : List Value} (ht : kR P t = some (g, s)) (hv : v.cells.toList = vs) (hs : vs.length = s) (hh : w.heap[b]? = some (.cells l.toArray T (0, 0))) (ho : o + vs.length ≤ l.length) (h1 : vs.all one = true) :
    ∃ w', (storeVar t ⟨b, o, none⟩ v).run P w = .ok () w' ∧ w'.os = w.os ∧ w'.tape = w.tape ∧ w'.output = w.output ∧ w'.heap.size = w.heap.size ∧ w'.heap[b]? = some (.cells (hU l o vs).toArray T (0, 0)) ∧ ∀ x, x ≠ b → w'.heap[x]? = w.heap[x]? := by
  obtain ⟨w', h⟩ := tA (P := P) (o := o) vs l 0 w hh (by simpa using ho) h1
  refine ⟨w', ?_, h.2⟩
  unfold storeVar
  have hsz : v.cells.size = s := by rw [← hs, ← hv]; simp
  rw [qT (dO ht), hsz, if_neg (by simp), hv]
  exact h.1
end

theorem Own.stepAt {w w' : World} {R G} {r r' : Res} {i : Nat} (h : Own w R G) (hi : G[i]? = some r) (hos : w'.os = w.os) (htape : w'.tape = w.tape) (hout : w'.output = w.output)
    (hsame : ∀ b, b < w.heap.size → ¬ r.foot b → w'.heap[b]? = w.heap[b]?) (hold : r'.holds w') (hfoot : ∀ b, r'.foot b → r.foot b ∨ w.heap.size ≤ b) : Own w' R (G.set i r') := by
  have h1 := h.perm (wU i G)
  unfold pick at h1
  rw [hi] at h1
  have h2 := Own.step (r' := r') h1 hos htape hout hsame hold hfoot
  refine h2.perm ?_
  clear h h1 h2
  induction G generalizing i with
  | nil => simp at hi
  | cons g G ih =>
    cases i with
    | zero => exact List.Perm.refl _
    | succ i => exact (List.Perm.swap g r' _).trans ((ih hi).cons g)

theorem Own.new {w w' : World} {R G} {r' : Res} (h : Own w R G) (hos : w'.os = w.os) (htape : w'.tape = w.tape) (hout : w'.output = w.output)
    (hsame : ∀ b, b < w.heap.size → w'.heap[b]? = w.heap[b]?) (hold : r'.holds w') (hfoot : ∀ b, r'.foot b → w.heap.size ≤ b) : Own w' R (r' :: G) :=
  Own.step h.emp hos htape hout (fun b hb _ => hsame b hb) hold fun b hb => .inr (hfoot b hb)

theorem Own.push {w : World} {R G} (h : Own w R G) (l : List Value) (T : TypeId) : Own { w with heap := w.heap.push (.cells l.toArray T (0, 0)) } R (.blk w.heap.size l T :: G) :=
  h.new rfl rfl rfl (fun b hb => by show (w.heap.push _)[b]? = _; rw [Array.getElem?_push, if_neg (by omega)])
    (by show (w.heap.push _)[w.heap.size]? = _; simp) fun b hb => by have : b = w.heap.size := hb; omega

section
variable {P : Program} {n : Nat} {D : List Deferred} {env env' : List (Nat × Value)} {R : RO} {G G' : List Res} {Q : Exit → Act → World → Prop} {ops : Array Oper} {rest : List Oper} {o : Oper}

theorem qW {T x d ty pos af} {l : List Value} (hx : ev env x = some (.agg l.toArray)) (hn : Nat.blt d n = true)
    (k : ∀ b, TL P ops Q rest n D ((d, .pointer (some ⟨b, 0, none⟩)) :: env) R (.blk b l T :: G)) : TL P ops Q (⟨some d, .box T x, ty, pos, af, none⟩ :: rest) n D env R G := by
  intro a w ha hw
  refine wpList_plain rfl fun K hK => ?_
  have hr : (execOp a.eval ⟨some d, .box T x, ty, pos, af, none⟩).run P w = .ok (.value (.pointer (some ⟨w.heap.size, 0, none⟩))) { w with heap := w.heap.push (.cells l.toArray T (0, 0)) } := by
    simp [execOp, ha.eval hx, Instr.box, newVar, newRow, newObj, Value.cells, Sem.run, pure, bind, Sem.bind]
  unfold Oper.wp
  rw [hr]
  exact hK _ _ (k _ _ _ (ha.put (Nat.le_of_ble_eq_true hn)) (hw.push l T))
theorem tl_box {T x d v ty pos af} (hx : ev env x = some v) (h1 : v.cells = #[v]) (hn : Nat.blt d n = true)
    (k : ∀ b, TL P ops Q rest n D ((d, .pointer (some ⟨b, 0, none⟩)) :: env) R (.blk b [v] T :: G)) : TL P ops Q (⟨some d, .box T x, ty, pos, af, none⟩ :: rest) n D env R G := by
  intro a w ha hw
  refine wpList_plain rfl fun K hK => ?_
  have hr : (execOp a.eval ⟨some d, .box T x, ty, pos, af, none⟩).run P w = .ok (.value (.pointer (some ⟨w.heap.size, 0, none⟩))) { w with heap := w.heap.push (.cells [v].toArray T (0, 0)) } := by
    simp [execOp, ha.eval hx, Instr.box, newVar, newRow, newObj, h1, Sem.run, pure, bind, Sem.bind]
  unfold Oper.wp
  rw [hr]
  exact hK _ _ (k _ _ _ (ha.put (Nat.le_of_ble_eq_true hn)) (hw.push [v] T))
theorem qS {T d ty pos af} {l : List Value} (hz : zG P T = some l) (hn : Nat.blt d n = true)
    (k : ∀ b, TL P ops Q rest n D ((d, .pointer (some ⟨b, 0, none⟩)) :: env) R (.blk b l T :: G)) : TL P ops Q (⟨some d, .alloc T, ty, pos, af, none⟩ :: rest) n D env R G := by
  intro a w ha hw
  refine wpList_plain rfl fun K hK => ?_
  have hr : (execOp a.eval ⟨some d, .alloc T, ty, pos, af, none⟩).run P w = .ok (.value (.pointer (some ⟨w.heap.size, 0, none⟩))) { w with heap := w.heap.push (.cells l.toArray T (0, 0)) } := by
    unfold zG at hz
    cases hi : P.info? T with
    | none => rw [hi] at hz; cases hz
    | some i =>
      rw [hi, Option.bind_some] at hz
      cases hzz : i.zero with
      | none => rw [hzz] at hz; cases hz
      | some z =>
        rw [hzz, Option.map_some, Option.some.injEq] at hz
        have hzv : (zeroValue T).run P w = .ok z w := by
          unfold zeroValue
          rw [qT (kT hi), hzz]; rfl
        show ((do let x ← Instr.alloc T true (.tuple #[]); pure (Next.value x) : Sem Next)).run P w = _
        have : (Instr.alloc T true (.tuple #[])).run P w = .ok (.pointer (some ⟨w.heap.size, 0, none⟩)) { w with heap := w.heap.push (.cells l.toArray T (0, 0)) } := by
          unfold Instr.alloc
          rw [qT hzv, ← hz]
          simp [newVar, newRow, newObj, Sem.run, pure, bind, Sem.bind]
        rw [qT this]; rfl
  unfold Oper.wp
  rw [hr]
  exact hK _ _ (k _ _ _ (ha.put (Nat.le_of_ble_eq_true hn)) (hw.push l T))

theorem qH {s x j d b o off ty pos af} (o' : Nat) (hx : ev env x = some (.pointer (some ⟨b, o, none⟩))) (hf : kG P s j = some off) (ho : o + off = o')
    : VAL P n D env R G ⟨some d, .fieldAddr s x j, ty, pos, af, none⟩ (.pointer (some ⟨b, o', none⟩)) :=
  fun a w ha _ => by
    show ((do let z ← Instr.fieldAt s (a.eval x) j; pure (Next.value z) : Sem Next)).run P w = _
    rw [ha.eval hx]
    unfold kG at hf
    split at hf
    · rename_i fs hu
      split at hf
      · rename_i f hj
        split at hf
        · rename_i i hi
          split at hf
          · cases hf
          · rename_i hsz
            have e : (Instr.fieldAt s (.pointer (some ⟨b, o, none⟩)) j).run P w = .ok (.pointer (some ⟨b, o', none⟩)) w := by
              unfold Instr.fieldAt
              rw [qT (run_underlying hu w)]
              simp only [hj, Instr.sureAddr]
              have e2 : (fieldPlace ⟨b, o, none⟩ f).run P w = .ok ⟨b, o', none⟩ w := by
                unfold fieldPlace
                have e3 : (sizeOf f.type).run P w = .ok i.size w := by unfold sizeOf; rw [qT (kT hi)]; rfl
                rw [qT e3, if_neg hsz, cO, ← ho, Option.some.inj hf]; rfl
              show (do let a ← (pure ⟨b, o, none⟩ : Sem Addr); let r ← fieldPlace a f; pure (Value.pointer (some r)) : Sem Value).run P w = _
              rw [qT (x := (⟨b, o, none⟩ : Addr)) (w' := w) rfl, qT e2]; rfl
            rw [qT e]; rfl
        · cases hf
      · cases hf
    · cases hf
theorem fS {t x d b o ty pos af} (l : List Value) (hx : ev env x = some (.pointer (some ⟨b, o, none⟩))) (ht : kR P t = some (true, l.length)) (hc : ∀ w, Own w R G → ∀ j v, l[j]? = some v → w.cell? ⟨b, o + j, none⟩ = some v)
    : VAL P n D env R G ⟨some d, .load t x, ty, pos, af, none⟩ (.agg l.toArray) :=
  fun a w ha hw => by
    show ((do let z ← Instr.loadAt t (a.eval x); pure (Next.value z) : Sem Next)).run P w = _
    rw [ha.eval hx]
    have e : (Instr.loadAt t (.pointer (some ⟨b, o, none⟩))).run P w = .ok (.agg l.toArray) w := by
      unfold Instr.loadAt Instr.sureAddr
      rw [qT (x := (⟨b, o, none⟩ : Addr)) (w' := w) rfl]
      exact pS ht (hc w hw)
    rw [qT e]; rfl
theorem v_ldR {t x d b o s ty pos af} {v : Value} (hx : ev env x = some (.pointer (some ⟨b, o, none⟩))) (ht : kR P t = some (false, s)) (hc : ∀ w, Own w R G → w.cell? ⟨b, o, none⟩ = some v)
    : VAL P n D env R G ⟨some d, .load t x, ty, pos, af, none⟩ v :=
  fun a w ha hw => by
    show ((do let z ← Instr.loadAt t (a.eval x); pure (Next.value z) : Sem Next)).run P w = _
    rw [ha.eval hx]
    have e : (Instr.loadAt t (.pointer (some ⟨b, o, none⟩))).run P w = .ok v w := by
      unfold Instr.loadAt Instr.sureAddr
      rw [qT (x := (⟨b, o, none⟩ : Addr)) (w' := w) rfl]
      exact fR ht (hc w hw)
    rw [qT e]; rfl
theorem bA {w : World} {R : RO} {G : List Res} {i b : Nat} {l : List Value} {T : TypeId} {o : Nat} {v : Value} (hw : Own w R G) (hG : G[i]? = some (.blk b l T)) (h : l[o]? = some v) : w.cell? ⟨b, o, none⟩ = some v := by
  have : w.heap[b]? = some (.cells l.toArray T (0, 0)) := hw.holds _ (List.mem_of_getElem? hG)
  rw [fQ this]; simpa using h

theorem jM {t x d b o s ty pos af} {l : List Value} {T : TypeId} {v : Value} (i : Nat) (hx : ev env x = some (.pointer (some ⟨b, o, none⟩))) (ht : kR P t = some (false, s)) (hG : G[i]? = some (.blk b l T)) (hl : l[o]? = some v) : VAL P n D env R G ⟨some d, .load t x, ty, pos, af, none⟩ v :=
  v_ldR hx ht fun w hw => bA hw hG hl
theorem qQ {t x d b o ty pos af} {l : List Value} {T : TypeId} (i : Nat) (l' : List Value) (hx : ev env x = some (.pointer (some ⟨b, o, none⟩))) (ht : kR P t = some (true, l'.length)) (hG : G[i]? = some (.blk b l T)) (hl : (l.drop o).take l'.length = l') : VAL P n D env R G ⟨some d, .load t x, ty, pos, af, none⟩ (.agg l'.toArray) :=
  fS l' hx ht fun w hw j v hj => bA hw hG (by rw [← hl] at hj; rw [List.getElem?_take] at hj; split at hj; rwa [List.getElem?_drop] at hj; cases hj)

theorem xN {t x y b o s g ty pos af} {l vs : List Value} {T : TypeId} {v : Value} (i : Nat) (l' : List Value) (hx : ev env x = some (.pointer (some ⟨b, o, none⟩))) (hy : ev env y = some v) (ht : kR P t = some (g, s)) (hv : v.cells.toList = vs) (hs : vs.length = s) (hG : G[i]? = some (.blk b l T)) (ho : Nat.ble (o + vs.length) l.length = true) (h1 : vs.all one = true) (hl : hU l o vs = l')
    (k : TL P ops Q rest n D env R (G.set i (.blk b l' T))) : TL P ops Q (⟨none, .store t x y, ty, pos, af, none⟩ :: rest) n D env R G := by
  intro a w ha hw
  refine wpList_plain rfl fun K hK => ?_
  have hh : w.heap[b]? = some (.cells l.toArray T (0, 0)) := hw.holds _ (List.mem_of_getElem? hG)
  obtain ⟨w', hr, a1, a2, a3, a4, a5, a6⟩ := eG (P := P) ht hv hs hh (Nat.le_of_ble_eq_true ho) h1
  have e : (execOp a.eval ⟨none, .store t x y, ty, pos, af, none⟩).run P w = .ok .skip w' := by
    show ((do Instr.storeAt t (a.eval x) (a.eval y); pure Next.skip : Sem Next)).run P w = _
    rw [ha.eval hx, ha.eval hy]
    have : (Instr.storeAt t (.pointer (some ⟨b, o, none⟩)) v).run P w = .ok () w' := by
      unfold Instr.storeAt Instr.sureAddr
      rw [qT (x := (⟨b, o, none⟩ : Addr)) (w' := w) rfl]
      exact hr
    rw [qT this]; rfl
  unfold Oper.wp
  rw [e]
  refine hK _ _ (k _ _ ha (hw.stepAt hG a1 a2 a3 (fun x _ hx => a6 x hx) ?_ fun x hx => .inl hx))
  rw [← hl]; exact a5

theorem bW {t e s : Nat} {len cap b o : Nat} {i : Int} {kd : IntKind} {w : World} (ht : wE P t = some (e, s)) (h0 : 0 ≤ i) (h1 : i < (len : Int)) : (Instr.indexAt t (.slice (some ⟨b, o, none⟩) len cap) (.int kd i)).run P w = .ok (.pointer (some ⟨b, o + i.toNat * s, none⟩)) w := by
  unfold wE at ht
  split at ht
  · rename_i e' hu
    cases hi : P.info? e' with
    | none => rw [hi] at ht; cases ht
    | some inf =>
      rw [hi, Option.map_some, Option.some.injEq, Prod.mk.injEq] at ht
      obtain ⟨rfl, rfl⟩ := ht
      have hsz : (sizeOf e').run P w = .ok inf.size w := by unfold sizeOf; rw [qT (kT hi)]; rfl
      simp [Instr.indexAt, asIntOf, run_underlying hu, h0, h1, hsz, cO]
  · cases ht

theorem v_idx {t x y d e s ty pos af} {len cap b o : Nat} {i : Int} {kd : IntKind} (o' : Nat) (hx : ev env x = some (.slice (some ⟨b, o, none⟩) len cap)) (hy : ev env y = some (.int kd i)) (ht : wE P t = some (e, s)) (h0 : 0 ≤ i) (h1 : i < (len : Int)) (ho : o + i.toNat * s = o')
    : VAL P n D env R G ⟨some d, .indexAddr t x y, ty, pos, af, none⟩ (.pointer (some ⟨b, o', none⟩)) :=
  fun a w ha _ => by
    show ((do let z ← Instr.indexAt t (a.eval x) (a.eval y); pure (Next.value z) : Sem Next)).run P w = _
    rw [ha.eval hx, ha.eval hy, qT (bW ht h0 h1), ho]; rfl
theorem jJ {t x d ad e s ty pos af} {len cap : Nat} (hx : ev env x = some (.slice ad len cap)) (ht : wE P t = some (e, s))
    : VAL P n D env R G ⟨some d, .call { callee := .builtin .len, args := #[x], argTypes := #[t] }, ty, pos, af, none⟩ (.int .i64 (len : Int)) :=
  fun a w ha _ => by
    unfold wE at ht
    split at ht
    · rename_i e' hu
      simp [execOp, resolve, invoke, builtin, Builtin.len_, ha.eval hx, run_underlying hu, goInt]
    · cases ht
theorem aG {t x d ty pos af} {s : ByteArray} (hx : ev env x = some (.string s)) (ht : qI5 P t = true)
    : VAL P n D env R G ⟨some d, .call { callee := .builtin .len, args := #[x], argTypes := #[t] }, ty, pos, af, none⟩ (.int .i64 (s.size : Int)) :=
  fun a w ha _ => by
    unfold qI5 at ht
    split at ht
    · rename_i hu
      simp [execOp, resolve, invoke, builtin, Builtin.len_, ha.eval hx, run_underlying hu, goInt]
    · cases ht

structure Callable (P : Program) (f : FuncId) : Prop where
  ok : (match P.funcs[f]? with | some fn => !(fn.name == "runtime.NumGoroutine") && fn.body.isSome | none => false) = true

theorem sS {f : FuncId} {args : Array Value} {w : World} (h : Callable P f) : (callFunc f args).run P w = .ok (.enter f args) w := by
  have := h.ok
  split at this
  · rename_i fn hf
    simp only [Bool.and_eq_true, Bool.not_eq_true'] at this
    obtain ⟨h1, h2⟩ := this
    unfold callFunc program
    show (Sem.bind (.program .pure) _).run P w = _
    simp only [Sem.bind, Sem.run, hf, h1]
    cases hb : fn.body with
    | none => rw [hb] at h2; cases h2
    | some c => simp [Sem.run, pure]
  · cases this

def evs (env : List (Nat × Value)) : List Operand → Option (List Value)
  | [] => some []
  | x :: xs => match ev env x, evs env xs with
    | some v, some vs => some (v :: vs)
    | _, _ => none

theorem aH {a : Act} (ha : Env n D env a) : ∀ {xs : List Operand} {vs : List Value}, evs env xs = some vs → xs.map a.eval = vs
  | [], vs, h => by cases h; rfl
  | x :: xs, vs, h => by
    unfold evs at h
    cases hx : ev env x with
    | none => rw [hx] at h; cases h
    | some v =>
      cases hxs : evs env xs with
      | none => rw [hx, hxs] at h; cases h
      | some us =>
        rw [hx, hxs] at h
        cases h
        rw [List.map_cons, ha.eval hx, aH ha hxs]

theorem cP {a : Act} {w : World} {f dst ty pos af at_} {xs : List Operand} {vs : List Value} (ha : Env n D env a) (hc : Callable P f) (hv : evs env xs = some vs) :
    (execOp a.eval ⟨dst, .call { callee := .value (.func f), args := xs.toArray, argTypes := at_ }, ty, pos, af, none⟩).run P w = .ok (.enter f vs.toArray) w := by
  have e : xs.toArray.map a.eval = vs.toArray := by rw [← aH ha hv]; simp
  have e2 : (execOp a.eval ⟨dst, .call { callee := .value (.func f), args := xs.toArray, argTypes := at_ }, ty, pos, af, none⟩) = (do callFunc f (#[] ++ vs.toArray ++ #[]) : Sem Next) := by
    simp [execOp, resolve, e, Act.eval, Deferred.ofValue, invoke]
  rw [e2]
  simpa using sS hc

def Ret (R : RO) (G : List Res) (φ : Value → RO → Prop) : Ending → World → Prop := fun e w' => ∃ v R', e = .returned v ∧ R.le R' ∧ Own w' R' G ∧ φ v R'

theorem tl_call {f d ty pos af at_ xs vs} {φ : Value → RO → Prop} {G' : List Res} (hc : Callable P f) (hv : evs env xs = some vs) (hk : ∀ w, Own w R G → Calls P f vs.toArray w (Ret R G' φ)) (hn : Nat.blt d n = true)
    (k : ∀ v R', R.le R' → φ v R' → TL P ops Q rest n D ((d, v) :: env) R' G') : TL P ops Q (⟨some d, .call { callee := .value (.func f), args := xs.toArray, argTypes := at_ }, ty, pos, af, none⟩ :: rest) n D env R G := by
  intro a w ha hw
  refine wpList_plain rfl fun K hK => ?_
  unfold Oper.wp
  rw [cP ha hc hv]
  simp only [Oper.upon]
  refine (hk w hw).mono ?_
  rintro e w' ⟨v, R', rfl, hle, ho, hp⟩
  exact hK _ _ (k v R' hle hp _ _ (ha.put (Nat.le_of_ble_eq_true hn)) ho)

def kK (R : RO) (G : List Res) (v : Value) : Ending → World → Prop := fun e w' => e = .returned v ∧ Own w' R G

theorem xC {f d ty pos af at_ xs vs v} {G' : List Res} (hc : Callable P f) (hv : evs env xs = some vs) (hk : ∀ w, Own w R G → Calls P f vs.toArray w (kK R G' v)) (hn : Nat.blt d n = true)
    (k : TL P ops Q rest n D ((d, v) :: env) R G') : TL P ops Q (⟨some d, .call { callee := .value (.func f), args := xs.toArray, argTypes := at_ }, ty, pos, af, none⟩ :: rest) n D env R G := by
  intro a w ha hw
  refine wpList_plain rfl fun K hK => ?_
  unfold Oper.wp
  rw [cP ha hc hv]
  simp only [Oper.upon]
  refine (hk w hw).mono ?_
  rintro e w' ⟨rfl, ho⟩
  exact hK _ _ (k _ _ (ha.put (Nat.le_of_ble_eq_true hn)) ho)


def qE2 : Nat → List Value → List (Nat × Value)
  | _, [] => []
  | i, v :: vs => (i, v) :: qE2 (i + 1) vs

theorem mL : ∀ (vs : List Value) (i t : Nat) (v : Value), lk (qE2 i vs) t = some v → ∃ j, t = i + j ∧ vs[j]? = some v
  | [], _, _, _, h => by cases h
  | u :: vs, i, t, v, h => by
    by_cases k : i = t
    · subst k
      simp only [qE2] at h
      rw [yU] at h
      exact ⟨0, rfl, h⟩
    · simp only [qE2] at h
      rw [yT k] at h
      obtain ⟨j, e, hj⟩ := mL vs (i + 1) t v h
      exact ⟨j + 1, by omega, hj⟩

theorem xH {f : FuncId} {fn : Func} {c : Code} {vs : List Value} {w : World} {Rp : Ending → World → Prop} (hf : P.funcs[f]? = some fn) (hb : fn.body = some c) (hn : fn.ntmps = n) (hl : Nat.ble vs.length n = true)
    (h : TC P c (bodyPost P fn Rp) n [] (qE2 0 vs) R G) (hw : Own w R G) : Calls P f vs.toArray w Rp := by
  refine calls_of_wp hf hb (h _ w ⟨?_, rfl, fun t v e => ?_⟩ hw)
  · have := Nat.le_of_ble_eq_true hl
    simp [hn]; omega
  · obtain ⟨j, rfl, hj⟩ := mL vs 0 t v e
    have hlt : j < vs.length := (List.getElem?_eq_some_iff.1 hj).1
    simp only [Nat.zero_add]
    rw [Array.getElem?_append_left (by simpa using hlt)]
    simpa using hj

theorem xB {fn : Func} {Rp : Ending → World → Prop} {t : Nat} {v : Value} {e : Exit} (he : e = .ret ∨ e = .normal) (hr : fn.results = #[.tmp t]) (hv : lk env t = some v) (h : ∀ w, Own w R G → Rp (.returned v) w) : TX (bodyPost P fn Rp) e n [] env R G := by
  intro a w ha hw
  have : (results fn a.tmps).run P w = .ok v w := by
    rw [results_tmp hr, Array.getD_eq_getD_getElem?, ha.get _ _ hv]; rfl
  rcases he with rfl | rfl <;> exact ⟨ha.defers, v, this, h w hw⟩
theorem dP {fn : Func} {Rp : Ending → World → Prop} {e : Exit} (he : e = .ret ∨ e = .normal) (hr : fn.results = #[]) (h : ∀ w, Own w R G → Rp (.returned (.tuple #[])) w) : TX (bodyPost P fn Rp) e n [] env R G := by
  intro a w ha hw
  have : (results fn a.tmps).run P w = .ok (.tuple #[]) w := results_none hr a.tmps P w
  rcases he with rfl | rfl <;> exact ⟨ha.defers, _, this, h w hw⟩
theorem kL {fn : Func} {Rp : Ending → World → Prop} {t u : Nat} {v v' : Value} {e : Exit} (he : e = .ret ∨ e = .normal) (hr : fn.results = #[.tmp t, .tmp u]) (hv : lk env t = some v) (hv' : lk env u = some v') (h : ∀ w, Own w R G → Rp (.returned (.tuple #[v, v'])) w) : TX (bodyPost P fn Rp) e n [] env R G := by
  intro a w ha hw
  have : (results fn a.tmps).run P w = .ok (.tuple #[v, v']) w := by
    rw [results_tmp2 hr, Array.getD_eq_getD_getElem?, Array.getD_eq_getD_getElem?, ha.get _ _ hv, ha.get _ _ hv']; rfl
  rcases he with rfl | rfl <;> exact ⟨ha.defers, _, this, h w hw⟩
end



def RO.at (R : RO) (b o : Nat) (cs : List Value) : Prop := ∀ j v, cs[j]? = some v → ∃ c T fz, R.heap b = some (.cells c T fz) ∧ c[o + j]? = some v

theorem RO.at.mono {R R' : RO} {b o cs} (h : R.at b o cs) (k : R.le R') : R'.at b o cs := fun j v hj =>
  let ⟨c, T, fz, h1, h2⟩ := h j v hj
  ⟨c, T, fz, k.heap _ _ h1, h2⟩
theorem RO.at.cell {R : RO} {w : World} {G b o cs j v} (h : R.at b o cs) (hw : Own w R G) (hj : cs[j]? = some v) : w.cell? ⟨b, o + j, none⟩ = some v := by
  obtain ⟨c, T, fz, h1, h2⟩ := h j v hj
  rw [fQ (hw.ro _ _ h1)]; exact h2

def mM : Option Addr → Nat
  | some a => a.block
  | none => 0
def aoff : Option Addr → Nat
  | some a => a.off
  | none => 0

structure Kd (α : Type) where
  sz : Nat
  rep : RO → α → List Value → Prop
  len : ∀ R x cs, rep R x cs → cs.length = sz
  mono : ∀ R R' x cs, R.le R' → rep R x cs → rep R' x cs

def i64 (x : Int) : Prop := -9223372036854775808 ≤ x ∧ x ≤ 9223372036854775807
def big : Nat := 140737488355328

structure SlAt {α : Type} (k : Kd α) (R : RO) (A : Option Addr) (l : List α) : Prop where
  size : l.length ≤ big
  addr : l ≠ [] → ∃ b o, A = some ⟨b, o, none⟩
  get : ∀ (i : Nat) (x : α), l[i]? = some x → ∃ cs, k.rep R x cs ∧ R.at (mM A) (aoff A + i * k.sz) cs

theorem SlAt.mono {α} {k : Kd α} {R R' : RO} {A l} (h : SlAt k R A l) (hle : R.le R') : SlAt k R' A l :=
  ⟨h.size, h.addr, fun i x hi => let ⟨cs, h1, h2⟩ := h.get i x hi; ⟨cs, k.mono _ _ _ _ hle h1, h2.mono hle⟩⟩
theorem SlAt.nil {α} (k : Kd α) (R : RO) (A) : SlAt k R A ([] : List α) := ⟨Nat.zero_le _, fun h => absurd rfl h, fun i x h => by simp at h⟩

def kInt : Kd Int := ⟨1, fun _ x cs => cs = [.int .i64 x] ∧ i64 x, fun _ _ _ h => by rw [h.1]; rfl, fun _ _ _ _ _ h => h⟩
def kBool : Kd Bool := ⟨1, fun _ x cs => cs = [.bool x], fun _ _ _ h => by rw [h]; rfl, fun _ _ _ _ _ h => h⟩
def kStr : Kd ByteArray := ⟨1, fun _ x cs => cs = [.string x] ∧ x.size ≤ big, fun _ _ _ h => by rw [h.1]; rfl, fun _ _ _ _ _ h => h⟩
def kPair : Kd (Int × Int) := ⟨2, fun _ x cs => cs = [.int .i64 x.1, .int .i64 x.2] ∧ i64 x.1 ∧ i64 x.2, fun _ _ _ h => by rw [h.1]; rfl, fun _ _ _ _ _ h => h⟩
def Kd.sl {α} (k : Kd α) : Kd (List α) :=
  ⟨1, fun R l cs => ∃ A c, cs = [.slice A l.length c] ∧ SlAt k R A l, fun _ _ _ ⟨_, _, h, _⟩ => by rw [h]; rfl, fun _ _ _ _ hle ⟨A, c, h, s⟩ => ⟨A, c, h, s.mono hle⟩⟩


inductive Concept where
  | mk (op n : Int) (args : List Concept)
def Concept.op : Concept → Int | .mk o _ _ => o
def Concept.n : Concept → Int | .mk _ n _ => n
def Concept.args : Concept → List Concept | .mk _ _ a => a
structure Names where
  concepts : List ByteArray
  roles : List ByteArray
  inds : List ByteArray
structure Incl where
  sub : Concept
  sup : Concept
structure RoleIncl where
  sub : Int
  sup : Int
structure Fact where
  ind : Int
  con : Concept
structure Link where
  role : Int
  frm : Int
  to : Int
structure Base where
  names : Names
  incls : List Incl
  roles : List RoleIncl
  facts : List Fact
  links : List Link
structure Sig where
  concepts : List Int
  roles : List Int
structure Interp where
  size : Int
  concepts : List (List Int)
  roles : List (List (Int × Int))
  inds : List Int

theorem Concept.sizeOf_arg {c e : Concept} {i : Nat} (h : c.args[i]? = some e) : SizeOf.sizeOf e < SizeOf.sizeOf c := by
  cases c with
  | mk op n args =>
    have h1 : e ∈ args := List.mem_of_getElem? h
    have h2 := List.sizeOf_lt_of_mem h1
    have h3 : SizeOf.sizeOf (Concept.mk op n args) = 1 + SizeOf.sizeOf op + SizeOf.sizeOf n + SizeOf.sizeOf args := by simp
    omega

mutual
def qG7 (R : RO) : Concept → List Value → Prop
  | .mk op n args, cs => ∃ A d, cs = [.int .i64 op, .int .i64 n, .slice A args.length d] ∧ i64 op ∧ i64 n ∧ args.length ≤ big ∧ (args ≠ [] → ∃ b o, A = some ⟨b, o, none⟩) ∧ eQ R args (mM A) (aoff A)
def eQ (R : RO) : List Concept → Nat → Nat → Prop
  | [], _, _ => True
  | x :: xs, b, o => (∃ cs, qG7 R x cs ∧ R.at b o cs) ∧ eQ R xs b (o + 3)
end

theorem nR {R : RO} : ∀ {l : List Concept} {b o : Nat}, eQ R l b o → ∀ i x, l[i]? = some x → ∃ cs, qG7 R x cs ∧ R.at b (o + i * 3) cs
  | [], _, _, _, i, x, h => by simp at h
  | y :: ys, b, o, h, 0, x, hx => by
    simp only [List.getElem?_cons_zero, Option.some.injEq] at hx
    subst hx
    unfold eQ at h
    simpa using h.1
  | y :: ys, b, o, h, i + 1, x, hx => by
    unfold eQ at h
    obtain ⟨cs, h1, h2⟩ := nR h.2 i x (by simpa using hx)
    exact ⟨cs, h1, by rwa [show o + (i + 1) * 3 = o + 3 + i * 3 by omega]⟩
theorem eH {R : RO} : ∀ {l : List Concept} {b o : Nat}, (∀ i x, l[i]? = some x → ∃ cs, qG7 R x cs ∧ R.at b (o + i * 3) cs) → eQ R l b o
  | [], _, _, _ => by unfold eQ; trivial
  | y :: ys, b, o, h => by
    unfold eQ
    refine ⟨by simpa using h 0 y rfl, eH fun i x hx => ?_⟩
    obtain ⟨cs, h1, h2⟩ := h (i + 1) x (by simpa using hx)
    exact ⟨cs, h1, by rwa [show o + (i + 1) * 3 = o + 3 + i * 3 by omega] at h2⟩

mutual
theorem nS {R R' : RO} (hle : R.le R') : ∀ (x : Concept) (cs : List Value), qG7 R x cs → qG7 R' x cs
  | .mk op n args, cs, h => by
    unfold qG7 at h ⊢
    obtain ⟨A, d, h1, h2, h3, h4, h5, h6⟩ := h
    exact ⟨A, d, h1, h2, h3, h4, h5, lO hle args _ _ h6⟩
theorem lO {R R' : RO} (hle : R.le R') : ∀ (l : List Concept) (b o : Nat), eQ R l b o → eQ R' l b o
  | [], _, _, _ => by unfold eQ; trivial
  | x :: xs, b, o, h => by
    unfold eQ at h ⊢
    obtain ⟨⟨cs, h1, h2⟩, h3⟩ := h
    exact ⟨⟨cs, nS hle x cs h1, h2.mono hle⟩, lO hle xs _ _ h3⟩
end

def kConcept : Kd Concept := ⟨3, qG7, fun R x cs h => by cases x; unfold qG7 at h; obtain ⟨A, d, h1, _⟩ := h; rw [h1]; rfl, fun R R' x cs hle h => nS hle x cs h⟩

theorem qM {R : RO} {x : Concept} {cs : List Value} (h : kConcept.rep R x cs) : ∃ A d, cs = [.int .i64 x.op, .int .i64 x.n, .slice A x.args.length d] ∧ i64 x.op ∧ i64 x.n ∧ SlAt kConcept R A x.args := by
  cases x with
  | mk op n args =>
    have h : qG7 R (.mk op n args) cs := h
    unfold qG7 at h
    obtain ⟨A, d, h1, h2, h3, h4, h5, h6⟩ := h
    exact ⟨A, d, h1, h2, h3, h4, h5, fun i x hi => nR h6 i x hi⟩
theorem tW {R : RO} {x : Concept} {A d} (h2 : i64 x.op) (h3 : i64 x.n) (h : SlAt kConcept R A x.args) : kConcept.rep R x [.int .i64 x.op, .int .i64 x.n, .slice A x.args.length d] := by
  cases x with
  | mk op n args =>
    show qG7 R (.mk op n args) _
    unfold qG7
    exact ⟨A, d, rfl, h2, h3, h.size, h.addr, eH h.get⟩

def kNames : Kd Names := ⟨3, fun R n cs => ∃ A1 d1 A2 d2 A3 d3, cs = [.slice A1 n.concepts.length d1, .slice A2 n.roles.length d2, .slice A3 n.inds.length d3] ∧ SlAt kStr R A1 n.concepts ∧ SlAt kStr R A2 n.roles ∧ SlAt kStr R A3 n.inds,
  fun _ _ _ ⟨_, _, _, _, _, _, h, _⟩ => by rw [h]; rfl, fun _ _ _ _ hle ⟨A1, d1, A2, d2, A3, d3, h, s1, s2, s3⟩ => ⟨A1, d1, A2, d2, A3, d3, h, s1.mono hle, s2.mono hle, s3.mono hle⟩⟩
def kIncl : Kd Incl := ⟨6, fun R x cs => ∃ c1 c2, cs = c1 ++ c2 ∧ kConcept.rep R x.sub c1 ∧ kConcept.rep R x.sup c2,
  fun R x cs ⟨c1, c2, h, h1, h2⟩ => by rw [h, List.length_append, kConcept.len _ _ _ h1, kConcept.len _ _ _ h2]; rfl, fun R R' x cs hle ⟨c1, c2, h, h1, h2⟩ => ⟨c1, c2, h, kConcept.mono _ _ _ _ hle h1, kConcept.mono _ _ _ _ hle h2⟩⟩
def kRoleIncl : Kd RoleIncl := ⟨2, fun _ x cs => cs = [.int .i64 x.sub, .int .i64 x.sup] ∧ i64 x.sub ∧ i64 x.sup, fun _ _ _ h => by rw [h.1]; rfl, fun _ _ _ _ _ h => h⟩
def kFact : Kd Fact := ⟨4, fun R x cs => ∃ c1, cs = .int .i64 x.ind :: c1 ∧ i64 x.ind ∧ kConcept.rep R x.con c1,
  fun R x cs ⟨c1, h, _, h1⟩ => by rw [h, List.length_cons, kConcept.len _ _ _ h1]; rfl, fun R R' x cs hle ⟨c1, h, h0, h1⟩ => ⟨c1, h, h0, kConcept.mono _ _ _ _ hle h1⟩⟩
def kLink : Kd Link := ⟨3, fun _ x cs => cs = [.int .i64 x.role, .int .i64 x.frm, .int .i64 x.to] ∧ i64 x.role ∧ i64 x.frm ∧ i64 x.to, fun _ _ _ h => by rw [h.1]; rfl, fun _ _ _ _ _ h => h⟩
def kSig : Kd Sig := ⟨2, fun R s cs => ∃ A1 d1 A2 d2, cs = [.slice A1 s.concepts.length d1, .slice A2 s.roles.length d2] ∧ SlAt kInt R A1 s.concepts ∧ SlAt kInt R A2 s.roles,
  fun _ _ _ ⟨_, _, _, _, h, _⟩ => by rw [h]; rfl, fun _ _ _ _ hle ⟨A1, d1, A2, d2, h, s1, s2⟩ => ⟨A1, d1, A2, d2, h, s1.mono hle, s2.mono hle⟩⟩
def kBase : Kd Base := ⟨7, fun R b cs => ∃ cn A1 d1 A2 d2 A3 d3 A4 d4, cs = cn ++ [.slice A1 b.incls.length d1, .slice A2 b.roles.length d2, .slice A3 b.facts.length d3, .slice A4 b.links.length d4] ∧ kNames.rep R b.names cn ∧
    SlAt kIncl R A1 b.incls ∧ SlAt kRoleIncl R A2 b.roles ∧ SlAt kFact R A3 b.facts ∧ SlAt kLink R A4 b.links,
  fun _ _ _ ⟨cn, _, _, _, _, _, _, _, _, h, hn, _⟩ => by rw [h, List.length_append, kNames.len _ _ _ hn]; rfl,
  fun _ _ _ _ hle ⟨cn, A1, d1, A2, d2, A3, d3, A4, d4, h, hn, s1, s2, s3, s4⟩ => ⟨cn, A1, d1, A2, d2, A3, d3, A4, d4, h, kNames.mono _ _ _ _ hle hn, s1.mono hle, s2.mono hle, s3.mono hle, s4.mono hle⟩⟩
def kInterp : Kd Interp := ⟨4, fun R i cs => ∃ A1 d1 A2 d2 A3 d3, cs = [.int .i64 i.size, .slice A1 i.concepts.length d1, .slice A2 i.roles.length d2, .slice A3 i.inds.length d3] ∧ i64 i.size ∧ SlAt kInt.sl R A1 i.concepts ∧ SlAt kPair.sl R A2 i.roles ∧ SlAt kInt R A3 i.inds,
  fun _ _ _ ⟨_, _, _, _, _, _, h, _⟩ => by rw [h]; rfl, fun _ _ _ _ hle ⟨A1, d1, A2, d2, A3, d3, h, h0, s1, s2, s3⟩ => ⟨A1, d1, A2, d2, A3, d3, h, h0, s1.mono hle, s2.mono hle, s3.mono hle⟩⟩


section
variable {P : Program} {n : Nat} {D : List Deferred} {env env' : List (Nat × Value)} {R : RO} {G G' : List Res} {Q : Exit → Act → World → Prop} {ops : Array Oper} {rest : List Oper} {o : Oper}

theorem jV {α : Type} {k : Kd α} {l : List α} {t x y d e ty pos af} {A : Option Addr} {len cap : Nat} {i : Nat} {kd : IntKind} (hs : SlAt k R A l) (hx : ev env x = some (.slice A len cap)) (hy : ev env y = some (.int kd (i : Int))) (hlen : len = l.length) (ht : wE P t = some (e, k.sz)) (h1 : i < l.length) :
    VAL P n D env R G ⟨some d, .indexAddr t x y, ty, pos, af, none⟩ (.pointer (some ⟨mM A, aoff A + i * k.sz, none⟩)) := fun a w ha _ => by
  show ((do let z ← Instr.indexAt t (a.eval x) (a.eval y); pure (Next.value z) : Sem Next)).run P w = _
  obtain ⟨b, o, rfl⟩ := hs.addr (by intro h; subst h; simp at h1)
  rw [ha.eval hx, ha.eval hy, qT (bW ht (by omega) (by omega))]
  simp [mM, aoff, Sem.run, pure]
theorem zH {α : Type} {k : Kd α} {l : List α} {t x y d e ty pos af} {A : Option Addr} {len cap : Nat} {i : Int} {kd : IntKind} (hs : SlAt k R A l) (hx : ev env x = some (.slice A len cap)) (hy : ev env y = some (.int kd i)) (hlen : len = l.length) (ht : wE P t = some (e, k.sz)) (h0 : 0 ≤ i) (h1 : i.toNat < l.length) :
    VAL P n D env R G ⟨some d, .indexAddr t x y, ty, pos, af, none⟩ (.pointer (some ⟨mM A, aoff A + i.toNat * k.sz, none⟩)) := by
  obtain ⟨j, rfl⟩ := Int.eq_ofNat_of_zero_le h0
  exact jV hs hx hy hlen ht h1

theorem yN {t x d b o s ty pos af} {cs : List Value} {o0 : Nat} {v : Value} (j : Nat) (hat : R.at b o0 cs) (hx : ev env x = some (.pointer (some ⟨b, o, none⟩))) (ht : kR P t = some (false, s)) (ho : o = o0 + j) (hv : cs[j]? = some v) : VAL P n D env R G ⟨some d, .load t x, ty, pos, af, none⟩ v :=
  v_ldR hx ht fun w hw => by rw [ho]; exact hat.cell hw hv
theorem jA {t x d b o ty pos af} {cs : List Value} {o0 : Nat} (j : Nat) (l' : List Value) (hat : R.at b o0 cs) (hx : ev env x = some (.pointer (some ⟨b, o, none⟩))) (ht : kR P t = some (true, l'.length)) (ho : o = o0 + j) (hl : (cs.drop j).take l'.length = l') : VAL P n D env R G ⟨some d, .load t x, ty, pos, af, none⟩ (.agg l'.toArray) :=
  fS l' hx ht fun w hw i v hi => by
    rw [← hl, List.getElem?_take] at hi
    split at hi
    · rw [List.getElem?_drop] at hi
      rw [ho, Nat.add_assoc]; exact hat.cell hw hi
    · cases hi


def bt (s : ByteArray) (i : Nat) : Int := if h : i < s.size then (s[i]'h).toNat else 0
theorem cQ (s : ByteArray) (i : Nat) : 0 ≤ bt s i ∧ bt s i ≤ 255 := by
  unfold bt
  split
  · rename_i h; have := (s[i]'h).toNat_lt; omega
  · omega

theorem nT {t x y d ty pos af} {s : ByteArray} {i : Nat} {kd : IntKind} (hx : ev env x = some (.string s)) (hy : ev env y = some (.int kd (i : Int))) (ht : qI5 P t = true) (h1 : i < s.size) : VAL P n D env R G ⟨some d, .index t x y, ty, pos, af, none⟩ (.int .u8 (bt s i)) := fun a w ha _ => by
  unfold qI5 at ht
  split at ht
  · rename_i hu
    have : s[i]? = some (s[i]'h1) := by simp [h1]
    simp [execOp, Instr.index, asIntOf, ha.eval hx, ha.eval hy, run_underlying hu, this, bt, h1]
  · cases ht

theorem fD {a b : ByteArray} (h : a.data = b.data) : a = b := by cases a; cases b; simp_all
theorem dQ {a b : ByteArray} : (a.toList == b.toList) = decide (a = b) := by
  rw [ByteArray.toList_eq, ByteArray.toList_eq]
  by_cases h : a = b
  · subst h; simp
  · have : ¬ a.data = b.data := fun e => h (fD e)
    simp [h, this]

theorem eR {t x y yt d ty pos af} {s u : ByteArray} (hx : ev env x = some (.string s)) (hy : ev env y = some (.string u)) : VAL P n D env R G ⟨some d, .binOp .eql t x y yt, ty, pos, af, none⟩ (.bool (decide (s = u))) :=
  nL hx hy fun w => by
    rw [eqGuard_at_string]
    show (Op.stringOp .eql s u).run P w = _
    unfold Op.stringOp
    simp only [dQ]; rfl
theorem v_sne {t x y yt d ty pos af} {s u : ByteArray} (hx : ev env x = some (.string s)) (hy : ev env y = some (.string u)) : VAL P n D env R G ⟨some d, .binOp .neq t x y yt, ty, pos, af, none⟩ (.bool (decide (¬ s = u))) :=
  nL hx hy fun w => by
    rw [eqGuard_at_string]
    show (Op.stringOp .neq s u).run P w = _
    unfold Op.stringOp
    simp only [dQ]
    by_cases h : s = u <;> simp [h]
theorem v_sadd {t x y yt d ty pos af} {s u : ByteArray} (hx : ev env x = some (.string s)) (hy : ev env y = some (.string u)) (hl : s.size + u.size ≤ 9223372036854775807) : VAL P n D env R G ⟨some d, .binOp .add t x y yt, ty, pos, af, none⟩ (.string (s ++ u)) :=
  nL hx hy fun w => by
    show (Op.stringOp .add s u).run P w = _
    unfold Op.stringOp
    simp only [IntKind.max_i64]
    rw [if_neg (by omega)]; rfl
end


section
variable {P : Program} {n : Nat} {D : List Deferred} {env env' : List (Nat × Value)} {R : RO} {G G' : List Res} {Q : Exit → Act → World → Prop} {ops : Array Oper} {rest : List Oper} {o : Oper}

def TQ (P : Program) (ops : Array Oper) (Qf : Act → Prop) (rest : List Oper) (n : Nat) (D : List Deferred) (env : List (Nat × Value)) (R : RO) (G : List Res) : Prop :=
  ∀ a, Env n D env a → wpQuiet P ops (fun w => Own w R G) Qf rest a

theorem wG {i : Nat} {l : List Oper} (hm : P.follows .mixedOrders = true) (hB : Region.lexB .any l.toArray = true)
    (h : TQ P l.toArray (fun a' => ∀ w', Own w' R G → Q .normal a' w') l n D env R G) : TC P (.region i l.toArray true) Q n D env R G :=
  fun a w ha hw => wp_region_quiet hm hB (hw.drew _) (by simpa using h a ha)

theorem tq {Qf : Act → Prop} {d : Nat} {op : Op} {ty : TypeId} {pos : String} {af : Array Edge} {v : Value} (h : VAL P n D env R G ⟨some d, op, ty, pos, af, none⟩ v)
    (k : TQ P ops Qf rest n D ((d, v) :: env) R G) (hn : Nat.blt d n = true := by rfl) : TQ P ops Qf (⟨some d, op, ty, pos, af, none⟩ :: rest) n D env R G := by
  intro a ha
  show if Region.wanted _ (yielded ops a.tmps) then _ else _
  rw [if_pos (by simp [Region.wanted])]
  refine ⟨v, fun w hw => ?_, ?_⟩
  · unfold Oper.quietAt
    rw [h a w ha hw]; exact ⟨rfl, rfl⟩
  · exact k _ (ha.put (Nat.le_of_ble_eq_true hn))

theorem gP {Qf : Act → Prop} {f d ty pos af at_ xs vs v} (hc : Callable P f) (hv : evs env xs = some vs) (hk : ∀ w, Own w R G → Calls P f vs.toArray w (kK R G v)) (hn : Nat.blt d n = true)
    (k : TQ P ops Qf rest n D ((d, v) :: env) R G) : TQ P ops Qf (⟨some d, .call { callee := .value (.func f), args := xs.toArray, argTypes := at_ }, ty, pos, af, none⟩ :: rest) n D env R G := by
  intro a ha
  show if Region.wanted _ (yielded ops a.tmps) then _ else _
  rw [if_pos (by simp [Region.wanted])]
  refine ⟨v, fun w hw => ?_, k _ (ha.put (Nat.le_of_ble_eq_true hn))⟩
  unfold Oper.quietAt
  rw [cP ha hc hv]
  exact ⟨rfl, (hk w hw).mono fun e w' h => h⟩

theorem xU {Qf : Act → Prop} {dst : Option Nat} {op ty pos af j want} (d0 : Nat) (hj : (ops[j]?).bind (·.dst) = some d0) (hv : lk env d0 = some (.bool want))
    (h : TQ P ops Qf (⟨dst, op, ty, pos, af, none⟩ :: rest) n D env R G) : TQ P ops Qf (⟨dst, op, ty, pos, af, some (j, want)⟩ :: rest) n D env R G := by
  intro a ha
  have h := h a ha
  have h : (if Region.wanted (⟨dst, op, ty, pos, af, none⟩ : Oper) (yielded ops a.tmps) then _ else _ : Prop) := h
  show if Region.wanted _ (yielded ops a.tmps) then _ else _
  rw [sR ha hj hv]
  rw [if_pos (by simp [Region.wanted])] at h
  rw [if_pos (by simp)]
  exact h
theorem xA {Qf : Act → Prop} {dst op ty pos af j want} (d0 : Nat) (hj : (ops[j]?).bind (·.dst) = some d0) (hv : lk env d0 = some (.bool (!want))) (hn : Nat.blt dst n = true)
    (h : TQ P ops Qf rest n D ((dst, undef) :: env) R G) : TQ P ops Qf (⟨some dst, op, ty, pos, af, some (j, want)⟩ :: rest) n D env R G := by
  intro a ha
  show if Region.wanted _ (yielded ops a.tmps) then _ else _
  rw [sR ha hj hv, if_neg (by cases want <;> simp)]
  exact h _ (ha.put (Nat.le_of_ble_eq_true hn))
theorem gT {Qf : Act → Prop} {dst op ty pos af j want} (d0 : Nat) (hj : (ops[j]?).bind (·.dst) = some d0) (hv : lk env d0 = some undef) (hn : Nat.blt dst n = true)
    (h : TQ P ops Qf rest n D ((dst, undef) :: env) R G) : TQ P ops Qf (⟨some dst, op, ty, pos, af, some (j, want)⟩ :: rest) n D env R G := by
  intro a ha
  have hy : yielded ops a.tmps j = none := by
    unfold yielded
    rw [hj, Option.bind_some, ha.get _ _ hv]; rfl
  show if Region.wanted _ (yielded ops a.tmps) then _ else _
  rw [if_neg (by simp [Region.wanted, hy])]
  exact h _ (ha.put (Nat.le_of_ble_eq_true hn))
theorem yI {Qf : Act → Prop} {p : Prop} [Decidable p] (d0 : Nat) (hv : lk env d0 = some (.bool (decide p))) (h1 : p → TQ P ops Qf rest n D ((d0, .bool true) :: env) R G) (h2 : ¬ p → TQ P ops Qf rest n D ((d0, .bool false) :: env) R G) : TQ P ops Qf rest n D env R G := by
  intro a ha
  by_cases k : p
  · refine h1 k a ⟨ha.size, ha.defers, fun t v e => ?_⟩
    by_cases e' : d0 = t
    · subst e'; rw [yU] at e; cases e; rw [ha.get _ _ hv]; simp [k]
    · rw [yT e'] at e; exact ha.get t v e
  · refine h2 k a ⟨ha.size, ha.defers, fun t v e => ?_⟩
    by_cases e' : d0 = t
    · subst e'; rw [yU] at e; cases e; rw [ha.get _ _ hv]; simp [k]
    · rw [yT e'] at e; exact ha.get t v e
theorem vY {Qf : Act → Prop} {t : Bool} (d0 : Nat) (hv : lk env d0 = some (.bool t)) (h1 : t = true → TQ P ops Qf rest n D ((d0, .bool true) :: env) R G) (h2 : t = false → TQ P ops Qf rest n D ((d0, .bool false) :: env) R G) : TQ P ops Qf rest n D env R G :=
  yI (p := t = true) d0 (by rw [hv]; cases t <;> rfl) h1 fun h => h2 (by simpa using h)

theorem vD (h : TX Q .normal n D env R G) : TQ P ops (fun a' => ∀ w', Own w' R G → Q .normal a' w') [] n D env R G := fun a ha => wpQuiet_nil fun w hw => h a w ha hw

def TS (P : Program) (ops : Array Oper) (Lq : World → Act → Prop) (rest : List Oper) (n : Nat) (D : List Deferred) (env : List (Nat × Value)) (R : RO) (G : List Res) : Prop :=
  ∀ a w, Env n D env a → Own w R G → wpStill P ops w (Lq w) rest a

theorem mN {i : Nat} {l : List Oper} (m : Nat) (hm : P.follows .mixedOrders = true) (hB : Region.lexTailB .any l.toArray m = true)
    (h : TS P l.toArray (fun w a' => wpList P l.toArray Q (l.drop m) a' w) (l.take m) n D env R G) : TC P (.region i l.toArray true) Q n D env R G :=
  fun a w ha hw => wp_region_still_tail m hm hB (h a _ ha (hw.drew _))

theorem ts {Lq : World → Act → Prop} {d : Nat} {op : Op} {ty : TypeId} {pos : String} {af : Array Edge} {v : Value} (h : VAL P n D env R G ⟨some d, op, ty, pos, af, none⟩ v)
    (k : TS P ops Lq rest n D ((d, v) :: env) R G) (hn : Nat.blt d n = true := by rfl) : TS P ops Lq (⟨some d, op, ty, pos, af, none⟩ :: rest) n D env R G := by
  intro a w ha hw
  show if Region.wanted _ (yielded ops a.tmps) then _ else _
  rw [if_pos (by simp [Region.wanted])]
  unfold Oper.still
  rw [h a w ha hw, Oper.stillUpon_value]
  exact k _ _ (ha.put (Nat.le_of_ble_eq_true hn)) hw

theorem qI6 {l : List Oper} (h : TL P ops Q l n D env R G) : TS P ops (fun w a' => wpList P ops Q l a' w) [] n D env R G := fun a w ha hw => h a w ha hw
end

section
variable {P : Program} {n : Nat} {D : List Deferred} {env env' : List (Nat × Value)} {R : RO} {G G' : List Res} {Q : Exit → Act → World → Prop} {ops : Array Oper} {rest : List Oper} {o : Oper}

theorem jG {x d i ty pos af} {vs : Array Value} {v : Value} (hx : ev env x = some (.tuple vs)) (hv : vs[i]? = some v) : VAL P n D env R G ⟨some d, .extract x i, ty, pos, af, none⟩ v := fun a w ha _ => by
  simp [execOp, Instr.extract, ha.eval hx, hv]

theorem dR {t x y yt d a b ty pos af} (hx : ev env x = some (.int .i64 a)) (hy : ev env y = some (.int .i64 b)) (h0 : 0 ≤ a ∧ a ≤ 9223372036854775807) (h1 : 1 ≤ b) : VAL P n D env R G ⟨some d, .binOp .quo t x y yt, ty, pos, af, none⟩ (.int .i64 (a / b)) :=
  nL hx hy fun w => by
    rw [eqGuard_at_int, binOp_quo]
    unfold Op.intDiv
    rw [if_neg (by omega)]
    have e : a.tdiv b = a / b := Int.tdiv_eq_ediv_of_nonneg h0.1
    have h2 : 0 ≤ a / b := Int.ediv_nonneg h0.1 (by omega)
    have h3 : a / b ≤ a := Int.ediv_le_self _ h0.1
    show Result.ok (Value.int .i64 (IntKind.i64.wrap (a.tdiv b))) w = _
    rw [e, dM (by omega) (by omega)]
theorem v_rem {t x y yt d a b ty pos af} (hx : ev env x = some (.int .i64 a)) (hy : ev env y = some (.int .i64 b)) (h0 : 0 ≤ a) (h1 : 1 ≤ b) : VAL P n D env R G ⟨some d, .binOp .rem t x y yt, ty, pos, af, none⟩ (.int .i64 (a % b)) :=
  nL hx hy fun w => by
    rw [eqGuard_at_int, binOp_rem]
    unfold Op.intDiv
    rw [if_neg (by omega)]
    have e : a.tmod b = a % b := Int.tmod_eq_emod_of_nonneg h0
    show Result.ok (Value.int .i64 (a.tmod b)) w = _
    rw [e]

theorem v_max {t u x y d a b ty pos af} (hx : ev env x = some (.int .i64 a)) (hy : ev env y = some (.int .i64 b)) : VAL P n D env R G ⟨some d, .call { callee := .builtin .max, args := #[x, y], argTypes := #[t, u] }, ty, pos, af, none⟩ (.int .i64 (max a b)) := fun a' w ha _ => by
  have h : (if a < b then b else a) = max a b := by omega
  have e : (Builtin.max_ #[t, u] ty #[.int .i64 a, .int .i64 b]).run P w = .ok (.int .i64 (max a b)) w := by
    simp [Builtin.max_, Builtin.max2, h]
  simp [execOp, resolve, invoke, builtin, ha.eval hx, ha.eval hy, e]
theorem v_min {t u x y d a b ty pos af} (hx : ev env x = some (.int .i64 a)) (hy : ev env y = some (.int .i64 b)) : VAL P n D env R G ⟨some d, .call { callee := .builtin .min, args := #[x, y], argTypes := #[t, u] }, ty, pos, af, none⟩ (.int .i64 (min a b)) := fun a' w ha _ => by
  have h : (if b < a then b else a) = min a b := by omega
  have e : (Builtin.min_ #[t, u] ty #[.int .i64 a, .int .i64 b]).run P w = .ok (.int .i64 (min a b)) w := by
    simp [Builtin.min_, Builtin.min2, h]
  simp [execOp, resolve, invoke, builtin, ha.eval hx, ha.eval hy, e]

theorem tx_ret3 {fn : Func} {Rp : Ending → World → Prop} {t u x : Nat} {v v' v'' : Value} {e : Exit} (he : e = .ret ∨ e = .normal) (hr : fn.results = #[.tmp t, .tmp u, .tmp x]) (hv : lk env t = some v) (hv' : lk env u = some v') (hv'' : lk env x = some v'') (h : ∀ w, Own w R G → Rp (.returned (.tuple #[v, v', v''])) w) : TX (bodyPost P fn Rp) e n [] env R G := by
  intro a w ha hw
  have : (results fn a.tmps).run P w = .ok (.tuple #[v, v', v'']) w := by
    simp [results, hr, ha.get _ _ hv, ha.get _ _ hv', ha.get _ _ hv'']
  rcases he with rfl | rfl <;> exact ⟨ha.defers, _, this, h w hw⟩
end



def Kd.reps {α : Type} (k : Kd α) (R : RO) : List α → List Value → Prop
  | [], cs => cs = []
  | x :: xs, cs => ∃ c1 c2, cs = c1 ++ c2 ∧ k.rep R x c1 ∧ k.reps R xs c2

theorem Kd.reps_mono {α} {k : Kd α} {R R' : RO} (h : R.le R') : ∀ {l : List α} {cs}, k.reps R l cs → k.reps R' l cs
  | [], _, e => e
  | x :: xs, _, ⟨c1, c2, e, h1, h2⟩ => ⟨c1, c2, e, k.mono _ _ _ _ h h1, Kd.reps_mono h h2⟩
theorem Kd.reps_length {α} {k : Kd α} {R : RO} : ∀ {l : List α} {cs}, k.reps R l cs → cs.length = l.length * k.sz
  | [], _, e => by rw [show _ = [] from e]; simp
  | x :: xs, _, ⟨c1, c2, e, h1, h2⟩ => by
    rw [e, List.length_append, k.len _ _ _ h1, Kd.reps_length h2, List.length_cons, Nat.add_mul]; omega
theorem Kd.reps_append {α} {k : Kd α} {R : RO} : ∀ {l m : List α} {cs ds}, k.reps R l cs → k.reps R m ds → k.reps R (l ++ m) (cs ++ ds)
  | [], _, _, _, e, h => by rw [show _ = [] from e]; simpa using h
  | x :: xs, m, _, ds, ⟨c1, c2, e, h1, h2⟩, h => ⟨c1, c2 ++ ds, by rw [e, List.append_assoc], h1, Kd.reps_append h2 h⟩
theorem Kd.reps_one {α} {k : Kd α} {R : RO} {x : α} {cs} (h : k.rep R x cs) : k.reps R [x] cs := ⟨cs, [], by simp, h, rfl⟩
theorem Kd.reps_get {α} {k : Kd α} {R : RO} : ∀ {l : List α} {cs}, k.reps R l cs → ∀ i x, l[i]? = some x → ∃ c, k.rep R x c ∧ ∀ j v, c[j]? = some v → cs[i * k.sz + j]? = some v
  | [], _, _, i, x, h => by simp at h
  | y :: ys, cs, ⟨c1, c2, e, h1, h2⟩, 0, x, h => by
    simp only [List.getElem?_cons_zero, Option.some.injEq] at h
    subst h
    refine ⟨c1, h1, fun j v hj => ?_⟩
    rw [e, Nat.zero_mul, Nat.zero_add, List.getElem?_append_left (List.getElem?_eq_some_iff.1 hj).1]; exact hj
  | y :: ys, cs, ⟨c1, c2, e, h1, h2⟩, i + 1, x, h => by
    obtain ⟨c, h3, h4⟩ := Kd.reps_get h2 i x (by simpa using h)
    refine ⟨c, h3, fun j v hj => ?_⟩
    have := k.len _ _ _ h1
    rw [e, List.getElem?_append_right (by rw [this, Nat.add_mul]; omega), this, show (i + 1) * k.sz + j - k.sz = i * k.sz + j by rw [Nat.add_mul]; omega]
    exact h4 j v hj

def Res.vec (v : Value) (n : Nat) (T : TypeId) (sz : Nat) (l : List Value) : Res :=
  ⟨fun b => v.ownBlock = some b, fun w => w.ownsRow 0 T sz v n l,
   fun w w' h k => by
    obtain ⟨h1, h2⟩ := k
    refine ⟨h1, ?_⟩
    rcases h2 with h2 | ⟨g, cap, cur, hv, hg, hh, r⟩
    · exact .inl h2
    · exact .inr ⟨g, cap, cur, hv, hg, (h g (by rw [hv]; rfl)).trans hh, r⟩,
   fun w k b hb => by
    rcases k.2 with ⟨h2, _⟩ | ⟨g, cap, cur, hv, hg, hh, r⟩
    · rw [h2] at hb; simp [Value.ownBlock] at hb
    · rw [hv] at hb
      have : g = b := by simpa [Value.ownBlock] using hb
      exact this ▸ zV hh⟩

theorem Own.vecnil {w R G} (h : Own w R G) (T : TypeId) (sz : Nat) : Own w R (.vec (.slice none 0 0) 0 T sz [] :: G) :=
  h.new rfl rfl rfl (fun _ _ => rfl) ⟨by simp, .inl ⟨rfl, rfl⟩⟩ fun b hb => by simp [Res.vec, Value.ownBlock] at hb

theorem Own.retireVec {α} {k : Kd α} {w R G A cap T} {l : List α} {cs : List Value} (h : Own w R (.vec (.slice A l.length cap) l.length T k.sz cs :: G)) (hr : k.reps R l cs) (hsz : 0 < k.sz) (hb : l.length ≤ big) :
    ∃ R', R.le R' ∧ Own w R' G ∧ SlAt k R' A l ∧ (∀ w', Own w' R' G → Own w' R (.vec (.slice A l.length cap) l.length T k.sz cs :: G)) := by
  have hv : w.ownsRow 0 T k.sz (.slice A l.length cap) l.length cs := h.holds _ (.head _)
  rcases hv.2 with ⟨h2, h3⟩ | ⟨g, cap', cur, hv', hg, hh, r1, r2, r3, r4⟩
  · have : l = [] := List.eq_nil_of_length_eq_zero h3
    subst this
    refine ⟨R, .refl R, h.tail, SlAt.nil _ _ _, fun w' hw' => ?_⟩
    have e : cs = [] := hr
    rw [h2]
    subst e
    exact hw'.vecnil T k.sz
  · obtain ⟨rfl, -, rfl⟩ : A = some ⟨g, 0, none⟩ ∧ l.length = l.length ∧ cap = cap' := by simpa using hv'
    have h0 : R.heap g = none := h.away _ (.head _) g rfl
    have hblk : Own w R (.blk g cur.toList T :: G) := by
      refine ⟨h.os, h.tape, h.output, h.ro, fun s hs => ?_, fun s hs => ?_, List.pairwise_cons.2 ⟨fun s hs b hb => ?_, h.tail.apart⟩⟩
      · rcases List.mem_cons.1 hs with rfl | hs
        · simpa [Res.blk] using hh
        · exact h.holds s (.tail _ hs)
      · rcases List.mem_cons.1 hs with rfl | hs
        · intro b hb; have : b = g := hb; exact this ▸ h0
        · exact h.away s (.tail _ hs)
      · have : b = g := hb
        exact (List.pairwise_cons.1 h.apart).1 s hs b (by rw [this]; rfl)
    obtain ⟨h1, h2⟩ := hblk.retire
    refine ⟨_, h1, h2, ⟨hb, fun _ => ⟨g, 0, rfl⟩, fun i x hi => ?_⟩, fun w' hw' => ?_⟩
    · obtain ⟨c, hc1, hc2⟩ := Kd.reps_get hr i x hi
      refine ⟨c, k.mono _ _ _ _ h1 hc1, fun j v hj => ⟨cur, T, (0, 0), by simp [RO.add, mM], ?_⟩⟩
      have := hc2 j v hj
      rw [← r4, List.getElem?_take] at this
      split at this
      · simpa [aoff] using this
      · cases this
    · have hg' : w'.heap[g]? = some (.cells cur T (0, 0)) := by
        have := hw'.ro g (.cells cur.toList.toArray T (0, 0)) (by simp [RO.add])
        simpa using this
      have hlow := hw'.weaken h1
      refine ⟨hlow.os, hlow.tape, hlow.output, hlow.ro, fun s hs => ?_, fun s hs => ?_, List.pairwise_cons.2 ⟨fun s hs b hb hc => ?_, hw'.apart⟩⟩
      · rcases List.mem_cons.1 hs with rfl | hs
        · exact ⟨hv.1, .inr ⟨g, cap, cur, rfl, hg, hg', r1, r2, r3, r4⟩⟩
        · exact hw'.holds s hs
      · rcases List.mem_cons.1 hs with rfl | hs
        · intro b hb
          have : g = b := by simpa [Res.vec, Value.ownBlock] using hb
          exact this ▸ h0
        · exact hlow.away s hs
      · have e : g = b := by simpa [Res.vec, Value.ownBlock] using hb
        have := hw'.away s hs b hc
        rw [← e] at this
        simp [RO.add] at this

section
variable {P : Program} {n : Nat} {D : List Deferred} {env env' : List (Nat × Value)} {R : RO} {G G' : List Res} {Q : Exit → Act → World → Prop} {ops : Array Oper} {rest : List Oper} {o : Oper}

theorem tl_own (h : ∀ w, Own w R G → Own w R G') (k : TL P ops Q rest n D env R G') : TL P ops Q rest n D env R G := fun a w ha hw => k a w ha (h w hw)
theorem tc_own {c : Code} (h : ∀ w, Own w R G → Own w R G') (k : TC P c Q n D env R G') : TC P c Q n D env R G := fun a w ha hw => k a w ha (h w hw)

def yO (P : Program) (t : TypeId) : Option (TypeId × Nat × Nat × List Value) :=
  match P.underlying t with
  | some (.slice e) => match P.info? e with
    | some i => match i.zero with
      | some z => if z.cells.size = i.size ∧ 0 < i.size then some (e, i.size, i.bytes, z.cells.toList) else none
      | none => none
    | none => none
  | _ => none

theorem pT {t e s by_ zs} (h : yO P t = some (e, s, by_, zs)) : P.underlying t = some (.slice e) ∧ ∃ i z, P.info? e = some i ∧ i.zero = some z ∧ i.size = s ∧ i.bytes = by_ ∧ z.cells.size = s ∧ 0 < s := by
  unfold yO at h
  split at h
  · rename_i e' hu
    split at h
    · rename_i i hi
      split at h
      · rename_i z hz
        split at h
        · rename_i hc
          simp only [Option.some.injEq, Prod.mk.injEq] at h
          obtain ⟨rfl, rfl, rfl, -⟩ := h
          exact ⟨hu, i, z, hi, hz, rfl, rfl, hc.1, hc.2⟩
        · cases h
      · cases h
    · cases h
  · cases h

theorem rG {w : World} {t ty e : TypeId} {i : TypeInfo} {z : Value} (ht : P.underlying t = some (.slice e)) (hi : P.info? e = some i) (hz : i.zero = some z)
    (hzs : z.cells.size = i.size) (hsz : 0 < i.size) (v : Value) (n : Nat) (xs : List Value) (hown : w.ownsRow 0 e i.size v n xs)
    (b o m c : Nat) (news : List Value) (hl : news.length = m * i.size) (hnews : ∀ j u, news[j]? = some u → w.cell? ⟨b, o + j, none⟩ = some u) (h1 : ∀ u ∈ news, u.oneCell' = true)
    (h63 : n + m ≤ 9223372036854775807) (hbytes : (n + m) * i.bytes ≤ 140737488355328) :
    ∃ v' w', (Builtin.append_ #[t, t] ty #[v, .slice (some ⟨b, o, none⟩) m c]).run P w = .ok v' w' ∧ w'.ownsRow 0 e i.size v' (n + m) (xs ++ news) ∧ w.grownBy w' v.ownBlock ∧
      ∀ g, v'.ownBlock = some g → v.ownBlock = some g ∨ w.heap.size ≤ g := by
  have hnews' : ∀ j u, news[j]? = some u → w.cell? ((⟨b, o, none⟩ : Addr).add j) = some u := fun j u h => by rw [cO]; exact hnews j u h
  obtain ⟨v', w', hr, ho, hg, -⟩ := run_append_own (P := P) w 0 t ty e i z i.size i.bytes ht hi hz rfl rfl hzs hsz v n xs hown ⟨b, o, none⟩ m c news hl hnews' h1 (by simpa [maxLen] using h63) hbytes (Nat.zero_le _)
  refine ⟨v', w', hr, ho, hg, fun g hgv => ?_⟩
  rcases hown.2 with ⟨rfl, rfl⟩ | ⟨g0, cap, cur, rfl, hbg, hg0, hnc, hcm, hcs, htake⟩
  · have hx : xs = [] := List.eq_nil_of_length_eq_zero (by simpa using hown.1)
    subst hx
    obtain ⟨v2, w2, hr2, ho2, -, -⟩ := run_append_own (P := P) w w.heap.size t ty e i z i.size i.bytes ht hi hz rfl rfl hzs hsz (.slice none 0 0) 0 [] (World.ownsRow_nil w _ e i.size) ⟨b, o, none⟩ m c news hl hnews' h1 (by simpa [maxLen] using h63) hbytes (Nat.le_refl _)
    rw [hr] at hr2
    simp only [Result.ok.injEq] at hr2
    obtain ⟨rfl, rfl⟩ := hr2
    exact .inr (ho2.lt g hgv).1
  · by_cases hroom : n + m ≤ cap
    · have hfit : n * i.size + news.length ≤ cur.size := by rw [hl, hcs, ← Nat.add_mul]; exact Nat.mul_le_mul_right _ hroom
      have hr2 := run_append_room (P := P) w t ty e i ht hi g0 n cap cur hg0 ⟨b, o, none⟩ m c news hl hnews' h1 hroom hfit
      rw [hr] at hr2
      simp only [Result.ok.injEq] at hr2
      rw [hr2.1] at hgv
      exact .inl hgv
    · have hr2 := run_append_grow (P := P) w t ty e i z ht hi hz ⟨g0, 0, none⟩ n cap xs hown.1 (hown.cells (g := g0) rfl) ⟨b, o, none⟩ m c news hl hnews' (by omega) (by omega) (growslice_fits (by omega) hbytes)
      rw [hr] at hr2
      simp only [Result.ok.injEq] at hr2
      rw [hr2.1] at hgv
      have : w.heap.size = g := by simpa [Value.ownBlock] using hgv
      exact .inr (by omega)

theorem nU {t e sz by_ : Nat} {zs : List Value} {d : Nat} {ty pos af} {s x : Operand} {A : Option Addr} {cap len : Nat} {l news : List Value} {b oo m c : Nat} (i : Nat) (hi : yO P t = some (e, sz, by_, zs)) (hs : ev env s = some (.slice A len cap)) (hG : G[i]? = some (.vec (.slice A len cap) len e sz l))
    (hx : ev env x = some (.slice (some ⟨b, oo, none⟩) m c)) (hl : news.length = m * sz) (hnews : ∀ w, Own w R G → ∀ j u, news[j]? = some u → w.cell? ⟨b, oo + j, none⟩ = some u) (h1 : ∀ u ∈ news, u.oneCell' = true)
    (h63 : len + m ≤ 9223372036854775807) (hby : (len + m) * by_ ≤ 140737488355328) (hn : Nat.blt d n = true)
    (k : ∀ A' c', TL P ops Q rest n D ((d, .slice A' (len + m) c') :: env) R (G.set i (.vec (.slice A' (len + m) c') (len + m) e sz (l ++ news)))) : TL P ops Q (⟨some d, .call { callee := .builtin .append, args := #[s, x], argTypes := #[t, t] }, ty, pos, af, none⟩ :: rest) n D env R G := by
  intro a w ha hw
  obtain ⟨hu, inf, z, hinf, hz, hsz, hbytes, hzs, h0⟩ := pT hi
  subst hsz
  subst hbytes
  have hv : w.ownsRow 0 e inf.size (.slice A len cap) len l := hw.holds _ (List.mem_of_getElem? hG)
  refine wpList_plain rfl fun K hK => ?_
  obtain ⟨v', w', hr, ho, hg, hnew⟩ := rG (ty := ty) hu hinf hz hzs h0 _ len l hv b oo m c news hl (hnews w hw) h1 h63 hby
  obtain ⟨A', c', rfl⟩ : ∃ A' c', v' = .slice A' (len + m) c' := by
    rcases ho.2 with ⟨h2, h3⟩ | ⟨g, cap', cur, hv', _⟩
    · exact ⟨none, 0, by rw [h2, h3]⟩
    · exact ⟨_, _, hv'⟩
  have hrun : (execOp a.eval ⟨some d, .call { callee := .builtin .append, args := #[s, x], argTypes := #[t, t] }, ty, pos, af, none⟩).run P w = .ok (.value (.slice A' (len + m) c')) w' := by
    simp [execOp, resolve, invoke, builtin, ha.eval hs, ha.eval hx, hr]
  unfold Oper.wp
  rw [hrun]
  exact hK _ _ (k A' c' _ _ (ha.put (Nat.le_of_ble_eq_true hn)) (hw.stepAt hG hg.os hg.tape hg.output (fun x hx hf => hg.block x hx fun e => hf e.symm) ho fun x hx => hnew x hx))

theorem qI7 {l : List Value} (h : l.all one = true) : ∀ u ∈ l, u.oneCell' = true := fun u hu => by
  have := List.all_eq_true.1 h u hu
  cases u <;> first | rfl | (simp [one] at this)

theorem yJ {α : Type} {k : Kd α} {l : List α} {e : α} {t eT by_ : Nat} {zs : List Value} {d : Nat} {ty pos af} {s x : Operand} {A : Option Addr} {cap : Nat} {cs ds : List Value} {b Tb : Nat} (i j : Nat) (hv : k.reps R l cs) (he : k.rep R e ds) (hi : yO P t = some (eT, k.sz, by_, zs)) (hs : ev env s = some (.slice A l.length cap)) (hG : G[i]? = some (.vec (.slice A l.length cap) l.length eT k.sz cs))
    (hx : ev env x = some (.slice (some ⟨b, 0, none⟩) 1 1)) (hB : G[j]? = some (.blk b ds Tb)) (h1 : ds.all one = true) (hlen : l.length ≤ 1000000000) (hby : Nat.ble by_ 1000 = true) (hn : Nat.blt d n = true)
    (kont : ∀ A' c' cs', k.reps R (l ++ [e]) cs' → TL P ops Q rest n D ((d, .slice A' (l ++ [e]).length c') :: env) R (G.set i (.vec (.slice A' (l ++ [e]).length c') (l ++ [e]).length eT k.sz cs'))) : TL P ops Q (⟨some d, .call { callee := .builtin .append, args := #[s, x], argTypes := #[t, t] }, ty, pos, af, none⟩ :: rest) n D env R G := by
  have hd := k.len _ _ _ he
  have hb2 := Nat.le_of_ble_eq_true hby
  have hmul : (l.length + 1) * by_ ≤ (l.length + 1) * 1000 := Nat.mul_le_mul_left _ hb2
  refine nU i hi hs hG hx (news := ds) (by rw [hd]; omega) (fun w hw j u hj => bA hw hB (by simpa using hj)) (qI7 h1) (by omega) (by omega) hn fun A' c' => ?_
  have := kont A' c' (cs ++ ds) (Kd.reps_append hv (Kd.reps_one he))
  simpa using this

theorem cR (T sz : Nat) (k : TL P ops Q rest n D env R (.vec (.slice none 0 0) 0 T sz [] :: G)) : TL P ops Q rest n D env R G := tl_own (fun w hw => hw.vecnil T sz) k

theorem nV (vs : List Value) : ∀ (l : List Value) (o : Nat), o + vs.length ≤ l.length → hU l o vs = l.take o ++ vs ++ l.drop (o + vs.length) := by
  induction vs with
  | nil => intro l o h; simp [hU]
  | cons v vs ih =>
    intro l o h
    simp only [List.length_cons] at h
    unfold hU
    rw [ih _ _ (by simp; omega)]
    rw [List.take_add_one, List.getElem?_set_self (by omega), List.take_set_of_le (by omega), List.drop_set_of_lt (by omega)]
    simp [Nat.add_assoc, Nat.add_comm 1]
theorem aI (off : Nat) : ∀ (l : List Value) (k : Nat) (cs : Array Value), ((l.zipIdx k).foldl (fun (cs : Array Value) (p : Value × Nat) => cs.setIfInBounds (off + p.2) p.1) cs) = (hU cs.toList (off + k) l).toArray
  | [], k, cs => by simp [hU]
  | v :: l, k, cs => by
    rw [List.zipIdx_cons, List.foldl_cons, aI off l (k + 1)]
    simp only [hU, Array.toList_setIfInBounds, Nat.add_assoc]
theorem qA7 (sz : Nat) : ∀ (vs : List Value) (k : Nat) (pre tail : List Value), pre.length = k * sz → tail.length = vs.length * sz → (∀ v ∈ vs, v.cells.size = sz) →
    Instr.fill (fun i => some (i * sz, sz)) (pre ++ tail).toArray ((List.range' k vs.length).zip vs) = some (pre ++ vs.flatMap fun v => v.cells.toList).toArray
  | [], k, pre, tail, h1, h2, _ => by
    have : tail = [] := List.eq_nil_of_length_eq_zero (by simpa using h2)
    subst this
    simp [Instr.fill]
  | v :: vs, k, pre, tail, h1, h2, h3 => by
    have hv : v.cells.size = sz := h3 v (by simp)
    simp only [List.length_cons, Nat.add_mul, Nat.one_mul] at h2
    simp only [List.length_cons, List.range'_succ, List.zip_cons_cons]
    unfold Instr.fill
    simp only []
    have hc : (decide (v.cells.size ≠ sz) || decide (k * sz + v.cells.size > (pre ++ tail).toArray.size)) = false := by
      simp [hv, h1]; omega
    rw [hc]
    simp only [Bool.false_eq_true, if_false]
    have hl : v.cells.toList.length = sz := by simpa using hv
    have e1 : v.cells.zipIdx.foldl (fun (cs : Array Value) (x : Value × Nat) => match x with | (c, j) => cs.setIfInBounds (k * sz + j) c) (pre ++ tail).toArray = ((pre ++ v.cells.toList) ++ tail.drop sz).toArray := by
      have e2 := aI (k * sz) v.cells.toList 0 (pre ++ tail).toArray
      rw [Nat.add_zero, nV _ _ _ (by simp [hv, h1]; omega)] at e2
      have e3 : v.cells.zipIdx.foldl (fun (cs : Array Value) (p : Value × Nat) => cs.setIfInBounds (k * sz + p.2) p.1) (pre ++ tail).toArray = (v.cells.toList.zipIdx 0).foldl (fun (cs : Array Value) (p : Value × Nat) => cs.setIfInBounds (k * sz + p.2) p.1) (pre ++ tail).toArray := by
        rw [← Array.foldl_toList]; simp
      refine Eq.trans e3 (e2.trans ?_)
      rw [hl, ← h1]
      simp [List.take_left', List.drop_append]
    rw [e1, qA7 sz vs (k + 1) (pre ++ v.cells.toList) (tail.drop sz) (by simp [h1, hv, Nat.add_mul]) (by simp; omega) fun u hu => h3 u (by simp [hu])]
    simp

theorem jB {t e sz by_ len : Nat} {zs vs : List Value} {d : Nat} {ty pos af} {ps : List (Nat × Operand)} (cells : List Value) (hi : yO P t = some (e, sz, by_, zs)) (hv : evs env (ps.map Prod.snd) = some vs) (hl : Nat.ble (len * sz) 16777216 = true)
    (hidx : ps.map Prod.fst = List.range' 0 len) (hlen : vs.length = len) (hsz1 : (vs.all fun v => Nat.beq v.cells.size sz) = true) (hcells : (vs.flatMap fun v => v.cells.toList) = cells) (hn : Nat.blt d n = true)
    (k : ∀ b, TL P ops Q rest n D ((d, .slice (some ⟨b, 0, none⟩) len len) :: env) R (.blk b cells e :: G)) : TL P ops Q (⟨some d, .buildSlice t len ps.toArray, ty, pos, af, none⟩ :: rest) n D env R G := by
  have hgen : ∀ za : Array Value, Instr.fill (fun i => some (i * sz, sz)) ((Array.range (len * sz)).map (za[· % za.size]!)) ((ps.map Prod.fst).zip vs) = some cells.toArray := fun za => by
    have h := qA7 sz vs 0 [] ((Array.range (len * sz)).map (za[· % za.size]!)).toList (by simp) (by simp [hlen]) fun v hv' => Nat.eq_of_beq_eq_true (List.all_eq_true.1 hsz1 v hv')
    rw [List.nil_append, List.nil_append, hcells, hlen, Array.toArray_toList] at h
    rw [hidx]
    exact h
  obtain ⟨za, hza, hf⟩ : ∃ za, (if len * sz = 0 then #[] else zs.toArray) = za ∧ Instr.fill (fun i => some (i * sz, sz)) ((Array.range (len * sz)).map (za[· % za.size]!)) ((ps.map Prod.fst).zip vs) = some cells.toArray := ⟨_, rfl, hgen _⟩
  clear hgen hidx hlen hsz1 hcells
  intro a w ha hw
  obtain ⟨hu, inf, z, hinf, hz, hsz, hbytes, hzs, h0⟩ := pT hi
  have hzc : z.cells.toList = zs := by
    unfold yO at hi
    rw [hu] at hi
    simp only [hinf, hz] at hi
    split at hi
    · simp only [Option.some.injEq, Prod.mk.injEq] at hi; exact hi.2.2.2
    · cases hi
  have hzz : (zeroValue e).run P w = .ok z w := by unfold zeroValue; rw [qT (kT hinf), hz]; rfl
  have hso : (sizeOf e).run P w = .ok sz w := by unfold sizeOf; rw [qT (kT hinf), ← hsz]; rfl
  have hparts : (ps.toArray.map fun (p : Nat × Operand) => (p.1, a.eval p.2)).toList = (ps.map Prod.fst).zip vs := by
    rw [← aH ha hv]
    simp only [List.map_toArray]
    clear hv hf
    induction ps with
    | nil => rfl
    | cons p ps ih => simpa using ih
  have hrun : (execOp a.eval ⟨some d, .buildSlice t len ps.toArray, ty, pos, af, none⟩).run P w = .ok (.value (.slice (some ⟨w.heap.size, 0, none⟩) len len)) { w with heap := w.heap.push (.cells cells.toArray e (0, 0)) } := by
    have e1 : (Instr.buildSlice t len (ps.toArray.map fun (p : Nat × Operand) => (p.1, a.eval p.2))).run P w = .ok (.slice (some ⟨w.heap.size, 0, none⟩) len len) { w with heap := w.heap.push (.cells cells.toArray e (0, 0)) } := by
      have hl2 := Nat.le_of_ble_eq_true hl
      have hgt : ¬ (len * sz > 2 ^ 24) := by omega
      unfold Instr.buildSlice
      rw [qT (run_underlying hu w)]
      simp only []
      rw [qT hso]
      simp only [hgt, if_false]
      by_cases h00 : len * sz = 0
      · rw [if_pos h00] at hza ⊢
        rw [qT (x := (#[] : Array Value)) (w' := w) rfl, hza, hparts, hf]
        simp [newRow, newObj, Sem.run, bind, Sem.bind, pure]
      · rw [if_neg h00] at hza ⊢
        rw [qT hzz, qT (x := z.cells) (w' := w) rfl, show z.cells = za by rw [← hza, ← hzc], hparts, hf]
        simp [newRow, newObj, Sem.run, bind, Sem.bind, pure]
    show ((do let z ← Instr.buildSlice t len (ps.toArray.map fun (p : Nat × Operand) => (p.1, a.eval p.2)); pure (Next.value z) : Sem Next)).run P w = _
    rw [qT e1]; rfl
  refine wpList_plain rfl fun K hK => ?_
  unfold Oper.wp
  rw [hrun]
  exact hK _ _ (k _ _ _ (ha.put (Nat.le_of_ble_eq_true hn)) (hw.push cells e))

theorem fT {α : Type} {k : Kd α} {w : World} {b T : Nat} {l : List α} {cells : List Value} (h : Own w R (.blk b cells T :: G)) (hr : k.reps R l cells) (hb : l.length ≤ big) :
    ∃ R', R.le R' ∧ SlAt k R' (some ⟨b, 0, none⟩) l ∧ Own w R' G := by
  obtain ⟨h1, h2⟩ := h.retire
  refine ⟨_, h1, ⟨hb, fun _ => ⟨b, 0, rfl⟩, fun i x hi => ?_⟩, h2⟩
  obtain ⟨c, hc1, hc2⟩ := Kd.reps_get hr i x hi
  refine ⟨c, k.mono _ _ _ _ h1 hc1, fun j v hj => ⟨cells.toArray, T, (0, 0), by simp [RO.add, mM], ?_⟩⟩
  have := hc2 j v hj
  simpa [aoff] using this
theorem zI {α : Type} {k : Kd α} {b T : Nat} {l : List α} {cells : List Value} (i : Nat) (hG : G[i]? = some (.blk b cells T)) (hr : k.reps R l cells) (hb : l.length ≤ big)
    (kont : ∀ R', R.le R' → SlAt k R' (some ⟨b, 0, none⟩) l → TL P ops Q rest n D env R' (G.eraseIdx i)) : TL P ops Q rest n D env R G := fun a w ha hw => by
  have h1 := hw.perm (wU i G)
  have e : pick i G = .blk b cells T :: G.eraseIdx i := by unfold pick; rw [hG]
  rw [e] at h1
  obtain ⟨R', h2, h3, h4⟩ := fT h1 hr hb
  exact kont R' h2 h3 a w ha h4
theorem dS {α : Type} {k : Kd α} {l : List α} {A : Option Addr} {cap T : Nat} {cs : List Value} {w : World} (i : Nat) (hw : Own w R G) (hG : G[i]? = some (.vec (.slice A l.length cap) l.length T k.sz cs)) (hr : k.reps R l cs) (hsz : Nat.blt 0 k.sz = true) (hb : l.length ≤ big) :
    ∃ R', R.le R' ∧ SlAt k R' A l ∧ Own w R' (G.eraseIdx i) := by
  have h1 := hw.perm (wU i G)
  have e : pick i G = .vec (.slice A l.length cap) l.length T k.sz cs :: G.eraseIdx i := by unfold pick; rw [hG]
  rw [e] at h1
  obtain ⟨R', h2, h3, h4, -⟩ := Own.retireVec h1 hr (Nat.le_of_ble_eq_true hsz) hb
  exact ⟨R', h2, h4, h3⟩

theorem tX {α : Type} {k : Kd α} {l : List α} {f d ty pos af at_ xs vs v} {A : Option Addr} {cap T : Nat} {cs : List Value} (i : Nat) (hG : G[i]? = some (.vec (.slice A l.length cap) l.length T k.sz cs)) (hr : k.reps R l cs) (hsz : Nat.blt 0 k.sz = true) (hb : l.length ≤ 1000000000)
    (hc : Callable P f) (hv : evs env xs = some vs) (hk : ∀ R' w, R.le R' → SlAt k R' A l → Own w R' (G.eraseIdx i) → Calls P f vs.toArray w (kK R' (G.eraseIdx i) v)) (hn : Nat.blt d n = true)
    (kont : TL P ops Q rest n D ((d, v) :: env) R G) : TL P ops Q (⟨some d, .call { callee := .value (.func f), args := xs.toArray, argTypes := at_ }, ty, pos, af, none⟩ :: rest) n D env R G := by
  refine xC (G' := G) hc hv (fun w hw => ?_) hn kont
  have h1 := hw.perm (wU i G)
  have hp : G.Perm (pick i G) := wU i G
  have e : pick i G = .vec (.slice A l.length cap) l.length T k.sz cs :: G.eraseIdx i := by unfold pick; rw [hG]
  rw [e] at h1 hp
  obtain ⟨R', h2, h3, h4, h5⟩ := Own.retireVec h1 hr (Nat.le_of_ble_eq_true hsz) (by unfold big; omega)
  refine (hk R' w h2 h4 h3).mono ?_
  rintro e w' ⟨rfl, ho⟩
  exact ⟨rfl, (h5 w' ho).perm hp.symm⟩
end
end Go.Proofs.YtcbcdlajnmkioaaGreatDoor
