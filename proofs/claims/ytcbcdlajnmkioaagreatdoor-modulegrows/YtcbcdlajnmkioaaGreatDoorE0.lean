/- A part of the proof of the statement ModuleGrows of isagogelaw19: rules by which code is walked. -/
import Derived.Tactics
import Derived.Below
import Derived.KernelRfl
import Derived.WalkKit
namespace Go.Proofs.YtcbcdlajnmkioaaGreatDoor
open Go

/-! ## 1. The read-only heap, what is owned, the slots -/

structure RO where
  os : Os
  tape : Nat → Question → Nat
  output : Array (Nat × ByteArray)
  heap : Nat → Option Obj

structure RO.le (R R' : RO) : Prop where
  os : R'.os = R.os
  tape : R'.tape = R.tape
  output : R'.output = R.output
  heap : ∀ b o, R.heap b = some o → R'.heap b = some o

theorem RO.le.refl (R : RO) : R.le R := ⟨rfl, rfl, rfl, fun _ _ h => h⟩
theorem RO.le.trans {R S T : RO} (h : R.le S) (k : S.le T) : R.le T :=
  ⟨k.os.trans h.os, k.tape.trans h.tape, k.output.trans h.output, fun b o e => k.heap b o (h.heap b o e)⟩

/-- A fact that is kept aside. -/
structure Aside (p : Prop) : Prop where
  out : p

/-- A resource: the blocks it owns, and what holds of them. -/
structure Res where
  foot : Nat → Prop
  holds : World → Prop
  loc : ∀ w w' : World, (∀ b, foot b → w'.heap[b]? = w.heap[b]?) → holds w → holds w'
  lt : ∀ w : World, holds w → ∀ b, foot b → b < w.heap.size

def Res.emp : Res := ⟨fun _ => False, fun _ => True, fun _ _ _ h => h, fun _ _ _ h => h.elim⟩

theorem lt_of_some {w : World} {b : Nat} {o : Obj} (h : w.heap[b]? = some o) : b < w.heap.size := (Array.getElem?_eq_some_iff.1 h).1

/-- A block of cells, known whole. -/
def Res.blk (b : Nat) (l : List Value) (T : TypeId) : Res :=
  ⟨fun x => x = b, fun w => w.heap[b]? = some (.cells l.toArray T (0, 0)),
   fun _ _ h k => (h b rfl).trans k, fun _ h _ e => e ▸ lt_of_some h⟩

/-- A block that is no row of cells, known whole (a map, an iterator). -/
def Res.raw (b : Nat) (o : Obj) : Res :=
  ⟨fun x => x = b, fun w => w.heap[b]? = some o, fun _ _ h k => (h b rfl).trans k, fun _ h _ e => e ▸ lt_of_some h⟩

structure Own (w : World) (R : RO) (G : List Res) : Prop where
  os : w.os = R.os
  tape : w.tape = R.tape
  output : w.output = R.output
  ro : ∀ b o, R.heap b = some o → w.heap[b]? = some o
  holds : ∀ r ∈ G, r.holds w
  away : ∀ r ∈ G, ∀ b, r.foot b → R.heap b = none
  apart : G.Pairwise fun r s => ∀ b, r.foot b → ¬ s.foot b

theorem Own.emp {w R G} (h : Own w R G) : Own w R (.emp :: G) :=
  ⟨h.os, h.tape, h.output, h.ro, fun r hr => by rcases List.mem_cons.1 hr with rfl | hr; exact trivial; exact h.holds r hr,
   fun r hr => by rcases List.mem_cons.1 hr with rfl | hr; exact fun _ k => k.elim; exact h.away r hr,
   List.pairwise_cons.2 ⟨fun _ _ _ k => k.elim, h.apart⟩⟩

theorem Own.tail {w R r G} (h : Own w R (r :: G)) : Own w R G :=
  ⟨h.os, h.tape, h.output, h.ro, fun r hr => h.holds r (.tail _ hr), fun r hr => h.away r (.tail _ hr), (List.pairwise_cons.1 h.apart).2⟩

theorem Own.drop {w R G} (h : Own w R G) : ∀ k, Own w R (G.drop k)
  | 0 => h
  | k + 1 => by
    cases G with
    | nil => simpa using h
    | cons r G => simpa using (Own.tail h).drop k

theorem Own.perm {w R G G'} (h : Own w R G) (p : G.Perm G') : Own w R G' :=
  ⟨h.os, h.tape, h.output, h.ro, fun r hr => h.holds r (p.mem_iff.2 hr), fun r hr => h.away r (p.mem_iff.2 hr),
   (p.pairwise_iff fun k b hb hc => k b hc hb).1 h.apart⟩

/-- Resource number k is brought to the front. -/
def pick (k : Nat) (G : List Res) : List Res := match G[k]? with
  | some r => r :: G.eraseIdx k
  | none => G

theorem pick_perm : ∀ (k : Nat) (G : List Res), G.Perm (pick k G)
  | _, [] => by simp [pick]
  | 0, r :: G => by simp [pick]
  | k + 1, r :: G => by
    have ih := pick_perm k G
    unfold pick at ih ⊢
    simp only [List.getElem?_cons_succ, List.eraseIdx_cons_succ]
    cases h : G[k]? with
    | none => exact List.Perm.refl _
    | some s =>
      simp only [h] at ih
      exact (List.Perm.cons r ih).trans (List.Perm.swap s r _)

theorem Own.weaken {w R R' G} (h : Own w R' G) (k : R.le R') : Own w R G :=
  ⟨h.os.trans k.os, h.tape.trans k.tape, h.output.trans k.output, fun b o e => h.ro b o (k.heap b o e), h.holds,
   fun r hr b hb => (by
    have := h.away r hr b hb
    cases e : R.heap b with
    | none => rfl
    | some o => rw [k.heap b o e] at this; cases this), h.apart⟩

/-- One step: it turns what the first resource owns, and makes memory. -/
theorem Own.step {w w' : World} {R G} {r r' : Res} (h : Own w R (r :: G)) (hos : w'.os = w.os) (htape : w'.tape = w.tape) (hout : w'.output = w.output)
    (hsame : ∀ b, b < w.heap.size → ¬ r.foot b → w'.heap[b]? = w.heap[b]?) (hold : r'.holds w') (hfoot : ∀ b, r'.foot b → r.foot b ∨ w.heap.size ≤ b) : Own w' R (r' :: G) := by
  have hr := h.away r (.head _)
  have hpw := List.pairwise_cons.1 h.apart
  refine ⟨hos.trans h.os, htape.trans h.tape, hout.trans h.output, fun b o e => ?_, fun s hs => ?_, fun s hs b hb => ?_, List.pairwise_cons.2 ⟨fun s hs b hb hc => ?_, hpw.2⟩⟩
  · have h1 := h.ro b o e
    rw [hsame b (lt_of_some h1) fun k => by rw [hr b k] at e; cases e]; exact h1
  · rcases List.mem_cons.1 hs with rfl | hs
    · exact hold
    · exact s.loc w w' (fun b hb => hsame b (s.lt w (h.holds s (.tail _ hs)) b hb) fun k => hpw.1 s hs b k hb) (h.holds s (.tail _ hs))
  · rcases List.mem_cons.1 hs with rfl | hs
    · rcases hfoot b hb with k | k
      · exact hr b k
      · cases e : R.heap b with
        | none => rfl
        | some o => have := lt_of_some (h.ro b o e); omega
    · exact h.away s (.tail _ hs) b hb
  · rcases hfoot b hb with k | k
    · exact hpw.1 s hs b k hc
    · have := s.lt w (h.holds s (.tail _ hs)) b hc; omega

theorem Own.drew {w R G} (h : Own w R G) (n : Nat) : Own { w with drawn := n } R G :=
  ⟨h.os, h.tape, h.output, h.ro, fun r hr => r.loc w _ (fun _ _ => rfl) (h.holds r hr), h.away, h.apart⟩

/-- A block that is owned and known whole becomes one that is only read. -/
def RO.add (R : RO) (b : Nat) (o : Obj) : RO := { R with heap := fun x => if x = b then some o else R.heap x }

theorem RO.le_add {R : RO} {b : Nat} {o : Obj} (h : R.heap b = none) : R.le (R.add b o) :=
  ⟨rfl, rfl, rfl, fun x p e => by
    show (if x = b then some o else R.heap x) = some p
    by_cases k : x = b
    · subst k; rw [h] at e; cases e
    · rw [if_neg k]; exact e⟩

theorem Own.retire {w R G b l T} (h : Own w R (.blk b l T :: G)) : R.le (R.add b (.cells l.toArray T (0, 0))) ∧ Own w (R.add b (.cells l.toArray T (0, 0))) G := by
  have h0 : R.heap b = none := h.away _ (.head _) b rfl
  have hh : w.heap[b]? = some (.cells l.toArray T (0, 0)) := h.holds _ (.head _)
  refine ⟨RO.le_add h0, h.os, h.tape, h.output, fun x o e => ?_, h.tail.holds, fun r hr x hx => ?_, h.tail.apart⟩
  · have e : (if x = b then some (Obj.cells l.toArray T (0, 0)) else R.heap x) = some o := e
    by_cases k : x = b
    · subst k; rw [if_pos rfl] at e; rw [← e]; exact hh
    · rw [if_neg k] at e; exact h.ro x o e
  · show (if x = b then some (Obj.cells l.toArray T (0, 0)) else R.heap x) = none
    rw [if_neg fun k : x = b => (List.pairwise_cons.1 h.apart).1 r hr b rfl (k ▸ hx)]
    exact h.tail.away r hr x hx

/-! ### The slots -/

def lk : List (Nat × Value) → Nat → Option Value
  | [], _ => none
  | (s, v) :: e, t => match Nat.beq s t with
    | true => some v
    | false => lk e t

structure Env (n : Nat) (D : List Deferred) (env : List (Nat × Value)) (a : Act) : Prop where
  size : a.tmps.size = n
  defers : a.defers = D
  get : ∀ t v, lk env t = some v → a.tmps[t]? = some v

theorem lk_cons_ne {s t : Nat} {v : Value} {e} (h : s ≠ t) : lk ((s, v) :: e) t = lk e t := by
  have : Nat.beq s t = false := by
    cases hb : Nat.beq s t with
    | false => rfl
    | true => exact absurd (Nat.eq_of_beq_eq_true hb) h
  simp [lk, this]

theorem lk_cons_eq {t : Nat} {v : Value} {e} : lk ((t, v) :: e) t = some v := by
  simp [lk]

theorem Env.put {n D env a d v} (h : Env n D env a) (hd : d < n) : Env n D ((d, v) :: env) (a.put (some d) v) := by
  refine ⟨by simp [Act.put, h.size], h.defers, fun t u e => ?_⟩
  by_cases k : d = t
  · subst k
    rw [lk_cons_eq] at e
    cases e
    simp [Act.put, h.size, hd]
  · rw [lk_cons_ne k] at e
    simp only [Act.put]
    rw [Array.getElem?_setIfInBounds_ne k]
    exact h.get t u e

theorem Env.putNone {n D env a v} (h : Env n D env a) : Env n D env (a.put none v) := h

/-- Fewer slots are told. -/
theorem Env.sub {n D env env' a} (h : Env n D env a) (k : ∀ t v, lk env' t = some v → lk env t = some v) : Env n D env' a :=
  ⟨h.size, h.defers, fun t v e => h.get t v (k t v e)⟩

/-- What is told is told anew, slot by slot. -/
def lkAll (env : List (Nat × Value)) : List (Nat × Value) → Prop
  | [] => True
  | (t, v) :: e => lk env t = some v ∧ lkAll env e

theorem lkAll_lk {env} : ∀ {env'}, lkAll env env' → ∀ t v, lk env' t = some v → lk env t = some v
  | [], _, _, _, e => by cases e
  | (s, u) :: env', h, t, v, e => by
    by_cases k : s = t
    · subst k; rw [lk_cons_eq] at e; cases e; exact h.1
    · rw [lk_cons_ne k] at e; exact lkAll_lk h.2 t v e

def ev (env : List (Nat × Value)) : Operand → Option Value
  | .tmp t => lk env t
  | .const v => some v
  | .global g => some (.pointer (some ⟨g, 0, none⟩))
  | .func f => some (.func (.func f) #[] #[])

theorem Env.eval {n D env a} (h : Env n D env a) {x : Operand} {v : Value} (e : ev env x = some v) : a.eval x = v := by
  cases x with
  | tmp t =>
    have := h.get t v e
    simp [Act.eval, this]
  | const u => simpa [ev, Act.eval] using e
  | global g => simpa [ev, Act.eval] using e
  | func f => simpa [ev, Act.eval] using e

/-! ## 2. The triples -/

section
variable (P : Program)

def TX (Q : Exit → Act → World → Prop) (e : Exit) (n : Nat) (D : List Deferred) (env : List (Nat × Value)) (R : RO) (G : List Res) : Prop :=
  ∀ a w, Env n D env a → Own w R G → Q e a w
def TL (ops : Array Oper) (Q : Exit → Act → World → Prop) (rest : List Oper) (n : Nat) (D : List Deferred) (env : List (Nat × Value)) (R : RO) (G : List Res) : Prop :=
  ∀ a w, Env n D env a → Own w R G → wpList P ops Q rest a w
def TC (c : Code) (Q : Exit → Act → World → Prop) (n : Nat) (D : List Deferred) (env : List (Nat × Value)) (R : RO) (G : List Res) : Prop :=
  ∀ a w, Env n D env a → Own w R G → c.wp P Q a w
end

section
variable {P : Program} {n : Nat} {D : List Deferred} {env env' : List (Nat × Value)} {R : RO} {G G' : List Res} {Q : Exit → Act → World → Prop} {ops : Array Oper} {rest : List Oper} {o : Oper}

theorem tc_seq {x y : Code} (h : TC P x (Exit.then (y.wp P Q) Q) n D env R G) : TC P (.seq x y) Q n D env R G := fun a w ha hw => wp_seq (h a w ha hw)
theorem tc_block {i : Nat} {c : Code} (h : TC P c (Exit.inBlock i Q) n D env R G) : TC P (.block i c) Q n D env R G := fun a w ha hw => wp_block (h a w ha hw)
theorem tc_skip (h : TX Q .normal n D env R G) : TC P .skip Q n D env R G := fun a w ha hw => wp_skip (h a w ha hw)
theorem tc_exit {i : Nat} (h : TX Q (.exit i) n D env R G) : TC P (.exit i) Q n D env R G := fun a w ha hw => wp_exit (h a w ha hw)
theorem tc_ret (h : TX Q .ret n D env R G) : TC P .ret Q n D env R G := fun a w ha hw => wp_ret (h a w ha hw)
theorem tc_region {i : Nat} {l : List Oper} (h : TL P l.toArray Q l n D env R G) : TC P (.region i l.toArray false) Q n D env R G := fun a w ha hw => wp_region_lit (h a w ha hw)
theorem tc_cond {c : Operand} {x y : Code} {t : Bool} (hc : ev env c = some (.bool t)) (ht : t = true → TC P x Q n D env R G) (hf : t = false → TC P y Q n D env R G) : TC P (.cond c x y) Q n D env R G :=
  fun a w ha hw => wp_cond_split (ha.eval hc) (fun h => ht h a w ha hw) (fun h => hf h a w ha hw)
theorem tc_if {c : Operand} {x y : Code} {p : Prop} [Decidable p] (hc : ev env c = some (.bool (decide p))) (ht : p → TC P x Q n D env R G) (hf : ¬ p → TC P y Q n D env R G) : TC P (.cond c x y) Q n D env R G :=
  tc_cond hc (fun h => ht (of_decide_eq_true h)) (fun h => hf (of_decide_eq_false h))
theorem tc_yes {c : Operand} {x y : Code} (hc : ev env c = some (.bool true)) (h : TC P x Q n D env R G) : TC P (.cond c x y) Q n D env R G := tc_cond hc (fun _ => h) (fun k => by cases k)
theorem tc_no {c : Operand} {x y : Code} (hc : ev env c = some (.bool false)) (h : TC P y Q n D env R G) : TC P (.cond c x y) Q n D env R G := tc_cond hc (fun k => by cases k) (fun _ => h)

theorem tl_nil (h : TX Q .normal n D env R G) : TL P ops Q [] n D env R G := fun a w ha hw => wpList_nil (h a w ha hw)

theorem tx_then {y : Code} {Q' : Exit → Act → World → Prop} (h : TC P y Q n D env R G) : TX (Exit.then (y.wp P Q) Q') .normal n D env R G := h
theorem tx_then_ret {K : Act → World → Prop} (h : TX Q .ret n D env R G) : TX (Exit.then K Q) .ret n D env R G := h
theorem tx_then_exit {K : Act → World → Prop} {i : Nat} (h : TX Q (.exit i) n D env R G) : TX (Exit.then K Q) (.exit i) n D env R G := h
theorem tx_blk {i : Nat} (h : TX Q .normal n D env R G) : TX (Exit.inBlock i Q) .normal n D env R G := h
theorem tx_blk_ret {i : Nat} (h : TX Q .ret n D env R G) : TX (Exit.inBlock i Q) .ret n D env R G := h
theorem tx_blk_exit {i : Nat} (h : TX Q .normal n D env R G) : TX (Exit.inBlock i Q) (.exit i) n D env R G := fun a w ha hw => by
  show if i = i then _ else _
  rw [if_pos rfl]; exact h a w ha hw
theorem tx_blk_other {i j : Nat} (hne : j ≠ i) (h : TX Q (.exit j) n D env R G) : TX (Exit.inBlock i Q) (.exit j) n D env R G := fun a w ha hw => by
  show if j = i then _ else _
  rw [if_neg hne]; exact h a w ha hw

/-- The slots and the resources are told anew. -/
theorem tc_env {c : Code} (env') (he : lkAll env env') (h : TC P c Q n D env' R G) : TC P c Q n D env R G := fun a w ha hw => h a w (ha.sub (lkAll_lk he)) hw
theorem tl_env (env') (he : lkAll env env') (h : TL P ops Q rest n D env' R G) : TL P ops Q rest n D env R G := fun a w ha hw => h a w (ha.sub (lkAll_lk he)) hw
theorem tx_env {e : Exit} (env') (he : lkAll env env') (h : TX Q e n D env' R G) : TX Q e n D env R G := fun a w ha hw => h a w (ha.sub (lkAll_lk he)) hw
theorem tl_pick (k : Nat) (h : TL P ops Q rest n D env R (pick k G)) : TL P ops Q rest n D env R G := fun a w ha hw => h a w ha (hw.perm (pick_perm k G))
theorem tc_pick {c : Code} (k : Nat) (h : TC P c Q n D env R (pick k G)) : TC P c Q n D env R G := fun a w ha hw => h a w ha (hw.perm (pick_perm k G))
theorem tx_pick {e : Exit} (k : Nat) (h : TX Q e n D env R (pick k G)) : TX Q e n D env R G := fun a w ha hw => h a w ha (hw.perm (pick_perm k G))
theorem tc_drop {c : Code} (k : Nat) (h : TC P c Q n D env R (G.drop k)) : TC P c Q n D env R G := fun a w ha hw => h a w ha (hw.drop k)
theorem tx_drop {e : Exit} (k : Nat) (h : TX Q e n D env R (G.drop k)) : TX Q e n D env R G := fun a w ha hw => h a w ha (hw.drop k)

/-- A loop at the head of a round. -/
def LoopAt (P : Program) (c : Code) (Q : Exit → Act → World → Prop) (a : Act) (w : World) : Prop :=
  ∀ (b : Frame) (k : List Item) (cs : List Frame), ∃ e a' w', Q e a' w' ∧ Arrives P (lone (b.at a (.code c :: .inLoop c :: k)) cs w) b k cs e a' w'
theorem loopAt_unroll {c : Code} {a : Act} {w : World} (h : c.wp P (Exit.then (LoopAt P c Q) Q) a w) : LoopAt P c Q a w := by
  intro b k cs
  obtain ⟨e, a₁, w₁, hq, harr⟩ := h b (.inLoop c :: k) cs
  cases e with
  | normal =>
    obtain ⟨e₂, a₂, w₂, hq₂, harr₂⟩ := hq b k cs
    exact ⟨e₂, a₂, w₂, hq₂, .of_steps (Steps.trans harr (.one step_inLoop)) harr₂⟩
  | exit id => exact ⟨_, a₁, w₁, hq, .pass (x := .inLoop c) rfl (fun _ _ => .inl (by simp)) harr⟩
  | goto l => exact ⟨_, a₁, w₁, hq, .pass (x := .inLoop c) rfl (fun _ _ => .inl (by simp)) harr⟩
  | ret => exact ⟨_, a₁, w₁, hq, .pass (x := .inLoop c) rfl (fun _ _ => .inl (by simp)) harr⟩
  | panic ch => exact ⟨_, a₁, w₁, hq, .pass (x := .inLoop c) rfl (fun _ _ => .inl (by simp)) harr⟩
  | outgrown => exact ⟨_, a₁, w₁, hq, .pass (x := .inLoop c) rfl (fun _ _ => .inl (by simp)) harr⟩
theorem wp_loop_at {c : Code} {a : Act} {w : World} (h : LoopAt P c Q a w) : (Code.loop c).wp P Q a w := fun b k cs =>
  let ⟨e, a', w', hq, harr⟩ := h b k cs
  ⟨e, a', w', hq, .of_steps (.one step_loop) harr⟩

/-- A loop at the head of a round, told by slots and resources. -/
def TH (P : Program) (c : Code) (Q : Exit → Act → World → Prop) (n : Nat) (D : List Deferred) (env : List (Nat × Value)) (R : RO) (G : List Res) : Prop :=
  ∀ a w, Env n D env a → Own w R G → LoopAt P c Q a w
theorem tc_loop {c : Code} (h : TH P c Q n D env R G) : TC P (.loop c) Q n D env R G := fun a w ha hw => wp_loop_at (h a w ha hw)
theorem th_round {c : Code} (h : TC P c (Exit.then (LoopAt P c Q) Q) n D env R G) : TH P c Q n D env R G := fun a w ha hw => loopAt_unroll (h a w ha hw)
theorem tx_round {c : Code} {Q' : Exit → Act → World → Prop} (h : TH P c Q n D env R G) : TX (Exit.then (LoopAt P c Q) Q') .normal n D env R G := h
theorem th_env {c : Code} (env') (he : lkAll env env') (h : TH P c Q n D env' R G) : TH P c Q n D env R G := fun a w ha hw => h a w (ha.sub (lkAll_lk he)) hw
theorem th_weaken {c : Code} {R' : RO} (k : R.le R') (h : TH P c Q n D env R G) : TH P c Q n D env R' G := fun a w ha hw => h a w ha (hw.weaken k)
theorem tc_weaken {c : Code} {R' : RO} (k : R.le R') (h : TC P c Q n D env R G) : TC P c Q n D env R' G := fun a w ha hw => h a w ha (hw.weaken k)

/-- Two ways meet: behind x the slots read env', G' is owned, and J holds, whichever way was taken. -/
theorem tc_cut {x y : Code} (env' : List (Nat × Value)) (G' : List Res) (J : RO → Prop)
    (h : ∀ K : Exit → Act → World → Prop, Aside (∀ a w R', R.le R' → J R' → Env n D env' a → Own w R' G' → K .normal a w) → Aside (∀ e a w, e ≠ .normal → Q e a w → K e a w) → TC P x K n D env R G)
    (k : ∀ R', R.le R' → J R' → TC P y Q n D env' R' G') : TC P (.seq x y) Q n D env R G :=
  tc_seq (h _ ⟨fun a w R' hle hj ha hw => k R' hle hj a w ha hw⟩ ⟨fun e a w he hq => by
    cases e <;> first | exact absurd rfl he | exact hq⟩)
theorem tx_cut {K : Exit → Act → World → Prop} {env' : List (Nat × Value)} {G' : List Res} {J : RO → Prop} {R0 : RO} (hK : Aside (∀ a w R', R0.le R' → J R' → Env n D env' a → Own w R' G' → K .normal a w))
    (hle : R0.le R) (hj : J R) (he : lkAll env env') (hg : ∀ w, Own w R G → Own w R G') : TX K .normal n D env R G := fun a w ha hw => hK.out a w R hle hj (ha.sub (lkAll_lk he)) (hg w hw)
theorem tx_cut_exit {K : Exit → Act → World → Prop} {e : Exit} (hE : Aside (∀ e a w, e ≠ .normal → Q e a w → K e a w)) (he : e ≠ .normal) (h : TX Q e n D env R G) : TX K e n D env R G := fun a w ha hw => hE.out e a w he (h a w ha hw)

/-- A loop whose rounds leave what is read as it is. -/
theorem th_loopS {c : Code} {β : Type} (μ : β → Nat) (E : β → List (Nat × Value)) (Gs : β → List Res) (I : β → Prop) (b0 : β) (henv : lkAll env (E b0)) (hI : I b0) (hG : ∀ w, Own w R G → Own w R (Gs b0))
    (round : ∀ b, I b → Aside (∀ b', I b' → μ b' < μ b → TH P c Q n D (E b') R (Gs b')) → TC P c (Exit.then (LoopAt P c Q) Q) n D (E b) R (Gs b)) : TH P c Q n D env R G := by
  have key : ∀ m b, I b → μ b = m → TH P c Q n D (E b) R (Gs b) := by
    intro m
    induction m using Nat.strongRecOn with
    | _ m ih =>
      intro b hI hm
      exact th_round (round b hI ⟨fun b' hI' hlt => ih (μ b') (hm ▸ hlt) b' hI' rfl⟩)
  exact fun a w ha hw => key _ b0 hI rfl a w (ha.sub (lkAll_lk henv)) (hG w hw)

/-- A loop, by what is told at the head of each round. -/
theorem th_loop {c : Code} {β : Type} (μ : β → Nat) (E : β → List (Nat × Value)) (Gs : β → List Res) (I : β → RO → Prop) (b0 : β) (henv : lkAll env (E b0)) (hI : I b0 R) (hG : ∀ w, Own w R G → Own w R (Gs b0))
    (round : ∀ b R', R.le R' → I b R' → Aside (∀ b' R'', R'.le R'' → I b' R'' → μ b' < μ b → TH P c Q n D (E b') R'' (Gs b')) → TC P c (Exit.then (LoopAt P c Q) Q) n D (E b) R' (Gs b)) : TH P c Q n D env R G := by
  have key : ∀ m b R', R.le R' → I b R' → μ b = m → TH P c Q n D (E b) R' (Gs b) := by
    intro m
    induction m using Nat.strongRecOn with
    | _ m ih =>
      intro b R' hle hI hm
      exact th_round (round b R' hle hI ⟨fun b' R'' hle' hI' hlt => ih (μ b') (hm ▸ hlt) b' R'' (hle.trans hle') hI' rfl⟩)
  exact fun a w ha hw => key _ b0 R (.refl R) hI rfl a w (ha.sub (lkAll_lk henv)) (hG w hw)
end
end Go.Proofs.YtcbcdlajnmkioaaGreatDoor
