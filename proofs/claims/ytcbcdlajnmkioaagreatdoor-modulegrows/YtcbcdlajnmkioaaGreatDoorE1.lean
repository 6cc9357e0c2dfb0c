/- A part of the proof of the statement ModuleGrows of isagogelaw19: rules by which code is walked. -/
import Derived.Test.YtcbcdlajnmkioaaGreatDoorE0
namespace Go.Proofs.YtcbcdlajnmkioaaGreatDoor
open Go

section
variable {P : Program} {n : Nat} {D : List Deferred} {env env' : List (Nat × Value)} {R : RO} {G G' : List Res} {Q : Exit → Act → World → Prop} {ops : Array Oper} {rest : List Oper} {o : Oper}

/-! ## 3. Operations -/

/-- The operation yields this value, and leaves the world alone. -/
def VAL (P : Program) (n : Nat) (D : List Deferred) (env : List (Nat × Value)) (R : RO) (G : List Res) (o : Oper) (v : Value) : Prop :=
  ∀ a w, Env n D env a → Own w R G → (execOp a.eval o).run P w = .ok (.value v) w

/-- Whatever yields a value and leaves the world alone. -/
theorem tl {d : Nat} {op : Op} {ty : TypeId} {pos : String} {af : Array Edge} {v : Value} (h : VAL P n D env R G ⟨some d, op, ty, pos, af, none⟩ v)
    (k : TL P ops Q rest n D ((d, v) :: env) R G) (hn : Nat.blt d n = true := by rfl) : TL P ops Q (⟨some d, op, ty, pos, af, none⟩ :: rest) n D env R G := by
  have hn : d < n := Nat.le_of_ble_eq_true hn
  intro a w ha hw
  refine wpList_plain rfl fun K hK => ?_
  unfold Oper.wp
  rw [h a w ha hw]
  simp only [Oper.upon]
  exact hK _ _ (k _ _ (ha.put hn) hw)

theorem v_move {d x v ty pos af} (hx : ev env x = some v) : VAL P n D env R G ⟨some d, .move x, ty, pos, af, none⟩ v :=
  fun a w ha _ => by simp [execOp, ha.eval hx, pure]
theorem v_assign {d x v ty pos af} (hx : ev env x = some v) : VAL P n D env R G ⟨some d, .assign x, ty, pos, af, none⟩ v :=
  fun a w ha _ => by simp [execOp, ha.eval hx, pure]
theorem run_bind_ok {α β : Type} {P : Program} {m : Sem α} {f : α → Sem β} {w w' : World} {x : α} (h : m.run P w = .ok x w') : (m >>= f).run P w = (f x).run P w' := by
  simp [h]

theorem v_bin {op t x y yt d vx vy v ty pos af} (hx : ev env x = some vx) (hy : ev env y = some vy) (hb : ∀ w, (do eqGuard op t x y vx vy; binOp op t vx vy : Sem Value).run P w = .ok v w)
    : VAL P n D env R G ⟨some d, .binOp op t x y yt, ty, pos, af, none⟩ v :=
  fun a w ha _ => by
    show ((do let z ← (do eqGuard op t x y (a.eval x) (a.eval y); binOp op t (a.eval x) (a.eval y) : Sem Value); pure (Next.value z) : Sem Next)).run P w = _
    rw [ha.eval hx, ha.eval hy, run_bind_ok (hb w)]; rfl
/-- What the operators on whole numbers yield (no division, no shift). -/
def ib (op : BinOp) (k : IntKind) (a b : Int) : Option Value :=
  match op with
  | .add => some (.int k (k.wrap (a + b)))
  | .sub => some (.int k (k.wrap (a - b)))
  | .mul => some (.int k (k.wrap (a * b)))
  | .eql => some (.bool (decide (a = b)))
  | .neq => some (.bool (decide (¬ a = b)))
  | .lss => some (.bool (decide (a < b)))
  | .leq => some (.bool (decide (a ≤ b)))
  | .gtr => some (.bool (decide (b < a)))
  | .geq => some (.bool (decide (b ≤ a)))
  | _ => none

theorem run_ib {op t x y k a b v} (h : ib op k a b = some v) : ∀ w, (do eqGuard op t x y (.int k a) (.int k b); binOp op t (.int k a) (.int k b) : Sem Value).run P w = .ok v w := by
  intro w
  rw [eqGuard_at_int]
  cases op <;> simp only [ib, Option.some.injEq, reduceCtorEq] at h <;> subst h
  · rw [binOp_add]; rfl
  · rw [binOp_sub]; rfl
  · rw [binOp_mul]; rfl
  · rw [binOp_eql]; rfl
  · rw [binOp_neq]
    have e : (a != b) = decide (¬ a = b) := by by_cases e : a = b <;> simp [e]
    rw [e]; rfl
  · rw [binOp_lss]; rfl
  · rw [binOp_leq]; rfl
  · rw [binOp_gtr]; rfl
  · rw [binOp_geq]; rfl

theorem v_ib {op t x y yt d kd a b v ty pos af} (hx : ev env x = some (.int kd a)) (hy : ev env y = some (.int kd b)) (hb : ib op kd a b = some v) : VAL P n D env R G ⟨some d, .binOp op t x y yt, ty, pos, af, none⟩ v := v_bin hx hy (run_ib hb)

/-- Sums that need no wrap. -/
theorem wrap_in {x : Int} (h1 : -9223372036854775808 ≤ x) (h2 : x ≤ 9223372036854775807) : IntKind.i64.wrap x = x := by
  rw [IntKind.wrap_i64]; omega
theorem v_add {t x y yt d a b ty pos af} (hx : ev env x = some (.int .i64 a)) (hy : ev env y = some (.int .i64 b)) (h1 : -9223372036854775808 ≤ a + b) (h2 : a + b ≤ 9223372036854775807) : VAL P n D env R G ⟨some d, .binOp .add t x y yt, ty, pos, af, none⟩ (.int .i64 (a + b)) := by
  have := v_ib (P := P) (n := n) (D := D) (R := R) (G := G) (op := .add) (t := t) (yt := yt) (d := d) (ty := ty) (pos := pos) (af := af) hx hy rfl
  rwa [wrap_in h1 h2] at this
theorem v_sub {t x y yt d a b ty pos af} (hx : ev env x = some (.int .i64 a)) (hy : ev env y = some (.int .i64 b)) (h1 : -9223372036854775808 ≤ a - b) (h2 : a - b ≤ 9223372036854775807) : VAL P n D env R G ⟨some d, .binOp .sub t x y yt, ty, pos, af, none⟩ (.int .i64 (a - b)) := by
  have := v_ib (P := P) (n := n) (D := D) (R := R) (G := G) (op := .sub) (t := t) (yt := yt) (d := d) (ty := ty) (pos := pos) (af := af) hx hy rfl
  rwa [wrap_in h1 h2] at this
theorem v_mul {t x y yt d a b ty pos af} (hx : ev env x = some (.int .i64 a)) (hy : ev env y = some (.int .i64 b)) (h1 : -9223372036854775808 ≤ a * b) (h2 : a * b ≤ 9223372036854775807) : VAL P n D env R G ⟨some d, .binOp .mul t x y yt, ty, pos, af, none⟩ (.int .i64 (a * b)) := by
  have := v_ib (P := P) (n := n) (D := D) (R := R) (G := G) (op := .mul) (t := t) (yt := yt) (d := d) (ty := ty) (pos := pos) (af := af) hx hy rfl
  rwa [wrap_in h1 h2] at this

/-- Operators on bools and strings. -/
def bb (op : BinOp) (a b : Bool) : Option Value :=
  match op with
  | .eql => some (.bool (a == b))
  | .neq => some (.bool (a != b))
  | _ => none

theorem v_neg {x d b ty pos af t} (hx : ev env x = some (.bool b)) : VAL P n D env R G ⟨some d, .unOp .not t x, ty, pos, af, none⟩ (.bool (!b)) :=
  fun a w ha _ => by
    show ((do let z ← Op.unary .not (a.eval x); pure (Next.value z) : Sem Next)).run P w = _
    rw [ha.eval hx]; rfl
/-- A number is told otherwise. -/
theorem tl_head {d v v'} (h : v = v') (k : TL P ops Q rest n D ((d, v') :: env) R G) : TL P ops Q rest n D ((d, v) :: env) R G := h ▸ k

theorem v_pick_or {d c a b p q ty pos af} (hc : ev env c = some (.bool p)) (ha : ev env a = some (.bool true)) (hb : ev env b = some (.bool q))
    : VAL P n D env R G ⟨some d, .pick c a b, ty, pos, af, none⟩ (.bool (p || q)) :=
  fun w a' h _ => by cases p <;> simp [execOp, h.eval hc, h.eval ha, h.eval hb, asBool]
theorem v_pick_t {d c a b va ty pos af} (hc : ev env c = some (.bool true)) (ha : ev env a = some va)
    : VAL P n D env R G ⟨some d, .pick c a b, ty, pos, af, none⟩ va :=
  fun w a' h _ => by simp [execOp, h.eval hc, h.eval ha, asBool]
theorem v_pick_f {d c a b vb ty pos af} (hc : ev env c = some (.bool false)) (hb : ev env b = some vb)
    : VAL P n D env R G ⟨some d, .pick c a b, ty, pos, af, none⟩ vb :=
  fun w a' h _ => by simp [execOp, h.eval hc, h.eval hb, asBool]
/-- A guarded operation: what it does is known, or both ways. -/
theorem guard_wanted {dst : Option Nat} {op ty pos af j want d0} {a : Act} {t : Bool} (ha : Env n D env a) (hj : (ops[j]?).bind (·.dst) = some d0) (hv : lk env d0 = some (.bool t)) :
    Region.wanted ⟨dst, op, ty, pos, af, some (j, want)⟩ (yielded ops a.tmps) = (t == want) := by
  have hy : yielded ops a.tmps j = some t := by
    unfold yielded
    rw [hj, Option.bind_some, ha.get _ _ hv]
  simp only [Region.wanted, hy]
  cases t <;> cases want <;> rfl
theorem tl_grun {dst : Option Nat} {op ty pos af j want} (d0 : Nat) (hj : (ops[j]?).bind (·.dst) = some d0) (hv : lk env d0 = some (.bool want))
    (h : TL P ops Q (⟨dst, op, ty, pos, af, none⟩ :: rest) n D env R G) : TL P ops Q (⟨dst, op, ty, pos, af, some (j, want)⟩ :: rest) n D env R G := by
  intro a w ha hw
  have := h a w ha hw
  unfold wpList at this ⊢
  rw [guard_wanted ha hj hv]
  rw [if_pos (by simp [Region.wanted])] at this
  rw [if_pos (by simp)]
  exact this
theorem tl_gskip {dst op ty pos af j want} (d0 : Nat) (hj : (ops[j]?).bind (·.dst) = some d0) (hv : lk env d0 = some (.bool (!want))) (hn : Nat.blt dst n = true)
    (h : TL P ops Q rest n D ((dst, undef) :: env) R G) : TL P ops Q (⟨some dst, op, ty, pos, af, some (j, want)⟩ :: rest) n D env R G := by
  intro a w ha hw
  unfold wpList
  rw [guard_wanted ha hj hv, if_neg (by cases want <;> simp)]
  exact h _ _ (ha.put (Nat.le_of_ble_eq_true hn)) hw
theorem tl_gskipu {dst op ty pos af j want} (d0 : Nat) (hj : (ops[j]?).bind (·.dst) = some d0) (hv : lk env d0 = some undef) (hn : Nat.blt dst n = true)
    (h : TL P ops Q rest n D ((dst, undef) :: env) R G) : TL P ops Q (⟨some dst, op, ty, pos, af, some (j, want)⟩ :: rest) n D env R G := by
  intro a w ha hw
  unfold wpList
  have hy : yielded ops a.tmps j = none := by
    unfold yielded
    rw [hj, Option.bind_some, ha.get _ _ hv]; rfl
  rw [if_neg (by simp [Region.wanted, hy])]
  exact h _ _ (ha.put (Nat.le_of_ble_eq_true hn)) hw
/-- A slot that holds a test: both ways, the slot told. -/
theorem tl_split {p : Prop} [Decidable p] (d0 : Nat) (hv : lk env d0 = some (.bool (decide p))) (h1 : p → TL P ops Q rest n D ((d0, .bool true) :: env) R G) (h2 : ¬ p → TL P ops Q rest n D ((d0, .bool false) :: env) R G) : TL P ops Q rest n D env R G := by
  intro a w ha hw
  by_cases k : p
  · refine h1 k a w ⟨ha.size, ha.defers, fun t v e => ?_⟩ hw
    by_cases e' : d0 = t
    · subst e'; rw [lk_cons_eq] at e; cases e; rw [ha.get _ _ hv]; simp [k]
    · rw [lk_cons_ne e'] at e; exact ha.get t v e
  · refine h2 k a w ⟨ha.size, ha.defers, fun t v e => ?_⟩ hw
    by_cases e' : d0 = t
    · subst e'; rw [lk_cons_eq] at e; cases e; rw [ha.get _ _ hv]; simp [k]
    · rw [lk_cons_ne e'] at e; exact ha.get t v e
theorem tc_split {c : Code} {p : Prop} [Decidable p] (d0 : Nat) (hv : lk env d0 = some (.bool (decide p))) (h1 : p → TC P c Q n D ((d0, .bool true) :: env) R G) (h2 : ¬ p → TC P c Q n D ((d0, .bool false) :: env) R G) : TC P c Q n D env R G := by
  intro a w ha hw
  by_cases k : p
  · refine h1 k a w ⟨ha.size, ha.defers, fun t v e => ?_⟩ hw
    by_cases e' : d0 = t
    · subst e'; rw [lk_cons_eq] at e; cases e; rw [ha.get _ _ hv]; simp [k]
    · rw [lk_cons_ne e'] at e; exact ha.get t v e
  · refine h2 k a w ⟨ha.size, ha.defers, fun t v e => ?_⟩ hw
    by_cases e' : d0 = t
    · subst e'; rw [lk_cons_eq] at e; cases e; rw [ha.get _ _ hv]; simp [k]
    · rw [lk_cons_ne e'] at e; exact ha.get t v e
theorem tc_splitb {c : Code} {t : Bool} (d0 : Nat) (hv : lk env d0 = some (.bool t)) (h1 : t = true → TC P c Q n D ((d0, .bool true) :: env) R G) (h2 : t = false → TC P c Q n D ((d0, .bool false) :: env) R G) : TC P c Q n D env R G :=
  tc_split (p := t = true) d0 (by rw [hv]; cases t <;> rfl) h1 fun h => h2 (by simpa using h)
theorem tl_splitb {t : Bool} (d0 : Nat) (hv : lk env d0 = some (.bool t)) (h1 : t = true → TL P ops Q rest n D ((d0, .bool true) :: env) R G) (h2 : t = false → TL P ops Q rest n D ((d0, .bool false) :: env) R G) : TL P ops Q rest n D env R G :=
  tl_split (p := t = true) d0 (by rw [hv]; cases t <;> rfl) h1 fun h => h2 (by simpa using h)
end
end Go.Proofs.YtcbcdlajnmkioaaGreatDoor
