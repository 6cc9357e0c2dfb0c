/- A part of the proof of the statement ModuleGrows of isagogelaw19: rules by which code is walked. -/
import Derived.Test.YtcbcdlajnmkioaaGreatDoorE4
namespace Go.Proofs.YtcbcdlajnmkioaaGreatDoor
open Go
set_option linter.unusedVariables false
set_option linter.unusedSimpArgs false
section
variable {P : Program} {n : Nat} {D : List Deferred} {env env' : List (Nat × Value)} {R : RO} {G G' : List Res} {Q : Exit → Act → World → Prop} {ops : Array Oper} {rest : List Oper} {o : Oper}

theorem v_extract {x d i ty pos af} {vs : Array Value} {v : Value} (hx : ev env x = some (.tuple vs)) (hv : vs[i]? = some v) : VAL P n D env R G ⟨some d, .extract x i, ty, pos, af, none⟩ v := fun a w ha _ => by
  simp [execOp, Instr.extract, ha.eval hx, hv]

theorem v_quo {t x y yt d a b ty pos af} (hx : ev env x = some (.int .i64 a)) (hy : ev env y = some (.int .i64 b)) (h0 : 0 ≤ a ∧ a ≤ 9223372036854775807) (h1 : 1 ≤ b) : VAL P n D env R G ⟨some d, .binOp .quo t x y yt, ty, pos, af, none⟩ (.int .i64 (a / b)) :=
  v_bin hx hy fun w => by
    rw [eqGuard_at_int, binOp_quo]
    unfold Op.intDiv
    rw [if_neg (by omega)]
    have e : a.tdiv b = a / b := Int.tdiv_eq_ediv_of_nonneg h0.1
    have h2 : 0 ≤ a / b := Int.ediv_nonneg h0.1 (by omega)
    have h3 : a / b ≤ a := Int.ediv_le_self _ h0.1
    show Result.ok (Value.int .i64 (IntKind.i64.wrap (a.tdiv b))) w = _
    rw [e, wrap_in (by omega) (by omega)]
theorem v_rem {t x y yt d a b ty pos af} (hx : ev env x = some (.int .i64 a)) (hy : ev env y = some (.int .i64 b)) (h0 : 0 ≤ a) (h1 : 1 ≤ b) : VAL P n D env R G ⟨some d, .binOp .rem t x y yt, ty, pos, af, none⟩ (.int .i64 (a % b)) :=
  v_bin hx hy fun w => by
    rw [eqGuard_at_int, binOp_rem]
    unfold Op.intDiv
    rw [if_neg (by omega)]
    have e : a.tmod b = a % b := Int.tmod_eq_emod_of_nonneg h0
    show Result.ok (Value.int .i64 (a.tmod b)) w = _
    rw [e]

theorem v_max {t u x y d a b ty pos af} (hx : ev env x = some (.int .i64 a)) (hy : ev env y = some (.int .i64 b)) : VAL P n D env R G ⟨some d, .call { callee := .builtin .max, args := #[x, y], argTypes := #[t, u] }, ty, pos, af, none⟩ (.int .i64 (max a b)) := fun a' w ha _ => by
  have h : (if a < b then b else a) = max a b := by omega
  have e : (Builtin.max_ #[t, u] ty #[.int .i64 a, .int .i64 b]).run P w = .ok (.int .i64 (max a b)) w := by
    simp [Builtin.max_, Builtin.max2, h]
  simp [execOp, resolve, invoke, builtin, ha.eval hx, ha.eval hy, e]
theorem v_min {t u x y d a b ty pos af} (hx : ev env x = some (.int .i64 a)) (hy : ev env y = some (.int .i64 b)) : VAL P n D env R G ⟨some d, .call { callee := .builtin .min, args := #[x, y], argTypes := #[t, u] }, ty, pos, af, none⟩ (.int .i64 (min a b)) := fun a' w ha _ => by
  have h : (if b < a then b else a) = min a b := by omega
  have e : (Builtin.min_ #[t, u] ty #[.int .i64 a, .int .i64 b]).run P w = .ok (.int .i64 (min a b)) w := by
    simp [Builtin.min_, Builtin.min2, h]
  simp [execOp, resolve, invoke, builtin, ha.eval hx, ha.eval hy, e]

theorem tx_ret3 {fn : Func} {Rp : Ending → World → Prop} {t u x : Nat} {v v' v'' : Value} {e : Exit} (he : e = .ret ∨ e = .normal) (hr : fn.results = #[.tmp t, .tmp u, .tmp x]) (hv : lk env t = some v) (hv' : lk env u = some v') (hv'' : lk env x = some v'') (h : ∀ w, Own w R G → Rp (.returned (.tuple #[v, v', v''])) w) : TX (bodyPost P fn Rp) e n [] env R G := by
  intro a w ha hw
  have : (results fn a.tmps).run P w = .ok (.tuple #[v, v', v'']) w := by
    simp [results, hr, ha.get _ _ hv, ha.get _ _ hv', ha.get _ _ hv'']
  rcases he with rfl | rfl <;> exact ⟨ha.defers, _, this, h w hw⟩
end
end Go.Proofs.YtcbcdlajnmkioaaGreatDoor
