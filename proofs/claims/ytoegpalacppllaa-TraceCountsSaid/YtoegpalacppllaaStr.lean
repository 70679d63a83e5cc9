/- Equality of structs; numbers that may be negative. No function of the program is in sight here. -/
import Derived.Test.YtoegpalacppllaaRep
import Derived.Laws.StructEq
namespace Go.Proofs.Ytoegpalacppllaa
open Go.RowKit Pl

section
variable {P : Program}
/-- equality of two values of a type -/
def EqV (P : Program) (d : Nat) (t : TypeId) (u v : Value) (b : Bool) : Prop := ∀ w, (Op.equalIn d t u v).run P w = .ok b w
theorem EqV.int {d : Nat} {t : TypeId} {k k' : IntKind} (h : P.underlying t = some (.int k')) (a b : Int) : EqV P (d + 1) t (.int k a) (.int k b) (decide (a = b)) := fun w => by
  rw [run_equalIn_int w d t k k' a b h]; rfl
theorem EqV.bool {d : Nat} {t : TypeId} (h : P.underlying t = some .bool) (a b : Bool) : EqV P (d + 1) t (.bool a) (.bool b) (decide (a = b)) := fun w => by
  rw [run_equalIn_bool' w d t a b h]
  cases a <;> cases b <;> rfl
theorem EqV.key {d : Nat} {t e : TypeId} (h : TyK P t e) (a b : Kw) : EqV P (d + 2) t (keyV a) (keyV b) (decide (a = b)) := fun w => by
  obtain ⟨i, hi⟩ := h.info
  have h1 := run_eqItems8 h a b d w (List.range 16) (fun i hi => List.mem_range.1 hi)
  have h2 := run_equalIn_array w (d + 1) (kc a).toArray (kc b).toArray h.u hi
  rw [h.one, h1] at h2
  have h3 : decide (∀ i ∈ List.range 16, byt a i = byt b i) = decide (a = b) := decide_eq_decide.2 ⟨fun h => ext_byt fun i hi => h i (List.mem_range.2 hi), fun h i _ => by rw [h]⟩
  unfold keyV
  rw [h2, h3]
/-- fields -/
def EqFs (P : Program) (d : Nat) (xs ys : List Value) : List Field → List Bool → Prop
  | [], [] => True
  | f :: fs, b :: bs => f.name ≠ "_" ∧ (∃ u v, (∀ w, (part f.type xs.toArray f.offset).run P w = .ok u w) ∧ (∀ w, (part f.type ys.toArray f.offset).run P w = .ok v w) ∧ EqV P d f.type u v b) ∧ EqFs P d xs ys fs bs
  | _, _ => False
theorem run_eqFs {d : Nat} {xs ys : List Value} (w : World) : ∀ {fs : List Field} {bs : List Bool}, EqFs P d xs ys fs bs → (Op.eqFields d xs.toArray ys.toArray fs).run P w = .ok (bs.all id) w
  | [], [], _ => by simp [Op.eqFields]
  | f :: fs, b :: bs, h => by
    obtain ⟨hn, ⟨u, v, h1, h2, h3⟩, h4⟩ := h
    rw [Op.eqFields, if_pos hn]
    simp only [Sem.run_bind, h1, h2, h3 w, Result.andThen_ok]
    cases b
    · simp
    · simpa using run_eqFs w h4
  | [], _ :: _, h => h.elim
  | _ :: _, [], h => h.elim
theorem EqV.struct {d : Nat} {t : TypeId} {fs : Array Field} {xs ys : List Value} {bs : List Bool} (ht : P.underlying t = some (.struct fs)) (hp : P.stoodInHeld t = false) (h : EqFs P d xs ys fs.toList bs) : EqV P (d + 1) t (.agg xs.toArray) (.agg ys.toArray) (bs.all id) := fun w => by
  have e : P.fieldsOf t = fs := by simp [Program.fieldsOf, ht]
  rw [run_equalIn_struct w d t _ _ (by rw [e]; exact ht) hp, e]
  exact run_eqFs w h
theorem part_cell {t : TypeId} (ht : TyC P t) {xs : List Value} {i : Nat} {v : Value} (hv : xs[i]? = some v) (w : World) : (part t xs.toArray i).run P w = .ok v w := run_part1 ht.agg (by simpa using hv) w
theorem part_agg {t n : Nat} (ht : TyA P t n) {xs vs : List Value} {i : Nat} (hv : (xs.drop i).take n = vs) (w : World) : (part t xs.toArray i).run P w = .ok (.agg vs.toArray) w := by
  subst hv
  simp [part, ht.agg w, ht.size w]

variable {bs : List Value} {us : List (Nat × Value)} {o : Oper}
theorem EqV.cast {d : Nat} {t : TypeId} {u v : Value} {b c : Bool} (h : EqV P d t u v b) (e : b = c) : EqV P d t u v c := e ▸ h
theorem r_eqlS {t t' : Nat} {p q : Operand} {xs ys : List Value} {e : Prop} [Decidable e] {c : Bool} (hp : P.eqGuardType P.depth t = false) (he : EqV P 10000 t (.agg xs.toArray) (.agg ys.toArray) (decide e)) (ho : o.op = .binOp .eql t p q t') (hx : ev bs us p = .agg xs.toArray) (hy : ev bs us q = .agg ys.toArray) (hc : decide e = c) : Runs P bs us o (.bool c) := fun w => by
  subst hc
  unfold execOp
  simp only [ho, hx, hy, Sem.run_bind, run_eqGuard_agg _ _ _ _ _ _ _ hp, Result.andThen_ok, run_eql_struct, he w, Sem.run_pure]
theorem r_neqS {t t' : Nat} {p q : Operand} {xs ys : List Value} {e : Prop} [Decidable e] {c : Bool} (hp : P.eqGuardType P.depth t = false) (he : EqV P 10000 t (.agg xs.toArray) (.agg ys.toArray) (decide e)) (ho : o.op = .binOp .neq t p q t') (hx : ev bs us p = .agg xs.toArray) (hy : ev bs us q = .agg ys.toArray) (hc : decide (¬ e) = c) : Runs P bs us o (.bool c) := fun w => by
  subst hc
  unfold execOp
  simp only [ho, hx, hy, Sem.run_bind, run_eqGuard_agg _ _ _ _ _ _ _ hp, Result.andThen_ok, run_neq_struct, he w, Sem.run_pure, decide_not]

/-! ### numbers that may be negative -/
theorem wrap64_int (n : Int) (h : -9223372036854775808 ≤ n) (h2 : n ≤ 9223372036854775807) : IntKind.i64.wrap n = n := by
  simp [IntKind.wrap, IntKind.bits, IntKind.signed]; omega
theorem r_addZ {t t' : Nat} {x y : Operand} {m n : Int} (ho : o.op = .binOp .add t x y t') (hx : ev bs us x = .int .i64 m) (hy : ev bs us y = .int .i64 n) (h : -9223372036854775808 ≤ m + n ∧ m + n ≤ 9223372036854775807) : Runs P bs us o (.int .i64 (m + n)) :=
  r_add ho hx hy (wrap64_int _ h.1 h.2)
theorem r_subZ {t t' : Nat} {x y : Operand} {m n : Int} (ho : o.op = .binOp .sub t x y t') (hx : ev bs us x = .int .i64 m) (hy : ev bs us y = .int .i64 n) (h : -9223372036854775808 ≤ m - n ∧ m - n ≤ 9223372036854775807) : Runs P bs us o (.int .i64 (m - n)) :=
  r_sub ho hx hy (wrap64_int _ h.1 h.2)
theorem r_mulZ {t t' : Nat} {x y : Operand} {m n : Int} (ho : o.op = .binOp .mul t x y t') (hx : ev bs us x = .int .i64 m) (hy : ev bs us y = .int .i64 n) (h : -9223372036854775808 ≤ m * n ∧ m * n ≤ 9223372036854775807) : Runs P bs us o (.int .i64 (m * n)) :=
  r_mul ho hx hy (wrap64_int _ h.1 h.2)
theorem r_shlN {t t' : Nat} {x y : Operand} {m n r : Nat} {k' : IntKind} (ho : o.op = .binOp .shl t x y t') (hx : ev bs us x = .int .i64 (m : Int)) (hy : ev bs us y = .int k' (n : Int)) (hn : n < 64) (hr : m * 2 ^ n = r) (h : r < 9223372036854775808) : Runs P bs us o (.int .i64 (r : Int)) :=
  run_sh ho hx hy fun w => by
    have h0 : ¬ ((n : Int) < 0) := by omega
    have hm : min (Int.toNat (n : Int)) 64 = n := by simp; omega
    simp only [binOp, Op.shift, h0, if_false, IntKind.bits, hm, Sem.run_pure]
    congr 3
    rw [show ((m : Int) * 2 ^ n) = ((m * 2 ^ n : Nat) : Int) by rw [Int.natCast_mul, Int.natCast_pow]; rfl, hr]
    exact wrap64_nat r h
end
end Go.Proofs.Ytoegpalacppllaa
