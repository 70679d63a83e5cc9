/- Equality of keys, as the language makes it. -/
import Derived.Test.YtoegpalacppllaaSl
import Derived.Test.YtoegpalacppllaaVals
import Derived.ChangeKeysEq
namespace Go.Proofs.Ytoegpalacppllaa
open Go.RowKit Pl

section
variable {P : Program}
/-- what an array of 16 bytes asks -/
structure TyK (P : Program) (t e : TypeId) : Prop where
  u : P.underlying t = some (.array 16 e)
  b : P.underlying e = some (.int .u8)
  info : ∃ i, P.info? e = some i
  one : P.cellsOf e = 1
  agg : ∀ w, (isAgg e).run P w = .ok false w
  plain : P.eqGuardType P.depth t = false

theorem run_part1 {e : TypeId} (ha : ∀ w, (isAgg e).run P w = .ok false w) {xs : Array Value} {off : Nat} {v : Value} (hx : xs[off]? = some v) (w : World) : (part e xs off).run P w = .ok v w := by
  simp [part, ha w, hx]
theorem run_eqB8 {e : TypeId} (hb : P.underlying e = some (.int .u8)) (d : Nat) (x y : BitVec 8) (w : World) : (Op.equalIn (d + 1) e (B8 x) (B8 y)).run P w = .ok (decide (x = y)) w := by
  have h : ((x.toNat : Int) == (y.toNat : Int)) = decide (x = y) := by
    rw [show ((x.toNat : Int) == (y.toNat : Int)) = decide ((x.toNat : Int) = (y.toNat : Int)) from rfl]
    apply decide_eq_decide.2
    exact ⟨fun e => BitVec.eq_of_toNat_eq (by omega), fun e => by rw [e]⟩
  simp [Op.equalIn, run_underlying hb, h]
theorem run_eqItems8 {t e : TypeId} (h : TyK P t e) (a b : Kw) (d : Nat) (w : World) : ∀ is : List Nat, (∀ i ∈ is, i < 16) → (Op.eqItems (d + 1) e 1 (kc a).toArray (kc b).toArray is).run P w = .ok (decide (∀ i ∈ is, byt a i = byt b i)) w
  | [], _ => by simp [Op.eqItems]
  | i :: is, hi => by
    have h16 : i < 16 := hi i (by simp)
    have pa : (part e (kc a).toArray (i * 1)).run P w = .ok (B8 (byt a i)) w := run_part1 h.agg (by simpa using kc_get a i h16) w
    have pb : (part e (kc b).toArray (i * 1)).run P w = .ok (B8 (byt b i)) w := run_part1 h.agg (by simpa using kc_get b i h16) w
    have ih := run_eqItems8 h a b d w is fun j hj => hi j (by simp [hj])
    simp only [Op.eqItems, Sem.run_bind, pa, pb, Result.andThen_ok, run_eqB8 h.b]
    by_cases hx : byt a i = byt b i
    · simp [hx, ih]
    · simp [hx]
theorem run_eqlK {t e : TypeId} (h : TyK P t e) (a b : Kw) (w : World) : (binOp .eql t (keyV a) (keyV b)).run P w = .ok (.bool (decide (a = b))) w := by
  obtain ⟨i, hi⟩ := h.info
  have h1 := run_eqItems8 h a b 9998 w (List.range 16) (fun i hi => List.mem_range.1 hi)
  have h2 := run_equalIn_array w 9999 (kc a).toArray (kc b).toArray h.u hi
  rw [h.one, h1] at h2
  have h3 : decide (∀ i ∈ List.range 16, byt a i = byt b i) = decide (a = b) := decide_eq_decide.2 ⟨fun h => ext_byt fun i hi => h i (List.mem_range.2 hi), fun h i _ => by rw [h]⟩
  unfold keyV
  rw [run_eql_struct, h2, h3]
  rfl
theorem run_neqK {t e : TypeId} (h : TyK P t e) (a b : Kw) (w : World) : (binOp .neq t (keyV a) (keyV b)).run P w = .ok (.bool (decide (a ≠ b))) w := by
  obtain ⟨i, hi⟩ := h.info
  have h1 := run_eqItems8 h a b 9998 w (List.range 16) (fun i hi => List.mem_range.1 hi)
  have h2 := run_equalIn_array w 9999 (kc a).toArray (kc b).toArray h.u hi
  rw [h.one, h1] at h2
  have h3 : decide (∀ i ∈ List.range 16, byt a i = byt b i) = decide (a = b) := decide_eq_decide.2 ⟨fun h => ext_byt fun i hi => h i (List.mem_range.2 hi), fun h i _ => by rw [h]⟩
  unfold keyV
  rw [run_neq_struct, h2, h3]
  simp

variable {bs : List Value} {us : List (Nat × Value)} {o : Oper}
theorem r_eqlK {t e t' : Nat} {p q : Operand} (h : TyK P t e) (a b : Kw) {c : Bool} (ho : o.op = .binOp .eql t p q t') (hx : ev bs us p = keyV a) (hy : ev bs us q = keyV b) (hc : decide (a = b) = c) : Runs P bs us o (.bool c) := fun w => by
  subst hc
  unfold execOp
  simp only [ho, hx, hy, keyV, Sem.run_bind, run_eqGuard_agg _ _ _ _ _ _ _ h.plain, Result.andThen_ok]
  have := run_eqlK h a b w
  unfold keyV at this
  simp [this]
theorem r_neqK {t e t' : Nat} {p q : Operand} (h : TyK P t e) (a b : Kw) {c : Bool} (ho : o.op = .binOp .neq t p q t') (hx : ev bs us p = keyV a) (hy : ev bs us q = keyV b) (hc : decide (a ≠ b) = c) : Runs P bs us o (.bool c) := fun w => by
  subst hc
  unfold execOp
  simp only [ho, hx, hy, keyV, Sem.run_bind, run_eqGuard_agg _ _ _ _ _ _ _ h.plain, Result.andThen_ok]
  have := run_neqK h a b w
  unfold keyV at this
  simp [this]
end
end Go.Proofs.Ytoegpalacppllaa
