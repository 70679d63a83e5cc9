/- Operations one by one, over frames that are written as lists. No function of the program is in sight here. -/
import Derived.Test.YtoegpalacppllaaMem
namespace Go.Proofs.Ytoegpalacppllaa
open Go.RowKit

def nth : List Value → Nat → Value
  | [], _ => undef
  | x :: _, 0 => x
  | _ :: l, n + 1 => nth l n
def st : List Value → Nat → Value → List Value
  | [], _, _ => []
  | _ :: l, 0, v => v :: l
  | x :: l, n + 1, v => x :: st l n v
theorem nth_getD (l : List Value) (t : Nat) : l.toArray.getD t undef = nth l t := by
  rw [Array.getD_eq_getD_getElem?, List.getElem?_toArray]
  induction l generalizing t with
  | nil => simp [nth]
  | cons x l ih => cases t with
    | zero => simp [nth]
    | succ t => simpa [nth] using ih t
theorem st_set (l : List Value) (d : Nat) (v : Value) : st l d v = l.set d v := by
  induction l generalizing d with
  | nil => simp [st]
  | cons x l ih => cases d with
    | zero => simp [st]
    | succ d => simp [st, ih]

/-- a frame: what its slots held, and what has been written since, the latest first -/
def toL (bs : List Value) : List (Nat × Value) → List Value
  | [] => bs
  | (d, v) :: us => st (toL bs us) d v
def fr (bs : List Value) (us : List (Nat × Value)) (ds : List Deferred) : Act := ⟨(toL bs us).toArray, ds⟩
def look (bs : List Value) : List (Nat × Value) → Nat → Value
  | [], t => nth bs t
  | (d, v) :: us, t => cond (Nat.beq d t) (cond (Nat.blt d bs.length) v (look bs us t)) (look bs us t)
def ev (bs : List Value) (us : List (Nat × Value)) : Operand → Value
  | .tmp t => look bs us t
  | .const v => v
  | .global g => .pointer (some ⟨g, 0, none⟩)
  | .func f => .func (.func f) #[] #[]

theorem toL_len (bs : List Value) (us : List (Nat × Value)) : (toL bs us).length = bs.length := by
  induction us with
  | nil => rfl
  | cons u us ih => simp [toL, st_set, ih]
theorem nth_set (l : List Value) (d t : Nat) (v : Value) : nth (l.set d v) t = if d = t ∧ d < l.length then v else nth l t := by
  rw [← nth_getD, ← nth_getD, Array.getD_eq_getD_getElem?, Array.getD_eq_getD_getElem?, List.getElem?_toArray, List.getElem?_toArray, List.getElem?_set]
  by_cases h : d = t
  · subst h
    by_cases h2 : d < l.length
    · simp [h2]
    · simp [h2]
  · simp [h]
theorem look_nth (bs : List Value) (us : List (Nat × Value)) (t : Nat) : look bs us t = nth (toL bs us) t := by
  induction us with
  | nil => rfl
  | cons u us ih =>
    obtain ⟨d, v⟩ := u
    rw [toL, st_set, nth_set, toL_len, ← ih, look]
    by_cases h1 : d = t
    · have e1 : Nat.beq d t = true := by rw [Nat.beq_eq]; exact h1
      by_cases h2 : d < bs.length
      · have e2 : Nat.blt d bs.length = true := by rw [Nat.blt_eq]; exact h2
        rw [if_pos ⟨h1, h2⟩, e1, e2]; rfl
      · have e2 : Nat.blt d bs.length = false := by
          rw [Bool.eq_false_iff]; intro h; rw [Nat.blt_eq] at h; exact h2 h
        rw [if_neg (fun h => h2 h.2), e1, e2]; rfl
    · have e1 : Nat.beq d t = false := by rw [Bool.eq_false_iff]; intro h; exact h1 (Nat.eq_of_beq_eq_true h)
      rw [if_neg (fun h => h1 h.1), e1]; rfl
theorem eval_ev (bs : List Value) (us : List (Nat × Value)) (ds : List Deferred) : (fr bs us ds).eval = ev bs us := by
  funext x
  cases x with
  | tmp t => exact (nth_getD (toL bs us) t).trans (look_nth bs us t).symm
  | const v => rfl
  | global g => rfl
  | func f => rfl
theorem put_st (bs : List Value) (us : List (Nat × Value)) (ds : List Deferred) (d : Nat) (v : Value) : (fr bs us ds).put (some d) v = fr bs ((d, v) :: us) ds := by
  simp [fr, Act.put, toL, st_set]
theorem put_none (bs : List Value) (us : List (Nat × Value)) (ds : List Deferred) (v : Value) : (fr bs us ds).put none v = fr bs us ds := rfl

section
variable {P : Program} {bs : List Value} {us : List (Nat × Value)} {ds : List Deferred} {o : Oper} {v : Value}

/-- in whatever world the operation yields this value, and leaves the world alone -/
def Runs (P : Program) (bs : List Value) (us : List (Nat × Value)) (o : Oper) (v : Value) : Prop := ∀ w, (execOp (ev bs us) o).run P w = .ok (.value v) w

theorem r_move {x : Operand} (ho : o.op = .move x) (hx : ev bs us x = v) : Runs P bs us o v := fun w => by
  unfold execOp; simp only [ho, hx]; rfl
theorem r_assign {x : Operand} (ho : o.op = .assign x) (hx : ev bs us x = v) : Runs P bs us o v := fun w => by
  unfold execOp; simp only [ho, hx]; rfl
theorem r_pick {c x y : Operand} {b : Bool} (ho : o.op = .pick c x y) (hc : ev bs us c = .bool b) (hx : (if b then ev bs us x else ev bs us y) = v) : Runs P bs us o v := fun w => by
  unfold execOp; simp only [ho, hc]; subst hx; cases b <;> rfl
theorem r_extract {x : Operand} {i : Nat} {vs : Array Value} (ho : o.op = .extract x i) (hx : ev bs us x = .tuple vs) (hv : vs[i]? = some v) : Runs P bs us o v := fun w => by
  unfold execOp; simp only [ho, hx, Instr.extract, hv]; rfl
theorem r_makeFunc {fn : Fn} {xs ys : Array Operand} {ws vs : Array Value} (ho : o.op = .makeFunc fn xs ys) (hx : xs.map (ev bs us) = ws) (hy : ys.map (ev bs us) = vs) : Runs P bs us o (.func fn ws vs) := fun w => by
  unfold execOp; simp only [ho, hx, hy, Instr.makeFunc]; rfl
theorem r_build {t : TypeId} {parts : Array (Nat × Operand)} {ps : List (Nat × Value)} (hb : ∀ w, (Instr.build t ps.toArray).run P w = .ok v w) (ho : o.op = .build t parts) (hp : parts.toList.map (fun p => (p.1, ev bs us p.2)) = ps) : Runs P bs us o v := fun w => by
  have e : parts.map (fun (i, x) => (i, ev bs us x)) = ps.toArray := by subst hp; apply Array.ext'; simp only [Array.toList_map]
  unfold execOp; simp only [ho, e, Sem.run_bind, hb, Result.andThen_ok, Sem.run_pure]
theorem r_not {t : TypeId} {x : Operand} {b : Bool} (ho : o.op = .unOp .not t x) (hx : ev bs us x = .bool b) : Runs P bs us o (.bool !b) := fun w => by
  unfold execOp; simp only [ho, hx]; rfl
theorem r_lenStr {t : TypeId} {x : Operand} {s : ByteArray} (ht : P.underlying t = some .string) (ho : o.op = .call { callee := .builtin .len, args := #[x], argTypes := #[t] }) (hx : ev bs us x = .string s) : Runs P bs us o (.int .i64 (s.size : Int)) := fun w => by
  unfold execOp; simp [ho, hx, resolve, invoke, builtin, Builtin.len_, run_underlying ht, goInt]
theorem r_lenSlice {t e : TypeId} {x : Operand} {a : Option Addr} {n c : Nat} (ht : P.underlying t = some (.slice e)) (ho : o.op = .call { callee := .builtin .len, args := #[x], argTypes := #[t] }) (hx : ev bs us x = .slice a n c) : Runs P bs us o (.int .i64 (n : Int)) := fun w => by
  unfold execOp; simp [ho, hx, resolve, invoke, builtin, Builtin.len_, run_underlying ht, goInt]

/-! ### addresses -/
theorem r_fieldAddr {s f : Nat} {x : Operand} {fs : Array Field} {F : Field} {g i n : Nat} (e : Nat) (hs : P.underlying s = some (.struct fs)) (hF : fs[f]? = some F) (hn : ∀ w, (sizeOf F.type).run P w = .ok (n + 1) w)
    (ho : o.op = .fieldAddr s x f) (hx : ev bs us x = .pointer (some ⟨g, i, none⟩)) (he : i + F.offset = e) : Runs P bs us o (.pointer (some ⟨g, e, none⟩)) := fun w => by
  subst he
  unfold execOp
  simp only [ho, hx, Instr.fieldAt, Sem.run_bind, run_underlying hs, Result.andThen_ok, hF, Instr.sureAddr, Sem.run_pure, fieldPlace, hn, Addr.add_lit]
  rfl
theorem r_indexAddrArr {t len e sz : Nat} {x y : Operand} {g i : Nat} {k : IntKind} {n : Nat} (ht : P.underlying t = some (.array len e)) (hz : ∀ w, (sizeOf e).run P w = .ok sz w) (ho : o.op = .indexAddr t x y)
    (hx : ev bs us x = .pointer (some ⟨g, i, none⟩)) (hy : ev bs us y = .int k (n : Int)) (hn : n < len) : Runs P bs us o (.pointer (some ⟨g, i + n * sz, none⟩)) := fun w => by
  have h2 : (0 : Int) ≤ (n : Int) ∧ (n : Int) < (len : Int) := ⟨by omega, by omega⟩
  unfold execOp
  simp [ho, hx, hy, Instr.indexAt, asIntOf, run_underlying ht, Instr.sureAddr, hz, Addr.add_lit]
  intro h; omega
theorem r_indexAddrArr1 {t len e : Nat} {x y : Operand} {g : Nat} {k : IntKind} {n : Nat} (ht : P.underlying t = some (.array len e)) (hz : ∀ w, (sizeOf e).run P w = .ok 1 w) (ho : o.op = .indexAddr t x y)
    (hx : ev bs us x = .pointer (some ⟨g, 0, none⟩)) (hy : ev bs us y = .int k (n : Int)) (hn : n < len) : Runs P bs us o (.pointer (some ⟨g, n, none⟩)) := by
  have := r_indexAddrArr ht hz ho hx hy hn
  simpa using this
theorem r_indexAddrSl {t e sz : Nat} {x y : Operand} {g i len c : Nat} {k : IntKind} {n : Nat} (ht : P.underlying t = some (.slice e)) (hz : ∀ w, (sizeOf e).run P w = .ok sz w) (ho : o.op = .indexAddr t x y)
    (hx : ev bs us x = .slice (some ⟨g, i, none⟩) len c) (hy : ev bs us y = .int k (n : Int)) (hn : n < len) : Runs P bs us o (.pointer (some ⟨g, i + n * sz, none⟩)) := fun w => by
  unfold execOp
  simp [ho, hx, hy, Instr.indexAt, asIntOf, run_underlying ht, hz, Addr.add_lit]
  intro h; omega
theorem r_indexAddrSl1 {t e : Nat} {x y : Operand} {g len c : Nat} {k : IntKind} {n : Nat} (ht : P.underlying t = some (.slice e)) (hz : ∀ w, (sizeOf e).run P w = .ok 1 w) (ho : o.op = .indexAddr t x y)
    (hx : ev bs us x = .slice (some ⟨g, 0, none⟩) len c) (hy : ev bs us y = .int k (n : Int)) (hn : n < len) : Runs P bs us o (.pointer (some ⟨g, n, none⟩)) := by
  have := r_indexAddrSl ht hz ho hx hy hn
  simpa using this
theorem r_indexStr {t : Nat} {x y : Operand} {s : ByteArray} {k : IntKind} {n : Nat} {b : UInt8} (ht : P.underlying t = some .string) (ho : o.op = .index t x y)
    (hx : ev bs us x = .string s) (hy : ev bs us y = .int k (n : Int)) (hn : s[n]? = some b) : Runs P bs us o (.int .u8 (b.toBitVec.toNat : Int)) := fun w => by
  unfold execOp
  simp [ho, hx, hy, Instr.index, asIntOf, run_underlying ht, hn]

/-! ### integers -/
theorem run_int {op : BinOp} {t t' : Nat} {x y : Operand} {k : IntKind} {m n : Int} (ho : o.op = .binOp op t x y t') (hx : ev bs us x = .int k m) (hy : ev bs us y = .int k n) (h : ∀ w, (binOp op t (.int k m) (.int k n)).run P w = .ok v w) : Runs P bs us o v := fun w => by
  unfold execOp
  simp only [ho, hx, hy, eqGuard_at_int, Sem.run_bind, Sem.run_pure, Result.andThen_ok, h]
theorem run_sh {op : BinOp} {t t' : Nat} {x y : Operand} {k k' : IntKind} {m n : Int} (ho : o.op = .binOp op t x y t') (hx : ev bs us x = .int k m) (hy : ev bs us y = .int k' n) (h : ∀ w, (binOp op t (.int k m) (.int k' n)).run P w = .ok v w) : Runs P bs us o v := fun w => by
  unfold execOp
  simp only [ho, hx, hy, eqGuard_at_int, Sem.run_bind, Sem.run_pure, Result.andThen_ok, h]

theorem r_bits {op : BinOp} {t t' : Nat} {x y : Operand} {k : IntKind} {m n r : Int} (ho : o.op = .binOp op t x y t') (hx : ev bs us x = .int k m) (hy : ev bs us y = .int k n) (h : op = .and ∨ op = .or ∨ op = .xor) (hr : bits op k m n = r) : Runs P bs us o (.int k r) :=
  run_int ho hx hy fun w => by subst hr; rcases h with rfl | rfl | rfl <;> cases k <;> rfl

theorem r_add {t t' : Nat} {x y : Operand} {k : IntKind} {m n r : Int} (ho : o.op = .binOp .add t x y t') (hx : ev bs us x = .int k m) (hy : ev bs us y = .int k n) (hr : k.wrap (m + n) = r) : Runs P bs us o (.int k r) :=
  run_int ho hx hy fun w => by subst hr; simp [binOp, Op.intArith]

theorem r_sub {t t' : Nat} {x y : Operand} {k : IntKind} {m n r : Int} (ho : o.op = .binOp .sub t x y t') (hx : ev bs us x = .int k m) (hy : ev bs us y = .int k n) (hr : k.wrap (m - n) = r) : Runs P bs us o (.int k r) :=
  run_int ho hx hy fun w => by subst hr; simp [binOp, Op.intArith]

theorem r_mul {t t' : Nat} {x y : Operand} {k : IntKind} {m n r : Int} (ho : o.op = .binOp .mul t x y t') (hx : ev bs us x = .int k m) (hy : ev bs us y = .int k n) (hr : k.wrap (m * n) = r) : Runs P bs us o (.int k r) :=
  run_int ho hx hy fun w => by subst hr; simp [binOp, Op.intArith]

theorem r_lss {t t' : Nat} {x y : Operand} {k : IntKind} {m n : Int} {b : Bool} (ho : o.op = .binOp .lss t x y t') (hx : ev bs us x = .int k m) (hy : ev bs us y = .int k n) (hb : decide (m < n) = b) : Runs P bs us o (.bool b) :=
  run_int ho hx hy fun w => by subst hb; simp [binOp, Op.intCmp]

theorem r_leq {t t' : Nat} {x y : Operand} {k : IntKind} {m n : Int} {b : Bool} (ho : o.op = .binOp .leq t x y t') (hx : ev bs us x = .int k m) (hy : ev bs us y = .int k n) (hb : decide (m ≤ n) = b) : Runs P bs us o (.bool b) :=
  run_int ho hx hy fun w => by subst hb; simp [binOp, Op.intCmp]

theorem r_gtr {t t' : Nat} {x y : Operand} {k : IntKind} {m n : Int} {b : Bool} (ho : o.op = .binOp .gtr t x y t') (hx : ev bs us x = .int k m) (hy : ev bs us y = .int k n) (hb : decide (n < m) = b) : Runs P bs us o (.bool b) :=
  run_int ho hx hy fun w => by subst hb; simp [binOp, Op.intCmp]

theorem r_geq {t t' : Nat} {x y : Operand} {k : IntKind} {m n : Int} {b : Bool} (ho : o.op = .binOp .geq t x y t') (hx : ev bs us x = .int k m) (hy : ev bs us y = .int k n) (hb : decide (n ≤ m) = b) : Runs P bs us o (.bool b) :=
  run_int ho hx hy fun w => by subst hb; simp [binOp, Op.intCmp]

theorem r_eql {t t' : Nat} {x y : Operand} {k : IntKind} {m n : Int} {b : Bool} (ho : o.op = .binOp .eql t x y t') (hx : ev bs us x = .int k m) (hy : ev bs us y = .int k n) (hb : decide (m = n) = b) : Runs P bs us o (.bool b) :=
  run_int ho hx hy fun w => by subst hb; simp [binOp, Op.intCmp]; rfl

theorem r_neq {t t' : Nat} {x y : Operand} {k : IntKind} {m n : Int} {b : Bool} (ho : o.op = .binOp .neq t x y t') (hx : ev bs us x = .int k m) (hy : ev bs us y = .int k n) (hb : decide (m ≠ n) = b) : Runs P bs us o (.bool b) :=
  run_int ho hx hy fun w => by subst hb; simp [binOp, Op.intCmp]; rfl

theorem wrap64_nat (n : Nat) (h : n < 9223372036854775808) : IntKind.i64.wrap (n : Int) = (n : Int) := by
  simp [IntKind.wrap, IntKind.bits, IntKind.signed]; omega
theorem r_addN {t t' : Nat} {x y : Operand} {m n : Nat} (ho : o.op = .binOp .add t x y t') (hx : ev bs us x = .int .i64 (m : Int)) (hy : ev bs us y = .int .i64 (n : Int)) (h : m + n < 9223372036854775808) : Runs P bs us o (.int .i64 ((m + n : Nat) : Int)) :=
  r_add ho hx hy (by rw [← wrap64_nat _ h]; congr 1)
theorem r_mulN {t t' : Nat} {x y : Operand} {m n : Nat} (ho : o.op = .binOp .mul t x y t') (hx : ev bs us x = .int .i64 (m : Int)) (hy : ev bs us y = .int .i64 (n : Int)) (h : m * n < 9223372036854775808) : Runs P bs us o (.int .i64 ((m * n : Nat) : Int)) :=
  r_mul ho hx hy (by rw [← wrap64_nat _ h]; congr 1)
theorem r_subN {t t' : Nat} {x y : Operand} {m n : Nat} (ho : o.op = .binOp .sub t x y t') (hx : ev bs us x = .int .i64 (m : Int)) (hy : ev bs us y = .int .i64 (n : Int)) (h : n ≤ m) (h2 : m < 9223372036854775808) : Runs P bs us o (.int .i64 ((m - n : Nat) : Int)) :=
  r_sub ho hx hy (by rw [← wrap64_nat (m - n) (by omega)]; congr 1; omega)
theorem r_quoN {t t' : Nat} {x y : Operand} {m n : Nat} (ho : o.op = .binOp .quo t x y t') (hx : ev bs us x = .int .i64 (m : Int)) (hy : ev bs us y = .int .i64 (n : Int)) (h : 0 < n) (h2 : m < 9223372036854775808) : Runs P bs us o (.int .i64 ((m / n : Nat) : Int)) :=
  run_int ho hx hy fun w => by
    have h0 : ¬ ((n : Int) = 0) := by omega
    have h1 : m / n ≤ m := Nat.div_le_self _ _
    have := wrap64_nat (m / n) (by omega)
    simp only [binOp, Op.intDiv, h0, if_false, ne_eq, not_true_eq_false]
    rw [← this]; rfl
theorem r_remN {t t' : Nat} {x y : Operand} {m n : Nat} (ho : o.op = .binOp .rem t x y t') (hx : ev bs us x = .int .i64 (m : Int)) (hy : ev bs us y = .int .i64 (n : Int)) (h : 0 < n) : Runs P bs us o (.int .i64 ((m % n : Nat) : Int)) :=
  run_int ho hx hy fun w => by
    have h0 : ¬ ((n : Int) = 0) := by omega
    simp only [binOp, Op.intDiv, h0, if_false, ne_eq, not_true_eq_false]
    rfl

theorem r_lssN {t t' : Nat} {x y : Operand} {k : IntKind} {m n : Nat} {b : Bool} (ho : o.op = .binOp .lss t x y t') (hx : ev bs us x = .int k (m : Int)) (hy : ev bs us y = .int k (n : Int)) (hb : decide (m < n) = b) : Runs P bs us o (.bool b) :=
  r_lss ho hx hy (by subst hb; apply decide_eq_decide.2; omega)

theorem r_leqN {t t' : Nat} {x y : Operand} {k : IntKind} {m n : Nat} {b : Bool} (ho : o.op = .binOp .leq t x y t') (hx : ev bs us x = .int k (m : Int)) (hy : ev bs us y = .int k (n : Int)) (hb : decide (m ≤ n) = b) : Runs P bs us o (.bool b) :=
  r_leq ho hx hy (by subst hb; apply decide_eq_decide.2; omega)

theorem r_gtrN {t t' : Nat} {x y : Operand} {k : IntKind} {m n : Nat} {b : Bool} (ho : o.op = .binOp .gtr t x y t') (hx : ev bs us x = .int k (m : Int)) (hy : ev bs us y = .int k (n : Int)) (hb : decide (n < m) = b) : Runs P bs us o (.bool b) :=
  r_gtr ho hx hy (by subst hb; apply decide_eq_decide.2; omega)

theorem r_geqN {t t' : Nat} {x y : Operand} {k : IntKind} {m n : Nat} {b : Bool} (ho : o.op = .binOp .geq t x y t') (hx : ev bs us x = .int k (m : Int)) (hy : ev bs us y = .int k (n : Int)) (hb : decide (n ≤ m) = b) : Runs P bs us o (.bool b) :=
  r_geq ho hx hy (by subst hb; apply decide_eq_decide.2; omega)

theorem r_eqlN {t t' : Nat} {x y : Operand} {k : IntKind} {m n : Nat} {b : Bool} (ho : o.op = .binOp .eql t x y t') (hx : ev bs us x = .int k (m : Int)) (hy : ev bs us y = .int k (n : Int)) (hb : decide (m = n) = b) : Runs P bs us o (.bool b) :=
  r_eql ho hx hy (by subst hb; apply decide_eq_decide.2; omega)

theorem r_neqN {t t' : Nat} {x y : Operand} {k : IntKind} {m n : Nat} {b : Bool} (ho : o.op = .binOp .neq t x y t') (hx : ev bs us x = .int k (m : Int)) (hy : ev bs us y = .int k (n : Int)) (hb : decide (m ≠ n) = b) : Runs P bs us o (.bool b) :=
  r_neq ho hx hy (by subst hb; apply decide_eq_decide.2; omega)

/-! ### u64 -/
theorem wrap_u64_ofNat (n : Nat) : IntKind.u64.wrap (n : Int) = ((BitVec.ofNat 64 n).toNat : Int) := by
  simp [IntKind.wrap, IntKind.bits, IntKind.signed]
theorem bits_u64 (op : BinOp) (x y : BitVec 64) (r : BitVec 64) (h : (match op with | .and => x &&& y | .or => x ||| y | .xor => x ^^^ y | _ => x &&& ~~~y) = r) : bits op .u64 (x.toNat : Int) (y.toNat : Int) = (r.toNat : Int) := by
  have hx : BitVec.ofInt IntKind.u64.bits (x.toNat : Int) = x := by
    show BitVec.ofInt 64 (x.toNat : Int) = x
    rw [BitVec.ofInt_natCast, BitVec.ofNat_toNat]; simp
  have hy : BitVec.ofInt IntKind.u64.bits (y.toNat : Int) = y := by
    show BitVec.ofInt 64 (y.toNat : Int) = y
    rw [BitVec.ofInt_natCast, BitVec.ofNat_toNat]; simp
  unfold bits
  rw [hx, hy]
  subst h
  cases op <;> (rw [wrap_u64_ofNat]; congr 1; exact Nat.mod_eq_of_lt (BitVec.isLt _))

theorem r_and_u64 {t t' : Nat} {p q : Operand} {x y : BitVec 64} (ho : o.op = .binOp .and t p q t') (hx : ev bs us p = .int .u64 (x.toNat : Int)) (hy : ev bs us q = .int .u64 (y.toNat : Int)) : Runs P bs us o (.int .u64 ((x &&& y).toNat : Int)) :=
  run_int ho hx hy fun w => by rw [← bits_u64 .and x y _ rfl]; rfl

theorem r_or_u64 {t t' : Nat} {p q : Operand} {x y : BitVec 64} (ho : o.op = .binOp .or t p q t') (hx : ev bs us p = .int .u64 (x.toNat : Int)) (hy : ev bs us q = .int .u64 (y.toNat : Int)) : Runs P bs us o (.int .u64 ((x ||| y).toNat : Int)) :=
  run_int ho hx hy fun w => by rw [← bits_u64 .or x y _ rfl]; rfl

theorem r_xor_u64 {t t' : Nat} {p q : Operand} {x y : BitVec 64} (ho : o.op = .binOp .xor t p q t') (hx : ev bs us p = .int .u64 (x.toNat : Int)) (hy : ev bs us q = .int .u64 (y.toNat : Int)) : Runs P bs us o (.int .u64 ((x ^^^ y).toNat : Int)) :=
  run_int ho hx hy fun w => by rw [← bits_u64 .xor x y _ rfl]; rfl

theorem r_andNot_u64 {t t' : Nat} {p q : Operand} {x y : BitVec 64} (ho : o.op = .binOp .andNot t p q t') (hx : ev bs us p = .int .u64 (x.toNat : Int)) (hy : ev bs us q = .int .u64 (y.toNat : Int)) : Runs P bs us o (.int .u64 ((x &&& ~~~y).toNat : Int)) :=
  run_int ho hx hy fun w => by rw [← bits_u64 .andNot x y _ rfl]; rfl

theorem r_add_u64 {t t' : Nat} {p q : Operand} {x y : BitVec 64} (ho : o.op = .binOp .add t p q t') (hx : ev bs us p = .int .u64 (x.toNat : Int)) (hy : ev bs us q = .int .u64 (y.toNat : Int)) : Runs P bs us o (.int .u64 ((x + y).toNat : Int)) :=
  r_add ho hx hy (by simp [IntKind.wrap, IntKind.bits, IntKind.signed, BitVec.toNat_add])
theorem r_mul_u64 {t t' : Nat} {p q : Operand} {x y : BitVec 64} (ho : o.op = .binOp .mul t p q t') (hx : ev bs us p = .int .u64 (x.toNat : Int)) (hy : ev bs us q = .int .u64 (y.toNat : Int)) : Runs P bs us o (.int .u64 ((x * y).toNat : Int)) :=
  r_mul ho hx hy (by simp [IntKind.wrap, IntKind.bits, IntKind.signed, BitVec.toNat_mul])
theorem r_sub_u64 {t t' : Nat} {p q : Operand} {x y : BitVec 64} (ho : o.op = .binOp .sub t p q t') (hx : ev bs us p = .int .u64 (x.toNat : Int)) (hy : ev bs us q = .int .u64 (y.toNat : Int)) : Runs P bs us o (.int .u64 ((x - y).toNat : Int)) :=
  r_sub ho hx hy (by
    have h1 := x.isLt
    have h2 := y.isLt
    simp only [IntKind.wrap, IntKind.bits, IntKind.signed, BitVec.toNat_sub]
    simp
    omega)
theorem r_shl_u64 {t t' : Nat} {p q : Operand} {x : BitVec 64} {k' : IntKind} {s : Nat} (ho : o.op = .binOp .shl t p q t') (hx : ev bs us p = .int .u64 (x.toNat : Int)) (hy : ev bs us q = .int k' (s : Int)) (hs : s < 64) : Runs P bs us o (.int .u64 ((x <<< s).toNat : Int)) :=
  run_sh ho hx hy fun w => by
    have h0 : ¬ ((s : Int) < 0) := by omega
    have hm : min (Int.toNat (s : Int)) 64 = s := by simp; omega
    simp only [binOp, Op.shift, h0, if_false, IntKind.bits, hm, Sem.run_pure]
    congr 3
    rw [BitVec.toNat_shiftLeft, Nat.shiftLeft_eq]
    simp [IntKind.wrap, IntKind.bits, IntKind.signed]
theorem r_shr_u64 {t t' : Nat} {p q : Operand} {x : BitVec 64} {k' : IntKind} {s : Nat} (ho : o.op = .binOp .shr t p q t') (hx : ev bs us p = .int .u64 (x.toNat : Int)) (hy : ev bs us q = .int k' (s : Int)) (hs : s < 64) : Runs P bs us o (.int .u64 ((x >>> s).toNat : Int)) :=
  run_sh ho hx hy fun w => by
    have h0 : ¬ ((s : Int) < 0) := by omega
    have hm : min (Int.toNat (s : Int)) 64 = s := by simp; omega
    simp only [binOp, Op.shift, h0, if_false, IntKind.bits, hm, Sem.run_pure]
    congr 3
    rw [BitVec.toNat_ushiftRight, Nat.shiftRight_eq_div_pow, Int.fdiv_eq_ediv_of_nonneg _ (Int.le_of_lt (Int.pow_pos (by decide)))]
    simp
theorem r_quo_u64 {t t' : Nat} {p q : Operand} {x y : BitVec 64} (ho : o.op = .binOp .quo t p q t') (hx : ev bs us p = .int .u64 (x.toNat : Int)) (hy : ev bs us q = .int .u64 (y.toNat : Int)) (h : y ≠ 0) : Runs P bs us o (.int .u64 ((x / y).toNat : Int)) :=
  run_int ho hx hy fun w => by
    have h0 : ¬ ((y.toNat : Int) = 0) := fun e => h (by apply BitVec.eq_of_toNat_eq; simpa using e)
    have h1 : x.toNat / y.toNat ≤ x.toNat := Nat.div_le_self _ _
    have h2 := x.isLt
    simp only [binOp, Op.intDiv, h0, if_false, ne_eq, not_true_eq_false, Sem.run_pure]
    congr 3
    show IntKind.u64.wrap ((x.toNat / y.toNat : Nat) : Int) = _
    rw [wrap_u64_ofNat]
    congr 1
    rw [BitVec.toNat_udiv]
    exact Nat.mod_eq_of_lt (by omega)
theorem r_rem_u64 {t t' : Nat} {p q : Operand} {x y : BitVec 64} (ho : o.op = .binOp .rem t p q t') (hx : ev bs us p = .int .u64 (x.toNat : Int)) (hy : ev bs us q = .int .u64 (y.toNat : Int)) (h : y ≠ 0) : Runs P bs us o (.int .u64 ((x % y).toNat : Int)) :=
  run_int ho hx hy fun w => by
    have h0 : ¬ ((y.toNat : Int) = 0) := fun e => h (by apply BitVec.eq_of_toNat_eq; simpa using e)
    simp only [binOp, Op.intDiv, h0, if_false, ne_eq, not_true_eq_false, Sem.run_pure]
    rw [BitVec.toNat_umod]
    rfl
theorem r_eql_u64 {t t' : Nat} {p q : Operand} {x y : BitVec 64} {b : Bool} (ho : o.op = .binOp .eql t p q t') (hx : ev bs us p = .int .u64 (x.toNat : Int)) (hy : ev bs us q = .int .u64 (y.toNat : Int)) (hb : decide (x = y) = b) : Runs P bs us o (.bool b) :=
  r_eqlN ho hx hy (by subst hb; apply decide_eq_decide.2; exact ⟨fun e => BitVec.eq_of_toNat_eq e, fun e => by rw [e]⟩)

/-! ### u8 -/
theorem wrap_u8_ofNat (n : Nat) : IntKind.u8.wrap (n : Int) = ((BitVec.ofNat 8 n).toNat : Int) := by
  simp [IntKind.wrap, IntKind.bits, IntKind.signed]
theorem bits_u8 (op : BinOp) (x y : BitVec 8) (r : BitVec 8) (h : (match op with | .and => x &&& y | .or => x ||| y | .xor => x ^^^ y | _ => x &&& ~~~y) = r) : bits op .u8 (x.toNat : Int) (y.toNat : Int) = (r.toNat : Int) := by
  have hx : BitVec.ofInt IntKind.u8.bits (x.toNat : Int) = x := by
    show BitVec.ofInt 8 (x.toNat : Int) = x
    rw [BitVec.ofInt_natCast, BitVec.ofNat_toNat]; simp
  have hy : BitVec.ofInt IntKind.u8.bits (y.toNat : Int) = y := by
    show BitVec.ofInt 8 (y.toNat : Int) = y
    rw [BitVec.ofInt_natCast, BitVec.ofNat_toNat]; simp
  unfold bits
  rw [hx, hy]
  subst h
  cases op <;> (rw [wrap_u8_ofNat]; congr 1; exact Nat.mod_eq_of_lt (BitVec.isLt _))

theorem r_and_u8 {t t' : Nat} {p q : Operand} {x y : BitVec 8} (ho : o.op = .binOp .and t p q t') (hx : ev bs us p = .int .u8 (x.toNat : Int)) (hy : ev bs us q = .int .u8 (y.toNat : Int)) : Runs P bs us o (.int .u8 ((x &&& y).toNat : Int)) :=
  run_int ho hx hy fun w => by rw [← bits_u8 .and x y _ rfl]; rfl

theorem r_or_u8 {t t' : Nat} {p q : Operand} {x y : BitVec 8} (ho : o.op = .binOp .or t p q t') (hx : ev bs us p = .int .u8 (x.toNat : Int)) (hy : ev bs us q = .int .u8 (y.toNat : Int)) : Runs P bs us o (.int .u8 ((x ||| y).toNat : Int)) :=
  run_int ho hx hy fun w => by rw [← bits_u8 .or x y _ rfl]; rfl

theorem r_xor_u8 {t t' : Nat} {p q : Operand} {x y : BitVec 8} (ho : o.op = .binOp .xor t p q t') (hx : ev bs us p = .int .u8 (x.toNat : Int)) (hy : ev bs us q = .int .u8 (y.toNat : Int)) : Runs P bs us o (.int .u8 ((x ^^^ y).toNat : Int)) :=
  run_int ho hx hy fun w => by rw [← bits_u8 .xor x y _ rfl]; rfl

theorem r_andNot_u8 {t t' : Nat} {p q : Operand} {x y : BitVec 8} (ho : o.op = .binOp .andNot t p q t') (hx : ev bs us p = .int .u8 (x.toNat : Int)) (hy : ev bs us q = .int .u8 (y.toNat : Int)) : Runs P bs us o (.int .u8 ((x &&& ~~~y).toNat : Int)) :=
  run_int ho hx hy fun w => by rw [← bits_u8 .andNot x y _ rfl]; rfl

theorem r_add_u8 {t t' : Nat} {p q : Operand} {x y : BitVec 8} (ho : o.op = .binOp .add t p q t') (hx : ev bs us p = .int .u8 (x.toNat : Int)) (hy : ev bs us q = .int .u8 (y.toNat : Int)) : Runs P bs us o (.int .u8 ((x + y).toNat : Int)) :=
  r_add ho hx hy (by simp [IntKind.wrap, IntKind.bits, IntKind.signed, BitVec.toNat_add])
theorem r_mul_u8 {t t' : Nat} {p q : Operand} {x y : BitVec 8} (ho : o.op = .binOp .mul t p q t') (hx : ev bs us p = .int .u8 (x.toNat : Int)) (hy : ev bs us q = .int .u8 (y.toNat : Int)) : Runs P bs us o (.int .u8 ((x * y).toNat : Int)) :=
  r_mul ho hx hy (by simp [IntKind.wrap, IntKind.bits, IntKind.signed, BitVec.toNat_mul])
theorem r_sub_u8 {t t' : Nat} {p q : Operand} {x y : BitVec 8} (ho : o.op = .binOp .sub t p q t') (hx : ev bs us p = .int .u8 (x.toNat : Int)) (hy : ev bs us q = .int .u8 (y.toNat : Int)) : Runs P bs us o (.int .u8 ((x - y).toNat : Int)) :=
  r_sub ho hx hy (by
    have h1 := x.isLt
    have h2 := y.isLt
    simp only [IntKind.wrap, IntKind.bits, IntKind.signed, BitVec.toNat_sub]
    simp
    omega)
theorem r_shl_u8 {t t' : Nat} {p q : Operand} {x : BitVec 8} {k' : IntKind} {s : Nat} (ho : o.op = .binOp .shl t p q t') (hx : ev bs us p = .int .u8 (x.toNat : Int)) (hy : ev bs us q = .int k' (s : Int)) (hs : s < 8) : Runs P bs us o (.int .u8 ((x <<< s).toNat : Int)) :=
  run_sh ho hx hy fun w => by
    have h0 : ¬ ((s : Int) < 0) := by omega
    have hm : min (Int.toNat (s : Int)) 8 = s := by simp; omega
    simp only [binOp, Op.shift, h0, if_false, IntKind.bits, hm, Sem.run_pure]
    congr 3
    rw [BitVec.toNat_shiftLeft, Nat.shiftLeft_eq]
    simp [IntKind.wrap, IntKind.bits, IntKind.signed]
theorem r_shr_u8 {t t' : Nat} {p q : Operand} {x : BitVec 8} {k' : IntKind} {s : Nat} (ho : o.op = .binOp .shr t p q t') (hx : ev bs us p = .int .u8 (x.toNat : Int)) (hy : ev bs us q = .int k' (s : Int)) (hs : s < 8) : Runs P bs us o (.int .u8 ((x >>> s).toNat : Int)) :=
  run_sh ho hx hy fun w => by
    have h0 : ¬ ((s : Int) < 0) := by omega
    have hm : min (Int.toNat (s : Int)) 8 = s := by simp; omega
    simp only [binOp, Op.shift, h0, if_false, IntKind.bits, hm, Sem.run_pure]
    congr 3
    rw [BitVec.toNat_ushiftRight, Nat.shiftRight_eq_div_pow, Int.fdiv_eq_ediv_of_nonneg _ (Int.le_of_lt (Int.pow_pos (by decide)))]
    simp
theorem r_quo_u8 {t t' : Nat} {p q : Operand} {x y : BitVec 8} (ho : o.op = .binOp .quo t p q t') (hx : ev bs us p = .int .u8 (x.toNat : Int)) (hy : ev bs us q = .int .u8 (y.toNat : Int)) (h : y ≠ 0) : Runs P bs us o (.int .u8 ((x / y).toNat : Int)) :=
  run_int ho hx hy fun w => by
    have h0 : ¬ ((y.toNat : Int) = 0) := fun e => h (by apply BitVec.eq_of_toNat_eq; simpa using e)
    have h1 : x.toNat / y.toNat ≤ x.toNat := Nat.div_le_self _ _
    have h2 := x.isLt
    simp only [binOp, Op.intDiv, h0, if_false, ne_eq, not_true_eq_false, Sem.run_pure]
    congr 3
    show IntKind.u8.wrap ((x.toNat / y.toNat : Nat) : Int) = _
    rw [wrap_u8_ofNat]
    congr 1
    rw [BitVec.toNat_udiv]
    exact Nat.mod_eq_of_lt (by omega)
theorem r_rem_u8 {t t' : Nat} {p q : Operand} {x y : BitVec 8} (ho : o.op = .binOp .rem t p q t') (hx : ev bs us p = .int .u8 (x.toNat : Int)) (hy : ev bs us q = .int .u8 (y.toNat : Int)) (h : y ≠ 0) : Runs P bs us o (.int .u8 ((x % y).toNat : Int)) :=
  run_int ho hx hy fun w => by
    have h0 : ¬ ((y.toNat : Int) = 0) := fun e => h (by apply BitVec.eq_of_toNat_eq; simpa using e)
    simp only [binOp, Op.intDiv, h0, if_false, ne_eq, not_true_eq_false, Sem.run_pure]
    rw [BitVec.toNat_umod]
    rfl
theorem r_eql_u8 {t t' : Nat} {p q : Operand} {x y : BitVec 8} {b : Bool} (ho : o.op = .binOp .eql t p q t') (hx : ev bs us p = .int .u8 (x.toNat : Int)) (hy : ev bs us q = .int .u8 (y.toNat : Int)) (hb : decide (x = y) = b) : Runs P bs us o (.bool b) :=
  r_eqlN ho hx hy (by subst hb; apply decide_eq_decide.2; exact ⟨fun e => BitVec.eq_of_toNat_eq e, fun e => by rw [e]⟩)

/-! ### conversions -/
theorem run_conv {s d : Nat} {x : Operand} {k k' : IntKind} {n r : Int} {D : TypeDesc} (hs : P.underlying s = some D) (hd : P.underlying d = some (.int k')) (hx : ev bs us x = .int k n) (ho : o.op = .convert s d x) (hr : k'.wrap n = r) : Runs P bs us o (.int k' r) := fun w => by
  unfold execOp
  subst hr
  simp only [ho, hx, convert, Sem.run_bind, run_underlying hs, run_underlying hd, Result.andThen_ok, Conv.intToInt, Sem.run_pure]
theorem r_conv_u8_u64 {s d : Nat} {p : Operand} {x : BitVec 8} {D : TypeDesc} (hs : P.underlying s = some D) (hd : P.underlying d = some (.int .u64)) (ho : o.op = .convert s d p) (hx : ev bs us p = .int .u8 (x.toNat : Int)) : Runs P bs us o (.int .u64 ((x.setWidth 64).toNat : Int)) :=
  run_conv hs hd hx ho (by rw [wrap_u64_ofNat]; simp)
theorem r_conv_u64_u8 {s d : Nat} {p : Operand} {x : BitVec 64} {D : TypeDesc} (hs : P.underlying s = some D) (hd : P.underlying d = some (.int .u8)) (ho : o.op = .convert s d p) (hx : ev bs us p = .int .u64 (x.toNat : Int)) : Runs P bs us o (.int .u8 ((x.setWidth 8).toNat : Int)) :=
  run_conv hs hd hx ho (by rw [wrap_u8_ofNat]; simp)
theorem r_conv_i64_u64 {s d : Nat} {p : Operand} {k : IntKind} {n : Nat} {D : TypeDesc} (hs : P.underlying s = some D) (hd : P.underlying d = some (.int .u64)) (ho : o.op = .convert s d p) (hx : ev bs us p = .int k (n : Int)) : Runs P bs us o (.int .u64 ((BitVec.ofNat 64 n).toNat : Int)) :=
  run_conv hs hd hx ho (wrap_u64_ofNat n)
theorem r_conv_i64_u8 {s d : Nat} {p : Operand} {k : IntKind} {n : Nat} {D : TypeDesc} (hs : P.underlying s = some D) (hd : P.underlying d = some (.int .u8)) (ho : o.op = .convert s d p) (hx : ev bs us p = .int k (n : Int)) : Runs P bs us o (.int .u8 ((BitVec.ofNat 8 n).toNat : Int)) :=
  run_conv hs hd hx ho (wrap_u8_ofNat n)
theorem r_conv_u8_i64 {s d : Nat} {p : Operand} {x : BitVec 8} {D : TypeDesc} (hs : P.underlying s = some D) (hd : P.underlying d = some (.int .i64)) (ho : o.op = .convert s d p) (hx : ev bs us p = .int .u8 (x.toNat : Int)) : Runs P bs us o (.int .i64 (x.toNat : Int)) :=
  run_conv hs hd hx ho (wrap64_nat _ (by have := x.isLt; omega))
theorem r_conv_N {s d : Nat} {p : Operand} {k : IntKind} {n : Nat} {D : TypeDesc} (hs : P.underlying s = some D) (hd : P.underlying d = some (.int .i64)) (ho : o.op = .convert s d p) (hx : ev bs us p = .int k (n : Int)) (h : n < 9223372036854775808) : Runs P bs us o (.int .i64 (n : Int)) :=
  run_conv hs hd hx ho (wrap64_nat _ h)
end
end Go.Proofs.Ytoegpalacppllaa
