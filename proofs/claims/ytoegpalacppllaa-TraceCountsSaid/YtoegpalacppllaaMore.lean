/- More operations: fields and elements of values, strings, slices that are made, copied, turned into strings. No function of the program is in sight here. -/
import Derived.Test.YtoegpalacppllaaRange
import Derived.Test.YtoegpalacppllaaEq
import Derived.Laws.MakeOwn
import Derived.Laws.IdiomStrings
import Derived.Laws.Externs
import Derived.Lib.Bytealg
namespace Go.Proofs.Ytoegpalacppllaa
open Go.RowKit Pl

section
variable {P : Program} {ops : Array Oper} {Q : Exit → Act → World → Prop} {bs : List Value} {us : List (Nat × Value)} {ds : List Deferred} {w0 : Base} {W : World} {rest : List Oper} {o : Oper} {L Bs : List Blk} {d : Nat} {v : Value} {r : Option (Option Nat)} {m : Nat}

/-! ### parts of values -/
theorem r_fieldC {t f : Nat} {x : Operand} {fs : Array Field} {F : Field} {cs : List Value} (hs : P.underlying t = some (.struct fs)) (hF : fs[f]? = some F) (hT : TyC P F.type) (ho : o.op = .field t x f) (hx : ev bs us x = .agg cs.toArray) (hv : cs[F.offset]? = some v) : Runs P bs us o v := fun w => by
  unfold execOp
  simp [ho, hx, Instr.field, run_underlying hs, hF, part, hT.agg w, asAgg, hv]
theorem r_fieldA {t f n : Nat} {x : Operand} {fs : Array Field} {F : Field} {cs vs : List Value} (hs : P.underlying t = some (.struct fs)) (hF : fs[f]? = some F) (hT : TyA P F.type n) (ho : o.op = .field t x f) (hx : ev bs us x = .agg cs.toArray) (hv : (cs.drop F.offset).take n = vs) : Runs P bs us o (.agg vs.toArray) := fun w => by
  unfold execOp
  simp [ho, hx, Instr.field, run_underlying hs, hF, part, hT.agg w, hT.size w, asAgg, hv]
theorem r_indexArr {t len e : Nat} {x y : Operand} {k : IntKind} {n : Nat} {cs : List Value} (ht : P.underlying t = some (.array len e)) (hT : TyC P e) (ho : o.op = .index t x y) (hx : ev bs us x = .agg cs.toArray) (hy : ev bs us y = .int k (n : Int)) (hn : n < len) (hv : cs[n]? = some v) : Runs P bs us o v := fun w => by
  have h2 : (n : Int) < (len : Int) := by omega
  unfold execOp
  simp [ho, hx, hy, Instr.index, asIntOf, run_underlying ht, hn, part, hT.agg w, hT.size w, hv]

/-! ### strings -/
def str (l : List (BitVec 8)) : ByteArray := ⟨(l.map UInt8.ofBitVec).toArray⟩
def strV (l : List (BitVec 8)) : Value := .string (str l)
theorem str_size (l : List (BitVec 8)) : (str l).size = l.length := by simp [str, ByteArray.size]
theorem str_toList (l : List (BitVec 8)) : (str l).toList = l.map UInt8.ofBitVec := by
  rw [ByteArray.toList_eq]; simp [str]
theorem ofBitVec_inj {a b : BitVec 8} (h : UInt8.ofBitVec a = UInt8.ofBitVec b) : a = b := by injection h
theorem map_ofBitVec_inj : ∀ {a b : List (BitVec 8)}, a.map UInt8.ofBitVec = b.map UInt8.ofBitVec → a = b
  | [], [], _ => rfl
  | [], _ :: _, h => by simp at h
  | _ :: _, [], h => by simp at h
  | x :: a, y :: b, h => by
    simp only [List.map_cons, List.cons.injEq] at h
    rw [ofBitVec_inj h.1, map_ofBitVec_inj h.2]
theorem str_inj {a b : List (BitVec 8)} (h : str a = str b) : a = b := by
  have := congrArg ByteArray.toList h
  rw [str_toList, str_toList] at this
  exact map_ofBitVec_inj this
theorem str_beq (a b : List (BitVec 8)) : ((str a).toList == (str b).toList) = decide (a = b) := by
  rw [str_toList, str_toList]
  by_cases h : a = b
  · subst h; simp
  · have : ¬ a.map UInt8.ofBitVec = b.map UInt8.ofBitVec := fun e => h (map_ofBitVec_inj e)
    simp [h, this]
theorem str_of (s : ByteArray) : ∃ l : List (BitVec 8), s = str l ∧ l.length = s.size := by
  refine ⟨s.data.toList.map UInt8.toBitVec, ?_, by rw [List.length_map]; rfl⟩
  obtain ⟨⟨l⟩⟩ := s
  have e : (l.map UInt8.toBitVec).map UInt8.ofBitVec = l := by
    rw [List.map_map]
    exact List.map_id'' (fun _ => rfl) l
  show (⟨⟨l⟩⟩ : ByteArray) = ⟨((l.map UInt8.toBitVec).map UInt8.ofBitVec).toArray⟩
  rw [e]
theorem r_strEql {t t' : Nat} {p q : Operand} {a b : List (BitVec 8)} {c : Bool} (ho : o.op = .binOp .eql t p q t') (hx : ev bs us p = strV a) (hy : ev bs us q = strV b) (hc : decide (a = b) = c) : Runs P bs us o (.bool c) := fun w => by
  subst hc
  unfold execOp
  simp only [ho, hx, hy, strV, eqGuard, Sem.run_bind, binOp, Op.stringOp, str_beq]
  simp
theorem r_strNeq {t t' : Nat} {p q : Operand} {a b : List (BitVec 8)} {c : Bool} (ho : o.op = .binOp .neq t p q t') (hx : ev bs us p = strV a) (hy : ev bs us q = strV b) (hc : (!decide (a = b)) = c) : Runs P bs us o (.bool c) := fun w => by
  subst hc
  unfold execOp
  simp only [ho, hx, hy, strV, eqGuard, Sem.run_bind, binOp, Op.stringOp, str_beq]
  simp
theorem r_lenStrV {t : TypeId} {x : Operand} {l : List (BitVec 8)} (ht : P.underlying t = some .string) (ho : o.op = .call { callee := .builtin .len, args := #[x], argTypes := #[t] }) (hx : ev bs us x = strV l) : Runs P bs us o (.int .i64 (l.length : Int)) := by
  have := r_lenStr (P := P) (bs := bs) (us := us) ht ho hx
  rwa [str_size] at this
theorem r_indexStrV {t : Nat} {x y : Operand} {l : List (BitVec 8)} {k : IntKind} {n : Nat} {b : BitVec 8} (ht : P.underlying t = some .string) (ho : o.op = .index t x y)
    (hx : ev bs us x = strV l) (hy : ev bs us y = .int k (n : Int)) (hn : l[n]? = some b) : Runs P bs us o (B8 b) := by
  have h : (str l)[n]? = some (UInt8.ofBitVec b) := by
    have hlt := (List.getElem?_eq_some_iff.1 hn).1
    have e := (List.getElem?_eq_some_iff.1 hn).2
    rw [getElem?_pos (str l) n (by rw [str_size]; exact hlt), ← e]
    simp [str, ByteArray.getElem_eq_getElem_data]
  have := r_indexStr (P := P) ht ho hx hy h
  simpa using this
/-- bytes that are turned into a string -/
theorem run_toStr {s t e : TypeId} {a : Option Addr} {n c : Nat} {l : List (BitVec 8)} (hs : P.underlying s = some (.slice e)) (he : P.underlying e = some (.int .u8)) (ht : P.underlying t = some .string) (hr : Rd W a (bl l)) (hl : l.length = n) (h0 : a = none → n = 0) :
    (convert s t (.slice a n c)).run P W = .ok (strV l) W := by
  cases a with
  | none =>
    obtain rfl := h0 rfl
    obtain rfl : l = [] := List.eq_nil_of_length_eq_zero hl
    simp [convert, run_underlying hs, run_underlying he, run_underlying ht, Conv.bytesToString, strV, str]
    rfl
  | some q =>
    by_cases hn : l = []
    · subst hn
      simp at hl
      subst hl
      have h := run_convert_bytes_back (P := P) W s t e q c [] hs he ht (by simp)
      simpa [strV, str] using h
    · subst hl
      have h := run_convert_bytes_back (P := P) W s t e q c (l.map UInt8.ofBitVec) hs he ht (fun j hj => by
        have hj' : j < l.length := by simpa using hj
        obtain ⟨b, i, hq, hc⟩ := hr j (B8 l[j]) (by simp [bl, hj'])
        simp only [Option.some.injEq] at hq
        subst hq
        rw [Addr.add_lit, hc]
        simp)
      simpa [strV, str] using h
theorem l_toStr {s t e : TypeId} {x : Operand} {a : Option Addr} {n c : Nat} {l : List (BitVec 8)} (hs : P.underlying s = some (.slice e)) (he : P.underlying e = some (.int .u8)) (ht : P.underlying t = some .string) (hr : Rd W a (bl l)) (hl : l.length = n) (h0 : a = none → n = 0)
    (hg : Region.wanted o (yielded ops (fr bs us ds).tmps) = true) (ho : o.op = .convert s t x) (hx : ev bs us x = .slice a n c) (hd : o.dst = some d) (h : LW r m P ops Q rest (fr bs ((d, strV l) :: us) ds) W) : LW r m P ops Q (o :: rest) (fr bs us ds) W := by
  have hrun := run_toStr (c := c) hs he ht hr hl h0
  refine LW.val hg (v := strV l) (W' := W) ?_ (by rw [hd, put_st]; exact h)
  rw [eval_ev]
  unfold execOp
  simp only [ho, hx, Sem.run_bind, hrun, Result.andThen_ok, Sem.run_pure]

/-! ### slices -/
theorem madeCells_one (z : Value) (n : Nat) : madeCells #[z] n = (List.replicate n z).toArray := by
  apply Array.ext
  · simp [madeCells]
  · intro i h1 h2
    simp [madeCells, Nat.mod_one]
theorem madeCells_rep (z : Value) (k n : Nat) (hk : 0 < k) : madeCells (List.replicate k z).toArray n = (List.replicate n z).toArray := by
  apply Array.ext
  · simp [madeCells]
  · intro i h1 h2
    have : i % k < k := Nat.mod_lt _ hk
    simp [madeCells, this]
theorem l_makeSlice (hW : Cl w0 L W) {t e : TypeId} {sz bytes : Nat} (hE : TyE P t e sz bytes) {z : Value} {k n : Nat} (hz : ∀ i, P.info? e = some i → i.zero = some z) (hzc : z.cells = (List.replicate sz v).toArray) {x y : Operand} {kx ky : IntKind} (hg : o.guard = none) (ho : o.op = .makeSlice t x y) (hx : ev bs us x = .int kx (n : Int)) (hy : ev bs us y = .int ky (n : Int)) (hd : o.dst = some d) (hn : n ≤ 4294967296) (hb : bytes ≤ 65536) (hk : n * sz = k)
    (h : ∀ g W', Cl w0 (⟨g, List.replicate k v, e⟩ :: L) W' → LW r m P ops Q rest (fr bs ((d, .slice (some ⟨g, 0, none⟩) n n) :: us) ds) W') : LW r m P ops Q (o :: rest) (fr bs us ds) W := by
  obtain ⟨i, z', hi, hz', hsz, hby, hzs⟩ := hE.info
  have hzz : z' = z := by have := hz i hi; rw [hz'] at this; injection this
  subst hzz; subst hk
  have hbytes : (i.bytes : Int) * (n : Int) ≤ 281474976710656 := by
    rw [hby, ← Int.natCast_mul]
    have : bytes * n ≤ 65536 * 4294967296 := Nat.mul_le_mul hb hn
    omega
  have hr := run_make (P := P) W t e i z' hE.u hi hz' kx ky n n (by omega) (Int.le_refl _) hbytes (by omega)
  have hc : madeCells z'.cells (n * i.size) = (List.replicate (n * sz) v).toArray := by rw [hzc, hsz, madeCells_rep v sz (n * sz) hE.pos]
  simp only [Int.toNat_natCast, hc] at hr
  refine l_run (W' := W.alloc (.cells (List.replicate (n * sz) v).toArray e)) hg ?_ hd (h _ _ (hW.alloc _ e))
  unfold execOp
  simp only [ho, hx, hy, Sem.run_bind, hr, Result.andThen_ok, Sem.run_pure]

theorem splice_setCells {g : Nat} {cs news : List Value} {ty : TypeId} {i : Nat} (hg : W.heap[g]? = some (.cells cs.toArray ty (0, 0))) (hi : i + news.length ≤ cs.length) (h1 : ∀ v ∈ news, v.oneCell' = true) :
    (storeCells ⟨g, i, none⟩ news).run P W = .ok () (W.setRow g (cs.take i ++ news ++ cs.drop (i + news.length)).toArray) := by
  have := run_storeCells_at (P := P) g i ty news 0 cs.toArray W hg (by simp; omega) h1
  simpa using this
/-- the built-in copy into a block of the call's own -/
theorem l_copy (hW : Cl w0 L W) (p : Nat) {t t2 e : TypeId} {bytes : Nat} (hE : TyE P t e 1 bytes) {x y : Operand} {g i dn dc k c2 j : Nat} {ax : Option Addr} {cs news : List Value} {ty : TypeId} (hg : o.guard = none) (ho : o.op = .call { callee := .builtin .copy, args := #[x, y], argTypes := #[t, t2] })
    (hx : ev bs us x = .slice (some ⟨g, i, none⟩) dn dc) (hy : ev bs us y = .slice ax k c2) (hd : o.dst = some d) (hp : L[p]? = some ⟨g, cs, ty⟩) (hr : Rd W ax news) (hl : news.length = k) (h0 : ax = none → k = 0) (hfit : i + dn ≤ cs.length) (hj : min k dn = j) (h1 : ∀ v ∈ news, v.oneCell' = true)
    (h : ∀ W', Cl w0 (L.set p ⟨g, cs.take i ++ news.take j ++ cs.drop (i + j), ty⟩) W' → LW r m P ops Q rest (fr bs ((d, .int .i64 (j : Int)) :: us) ds) W') : LW r m P ops Q (o :: rest) (fr bs us ds) W := by
  obtain ⟨inf, z, hi, hz, hsz, hby, hzs⟩ := hE.info
  have hjl : (news.take j).length = j := by simp; omega
  have hst := splice_setCells (P := P) (hW.at p hp) (i := i) (news := news.take j) (by rw [hjl]; simp only; omega) (fun v hv => h1 v (List.mem_of_mem_take hv))
  rw [hjl] at hst
  have hload : (Builtin.firstCells 1 j (.slice ax k c2)).run P W = .ok (news.take j).toArray W := by
    cases ax with
    | none =>
      obtain rfl := h0 rfl
      obtain rfl : j = 0 := by omega
      simp [Builtin.firstCells]
    | some a =>
      have hl := run_loadCells_list (P := P) W a (news.take j) (fun q v hv => by
        rw [List.getElem?_take] at hv
        split at hv
        · obtain ⟨b, i', ha, hc⟩ := hr q v hv
          simp only [Option.some.injEq] at ha
          subst ha
          rw [Addr.add_lit]; exact hc
        · cases hv)
      rw [hjl] at hl
      simp [Builtin.firstCells, hl]
  refine l_run hg ?_ hd (h _ (hW.setRow p hp _))
  have hmin : Nat.min k dn = j := hj
  unfold execOp
  simp [ho, resolve, invoke, builtin, hx, hy, Builtin.copy_, run_underlying hE.u, Builtin.lenOf, hmin, sizeOf, typeInfo, hi, hsz, hload, hst, goInt]

/-- a slice that is written out: what the operation does is a closed fact -/
theorem run_bslF {t e : TypeId} {n : Nat} {parts : Array (Nat × Operand)} {ps : List (Nat × Value)} {cs : List Value} (hb : ∀ w, (Instr.buildSlice t n ps.toArray).run P w = .ok (.slice (some ⟨w.heap.size, 0, none⟩) n n) (w.alloc (.cells cs.toArray e))) (ho : o.op = .buildSlice t n parts) (hp : parts.toList.map (fun p => (p.1, ev bs us p.2)) = ps) (w : World) :
    (execOp (ev bs us) o).run P w = .ok (.value (.slice (some ⟨w.heap.size, 0, none⟩) n n)) (w.alloc (.cells cs.toArray e)) := by
  have e : parts.map (fun (i, x) => (i, ev bs us x)) = ps.toArray := by subst hp; apply Array.ext'; simp only [Array.toList_map]
  unfold execOp
  simp only [ho, e, Sem.run_bind, hb, Result.andThen_ok, Sem.run_pure]
theorem l_buildSliceF (hW : Cl w0 L W) {t e : TypeId} {n : Nat} {parts : Array (Nat × Operand)} {ps : List (Nat × Value)} {cs : List Value} (hb : ∀ w, (Instr.buildSlice t n ps.toArray).run P w = .ok (.slice (some ⟨w.heap.size, 0, none⟩) n n) (w.alloc (.cells cs.toArray e))) (hg : o.guard = none) (ho : o.op = .buildSlice t n parts) (hp : parts.toList.map (fun p => (p.1, ev bs us p.2)) = ps) (hd : o.dst = some d)
    (h : ∀ g W', Cl w0 (⟨g, cs, e⟩ :: L) W' → LW r m P ops Q rest (fr bs ((d, .slice (some ⟨g, 0, none⟩) n n) :: us) ds) W') : LW r m P ops Q (o :: rest) (fr bs us ds) W :=
  l_run hg (run_bslF hb ho hp W) hd (h _ _ (hW.alloc cs e))
/-- .. among operations that change places; the cells stand where makers' variables do -/
def bslX (e : TypeId) (n : Nat) (cs : List Value) (v : Value) (Bs : List Blk) : Prop := ∃ g, v = .slice (some ⟨g, 0, none⟩) n n ∧ Bs = [⟨g, cs, e⟩]
theorem y_buildSliceF (i : Nat) {S : List Nat} {ks : List Kd} {ms : List Mk} {V : List (List Value)} {R : Act → St → Prop} {T : List Oper → Act → St → Prop} {t e : TypeId} {n : Nat} {parts : Array (Nat × Operand)} {ps : List (Nat × Value)} {cs : List Value} (hb : ∀ w, (Instr.buildSlice t n ps.toArray).run P w = .ok (.slice (some ⟨w.heap.size, 0, none⟩) n n) (w.alloc (.cells cs.toArray e)))
    (hk : ms[i]? = some ⟨d, bslX e n⟩) (ho : o.op = .buildSlice t n parts) (hp : parts.toList.map (fun p => (p.1, ev bs us p.2)) = ps) (hV : V[i]? = some cs)
    (h : lx P ops w0 S ms R T ks rest (fr bs us ds) (L, V)) : lx P ops w0 S ms R T (.mk i :: ks) (o :: rest) (fr bs us ds) (L, V) :=
  ⟨undef, (L, V), ⟨rfl, rfl, _, cs, hk, hV, fun L2 _ w hw => .inl ⟨_, _, _, by rw [eval_ev]; exact run_bslF hb ho hp w, ⟨w.heap.size, rfl, rfl⟩, cl_end (hw.alloc cs e)⟩⟩, h⟩
/-- a slice that is made, among operations that change places -/
theorem y_makeSlice (i : Nat) {S : List Nat} {ks : List Kd} {ms : List Mk} {V : List (List Value)} {R : Act → St → Prop} {T : List Oper → Act → St → Prop} {t e : TypeId} {sz bytes : Nat} (hE : TyE P t e sz bytes) {z : Value} {k n : Nat} (hz : ∀ i, P.info? e = some i → i.zero = some z) (hzc : z.cells = (List.replicate sz v).toArray) {x y : Operand} {kx ky : IntKind}
    (hk : ms[i]? = some ⟨d, bslX e n⟩) (ho : o.op = .makeSlice t x y) (hx : ev bs us x = .int kx (n : Int)) (hy : ev bs us y = .int ky (n : Int)) (hn : n ≤ 4294967296) (hb : bytes ≤ 65536) (hkn : n * sz = k) (hV : V[i]? = some (List.replicate k v))
    (h : lx P ops w0 S ms R T ks rest (fr bs us ds) (L, V)) : lx P ops w0 S ms R T (.mk i :: ks) (o :: rest) (fr bs us ds) (L, V) := by
  obtain ⟨inf, z', hi, hz', hsz, hby, hzs⟩ := hE.info
  have hzz : z' = z := by have := hz inf hi; rw [hz'] at this; injection this
  subst hzz; subst hkn
  have hbytes : (inf.bytes : Int) * (n : Int) ≤ 281474976710656 := by
    rw [hby, ← Int.natCast_mul]
    have : bytes * n ≤ 65536 * 4294967296 := Nat.mul_le_mul hb hn
    omega
  have hc : madeCells z'.cells (n * inf.size) = (List.replicate (n * sz) v).toArray := by rw [hzc, hsz, madeCells_rep v sz (n * sz) hE.pos]
  refine ⟨undef, (L, V), ⟨rfl, rfl, _, _, hk, hV, fun L2 _ w hw => .inl ⟨.slice (some ⟨w.heap.size, 0, none⟩) n n, _, w.alloc (.cells (List.replicate (n * sz) v).toArray e), ?_, ⟨w.heap.size, rfl, rfl⟩, cl_end (hw.alloc _ e)⟩⟩, h⟩
  have hr := run_make (P := P) w t e inf z' hE.u hi hz' kx ky n n (by omega) (Int.le_refl _) hbytes (by omega)
  simp only [Int.toNat_natCast, hc] at hr
  rw [eval_ev]
  unfold execOp
  simp only [ho, hx, hy, Sem.run_bind, hr, Result.andThen_ok, Sem.run_pure]

/-- a function without a body that the model knows -/
theorem run_extern {f : FuncId} {fn : Func} {xs : Array Operand} {ts : Array TypeId} {args : List Value} {e : Array Value → Sem Value} (hf : P.funcs[f]? = some fn) (hname : (fn.name == "runtime.NumGoroutine") = false) (hb : fn.body.isNone = true) (hn : (Extern.findNext fn).isNone = true) (he : Extern.find fn = some e)
    (ho : o.op = .call { callee := .value (.func f), args := xs, argTypes := ts }) (ha : xs.toList.map (ev bs us) = args) (hr : ∀ w, (e args.toArray).run P w = .ok v w) : Runs P bs us o v := fun w => by
  have e1 : xs.map (ev bs us) = args.toArray := by subst ha; apply Array.ext'; simp only [Array.toList_map]
  unfold execOp
  have e2 : (#[] : Array Value) ++ args.toArray ++ #[] = args.toArray := by simp
  simp only [ho, resolve, e1, ev, Deferred.ofValue, Sem.run_bind, Sem.run_pure, Result.andThen_ok, invoke, e2]
  rw [run_callFunc_extern hf hname hb (by simpa using hn) he, hr w]
  simp
end
end Go.Proofs.Ytoegpalacppllaa
