/- More results, more slices. No function of the program is in sight here. -/
import Derived.Test.YtoegpalacppllaaVals2
namespace Go.Proofs.Ytoegpalacppllaa
open Go.RowKit Pl

section
variable {P : Program} {bs : List Value} {us : List (Nat × Value)} {w0 : Base} {W : World} {L : List Blk} {v : Value} {fn : Func} {R' : Ending → World → Prop}
theorem ret_cell3_tmp {p1 p2 p3 r : Tmp} {t : TypeId} {n : Nat} {g1 g2 g3 : Nat} {cs1 cs2 cs3 : List Value} {y1 y2 y3 : TypeId} (hW : Cl w0 L W) (q1 q2 q3 : Nat) (ht : TyA P t n) (hr : fn.results = #[.cell p1 t, .cell p2 t, .cell p3 t, .tmp r])
    (hp1 : look bs us p1 = .pointer (some ⟨g1, 0, none⟩)) (hp2 : look bs us p2 = .pointer (some ⟨g2, 0, none⟩)) (hp3 : look bs us p3 = .pointer (some ⟨g3, 0, none⟩))
    (hL1 : L[q1]? = some ⟨g1, cs1, y1⟩) (hL2 : L[q2]? = some ⟨g2, cs2, y2⟩) (hL3 : L[q3]? = some ⟨g3, cs3, y3⟩) (hn1 : cs1.length = n) (hn2 : cs2.length = n) (hn3 : cs3.length = n) (hv : look bs us r = v)
    (h : R' (.returned (.tuple #[.agg cs1.toArray, .agg cs2.toArray, .agg cs3.toArray, v])) W) : bodyPost P fn R' .ret (fr bs us []) W := by
  refine ⟨rfl, _, ?_, h⟩
  have e1 := run_load_agg ht W (hW.at q1 hL1) (i := 0) (by simp only; omega)
  have e2 := run_load_agg ht W (hW.at q2 hL2) (i := 0) (by simp only; omega)
  have e3 := run_load_agg ht W (hW.at q3 hL3) (i := 0) (by simp only; omega)
  have f1 : (toL bs us).toArray.getD p1 undef = .pointer (some ⟨g1, 0, none⟩) := by rw [nth_getD, ← look_nth]; exact hp1
  have f2 : (toL bs us).toArray.getD p2 undef = .pointer (some ⟨g2, 0, none⟩) := by rw [nth_getD, ← look_nth]; exact hp2
  have f3 : (toL bs us).toArray.getD p3 undef = .pointer (some ⟨g3, 0, none⟩) := by rw [nth_getD, ← look_nth]; exact hp3
  have fr : (toL bs us).toArray.getD r undef = v := by rw [nth_getD, ← look_nth]; exact hv
  have d1 : (cs1.drop 0).take n = cs1 := by simp [← hn1]
  have d2 : (cs2.drop 0).take n = cs2 := by simp [← hn2]
  have d3 : (cs3.drop 0).take n = cs3 := by simp [← hn3]
  rw [d1] at e1; rw [d2] at e2; rw [d3] at e3
  show (results fn (toL bs us).toArray).run P W = _
  rw [Array.getD_eq_getD_getElem?] at f1 f2 f3 fr
  simp at f1 f2 f3 fr
  simp [results, hr, asAddr, e1, e2, e3, f1, f2, f3, fr]
theorem setRow_same {w : World} {g : Nat} {cs : Array Value} {ty : TypeId} {fz : Nat × Nat} (h : w.heap[g]? = some (.cells cs ty fz)) : w.setRow g cs = w := by
  unfold World.setRow
  have hlt := (Array.getElem?_eq_some_iff.1 h).1
  have e := (Array.getElem?_eq_some_iff.1 h).2
  cases w with
  | _ =>
    simp only at h e hlt ⊢
    congr 1
    apply Array.ext
    · simp
    · intro i h1 h2
      by_cases hi : g = i
      · subst hi; simp [Array.getElem_modify, e]
      · simp [Array.getElem_modify, hi]
/-- a store of what is there already -/
theorem y_storeSame {ops : Array Oper} {rest : List Oper} {o : Oper} {ds : List Deferred} {S : List Nat} {ks : List Kd} {ms : List Mk} {V : List (List Value)} {R : Act → St → Prop} {T : List Oper → Act → St → Prop} (p : Nat) {t : TypeId} {n : Nat} (ht : TyA P t n) {x y : Operand} {g : Nat} {cs : List Value} {ty : TypeId}
    (hw : Region.wanted o (yielded ops (fr bs us ds).tmps) = true) (ho : o.op = .store t x y) (hx : ev bs us x = .pointer (some ⟨g, 0, none⟩)) (hy : ev bs us y = .agg cs.toArray) (hd : o.dst = none) (hp : L[p]? = some ⟨g, cs, ty⟩) (hn : cs.length = n) (h1 : ∀ v ∈ cs, v.oneCell' = true) (hS : p ∉ S)
    (h : lx P ops w0 S ms R T ks rest (fr bs us ds) (L, V)) : lx P ops w0 S ms R T (.q :: ks) (o :: rest) (fr bs us ds) (L, V) :=
  ⟨undef, (L, V), ⟨fun L2 hs => .inl ⟨hw, fun w hC => by
    have hr := (run_storeA_at ht p ho hx hy (hs p _ hS hp) hn hn h1 w hC).1
    rw [setRow_same (hC.at p (hs p _ hS hp))] at hr
    unfold Oper.quietAt
    rw [eval_ev, hr]; exact ⟨rfl, rfl⟩⟩, rfl⟩, by simp only [putK, hd, put_none]; exact h⟩
theorem run_equalBool (d : Nat) {t : TypeId} (ht : P.underlying t = some .bool) (a b : Bool) (w : World) : (Op.equalIn (d + 1) t (.bool a) (.bool b)).run P w = .ok (a == b) w := by
  simp [Op.equalIn, run_underlying ht]
theorem r_eqlBool {o : Oper} {t t' : Nat} {p q : Operand} {a b c : Bool} (ht : P.underlying t = some .bool) (ho : o.op = .binOp .eql t p q t') (hx : ev bs us p = .bool a) (hy : ev bs us q = .bool b) (hc : (a == b) = c) : Runs P bs us o (.bool c) := fun w => by
  subst hc
  have h : (Op.equal t (.bool a) (.bool b)).run P w = .ok (a == b) w := run_equalBool 9999 ht a b w
  unfold execOp
  simp [ho, hx, hy, eqGuard, binOp, h]
/-- the first part of a slice that may be nil -/
theorem r_sliceTo {o : Oper} {t e h n c : Nat} {a : Option Addr} {k : IntKind} {x y : Operand} (ht : P.underlying t = some (.slice e)) (hz : ∀ w, (sizeOf e).run P w = .ok 1 w) (ho : o.op = .slice t x none (some y) none)
    (hx : ev bs us x = .slice a n c) (hy : ev bs us y = .int k (h : Int)) (hn : h ≤ c) (hnil : a = none → c = 0) : Runs P bs us o (.slice a h c) := by
  cases a with
  | none =>
    have := hnil rfl
    subst this
    obtain rfl : h = 0 := by omega
    intro w
    unfold execOp
    simp [ho, hx, hy, Instr.sliceAt, Instr.slice, asIntOf, run_underlying ht, hz, Instr.sliceBounds, Instr.sliceBound]
  | some q =>
    intro w
    have h0 : q.add 0 = q := by unfold Addr.add; cases q; simp
    unfold execOp
    simp [ho, hx, hy, Instr.sliceAt, Instr.slice, asIntOf, run_underlying ht, hz, h0, Instr.sliceBounds, Instr.sliceBound, hn]
theorem y_toStr {ops : Array Oper} {rest : List Oper} {o : Oper} {ds : List Deferred} {d : Nat} {S : List Nat} {ks : List Kd} {ms : List Mk} {V : List (List Value)} {R : Act → St → Prop} {T : List Oper → Act → St → Prop} {s t e : TypeId} {x : Operand} {a : Option Addr} {n c : Nat} {l : List (BitVec 8)} (hs : P.underlying s = some (.slice e)) (he : P.underlying e = some (.int .u8)) (ht : P.underlying t = some .string)
    (hr : ∀ L2 w, Sim S L L2 → Cl w0 L2 w → Rd w a (bl l)) (hl : l.length = n) (h0 : a = none → n = 0) (hg : Region.wanted o (yielded ops (fr bs us ds).tmps) = true) (ho : o.op = .convert s t x) (hx : ev bs us x = .slice a n c) (hd : o.dst = some d)
    (h : lx P ops w0 S ms R T ks rest (fr bs ((d, strV l) :: us) ds) (L, V)) : lx P ops w0 S ms R T (.q :: ks) (o :: rest) (fr bs us ds) (L, V) :=
  ⟨strV l, (L, V), ⟨fun L2 h2 => yields_run hg fun w hC => by
    have hrun := run_toStr (c := c) hs he ht (hr L2 w h2 hC) hl h0
    rw [eval_ev]
    unfold execOp
    simp only [ho, hx, Sem.run_bind, hrun, Result.andThen_ok, Sem.run_pure], rfl⟩, by simp only [putK, hd, put_st]; exact h⟩
theorem Sim.at {S : List Nat} {L L2 : List Blk} (h : Sim S L L2) {w0 : Base} {w : World} (hC : Cl w0 L2 w) (p : Nat) {g : Nat} {cs vs : List Value} {ty : TypeId} (hS : p ∉ S) (hp : L[p]? = some ⟨g, cs, ty⟩) (i n : Nat) (hv : (cs.drop i).take n = vs) : Rd w (some ⟨g, i, none⟩) vs :=
  hC.rd p (h p _ hS hp) i n hv
section
variable {ops : Array Oper} {Q : Exit → Act → World → Prop} {ds : List Deferred} {rest : List Oper} {o : Oper} {d : Nat} {r : Option (Option Nat)} {m : Nat}
/-! operations under a guard that lets them run -/
theorem l_runG {W' : World} (hg : Region.wanted o (yielded ops (fr bs us ds).tmps) = true) (h : (execOp (ev bs us) o).run P W = .ok (.value v) W') (hd : o.dst = some d) (hn : LW r m P ops Q rest (fr bs ((d, v) :: us) ds) W') : LW r m P ops Q (o :: rest) (fr bs us ds) W :=
  LW.val hg (by rw [eval_ev]; exact h) (by rw [hd, put_st]; exact hn)
theorem l_loadPG (hW : Cl w0 L W) (p : Nat) {t : TypeId} {n : Nat} (ht : TyA P t n) {x : Operand} {g i : Nat} {cs vs : List Value} {ty : TypeId} (hg : Region.wanted o (yielded ops (fr bs us ds).tmps) = true) (ho : o.op = .load t x) (hx : ev bs us x = .pointer (some ⟨g, i, none⟩)) (hd : o.dst = some d)
    (hp : L[p]? = some ⟨g, cs, ty⟩) (hn : i + n ≤ cs.length) (hv : (cs.drop i).take n = vs) (h : LW r m P ops Q rest (fr bs ((d, .agg vs.toArray) :: us) ds) W) : LW r m P ops Q (o :: rest) (fr bs us ds) W :=
  l_runG hg (run_loadP_at ht p ho hx hp hn hv W hW) hd h
theorem l_loadAG (hW : Cl w0 L W) (p : Nat) {t : TypeId} {n : Nat} (ht : TyA P t n) {x : Operand} {g : Nat} {cs : List Value} {ty : TypeId} (hg : Region.wanted o (yielded ops (fr bs us ds).tmps) = true) (ho : o.op = .load t x) (hx : ev bs us x = .pointer (some ⟨g, 0, none⟩)) (hd : o.dst = some d)
    (hp : L[p]? = some ⟨g, cs, ty⟩) (hn : cs.length = n) (h : LW r m P ops Q rest (fr bs ((d, .agg cs.toArray) :: us) ds) W) : LW r m P ops Q (o :: rest) (fr bs us ds) W :=
  l_loadPG hW p ht hg ho hx hd hp (by omega) (take_all hn) h
theorem l_loadCG (hW : Cl w0 L W) (p : Nat) {t : TypeId} (ht : TyC P t) {x : Operand} {g i : Nat} {cs : List Value} {ty : TypeId} (hg : Region.wanted o (yielded ops (fr bs us ds).tmps) = true) (ho : o.op = .load t x) (hx : ev bs us x = .pointer (some ⟨g, i, none⟩)) (hd : o.dst = some d)
    (hp : L[p]? = some ⟨g, cs, ty⟩) (hv : cs[i]? = some v) (h : LW r m P ops Q rest (fr bs ((d, v) :: us) ds) W) : LW r m P ops Q (o :: rest) (fr bs us ds) W :=
  l_runG hg (run_loadC_at ht p ho hx hp hv W hW) hd h
theorem l_callRG (hW : Cl w0 L W) {f : FuncId} {xs : Array Operand} {ts : Array TypeId} {args : List Value} {Pre : World → Prop} (hgv : GivesR P f args.toArray Pre v) (he : Enters P f) (hp : Pre W) (hg : Region.wanted o (yielded ops (fr bs us ds).tmps) = true) (ho : o.op = .call { callee := .value (.func f), args := xs, argTypes := ts }) (ha : xs.toList.map (ev bs us) = args) (hd : o.dst = some d)
    (h : ∀ W', Cl w0 L W' → LW r m P ops Q rest (fr bs ((d, v) :: us) ds) W') : LW r m P ops Q (o :: rest) (fr bs us ds) W :=
  LW.call hg (by rw [eval_ev]; exact run_call he ho ha W) ((hgv W hp).mono fun _ w ⟨he, hb⟩ => ⟨v, he, by show LW r m P ops Q rest ((fr bs us ds).put o.dst v) w; rw [hd, put_st]; exact h w (hW.past hb)⟩)
theorem l_callG (hW : Cl w0 L W) {f : FuncId} {xs : Array Operand} {ts : Array TypeId} {args : List Value} (hgv : Gives P f args.toArray v) (he : Enters P f) (hg : Region.wanted o (yielded ops (fr bs us ds).tmps) = true) (ho : o.op = .call { callee := .value (.func f), args := xs, argTypes := ts }) (ha : xs.toList.map (ev bs us) = args) (hd : o.dst = some d)
    (h : ∀ W', Cl w0 L W' → LW r m P ops Q rest (fr bs ((d, v) :: us) ds) W') : LW r m P ops Q (o :: rest) (fr bs us ds) W :=
  l_callRG hW (Pre := fun _ => True) (fun w _ => hgv w) he trivial hg ho ha hd h
end
end
end Go.Proofs.Ytoegpalacppllaa
