/- A walk over frames that are lists and blocks that are known whole: code, regions, calls, loops, results. No function of the program is in sight here. -/
import Derived.Test.YtoegpalacppllaaStep
import Derived.Test.YtoegpalacppllaaTail
import Derived.Deep.LoopGhost
import Derived.Shelf.Abstract
namespace Go.Proofs.Ytoegpalacppllaa
open Go.RowKit

section
variable {P : Program} {ops : Array Oper} {Q : Exit → Act → World → Prop} {bs : List Value} {us : List (Nat × Value)} {ds : List Deferred} {w0 : Base} {W : World} {rest : List Oper} {o : Oper} {L : List Blk} {d : Nat} {v : Value} {r : Option (Option Nat)} {m : Nat}

/-! ### operations in a list -/
theorem wanted_none (hg : o.guard = none) {a : Act} : Region.wanted o (yielded ops a.tmps) = true := by simp [Region.wanted, hg]
theorem l_valG (hr : Runs P bs us o v) (hw : Region.wanted o (yielded ops (fr bs us ds).tmps) = true) (hd : o.dst = some d) (h : LW r m P ops Q rest (fr bs ((d, v) :: us) ds) W) : LW r m P ops Q (o :: rest) (fr bs us ds) W :=
  LW.val hw (by rw [eval_ev]; exact hr W) (by rw [hd, put_st]; exact h)
theorem l_val (hr : Runs P bs us o v) (hg : o.guard = none) (hd : o.dst = some d) (h : LW r m P ops Q rest (fr bs ((d, v) :: us) ds) W) : LW r m P ops Q (o :: rest) (fr bs us ds) W :=
  l_valG hr (wanted_none hg) hd h
/-- the truth of what was found last -/
theorem l_split {b : Bool} (h1 : b = true → LW r m P ops Q rest (fr bs ((d, .bool true) :: us) ds) W) (h2 : b = false → LW r m P ops Q rest (fr bs ((d, .bool false) :: us) ds) W) : LW r m P ops Q rest (fr bs ((d, .bool b) :: us) ds) W := by
  cases b
  · exact h2 rfl
  · exact h1 rfl
/-- an operation that is passed over -/
theorem l_not (hw : Region.wanted o (yielded ops (fr bs us ds).tmps) = false) (hd : o.dst = some d) (h : LW r m P ops Q rest (fr bs ((d, undef) :: us) ds) W) : LW r m P ops Q (o :: rest) (fr bs us ds) W :=
  LW.not hw (by rw [hd, put_st]; exact h)
theorem l_run {W' : World} (hg : o.guard = none) (h : (execOp (ev bs us) o).run P W = .ok (.value v) W') (hd : o.dst = some d) (hn : LW r m P ops Q rest (fr bs ((d, v) :: us) ds) W') : LW r m P ops Q (o :: rest) (fr bs us ds) W :=
  LW.val (wanted_none hg) (by rw [eval_ev]; exact h) (by rw [hd, put_st]; exact hn)

theorem run_loadP_at {t : TypeId} {n : Nat} (ht : TyA P t n) {x : Operand} {g i : Nat} {cs vs : List Value} {ty : TypeId} (p : Nat) (ho : o.op = .load t x) (hx : ev bs us x = .pointer (some ⟨g, i, none⟩)) (hp : L[p]? = some ⟨g, cs, ty⟩) (hn : i + n ≤ cs.length) (hv : (cs.drop i).take n = vs) (w : World) (hw : Cl w0 L w) :
    (execOp (ev bs us) o).run P w = .ok (.value (.agg vs.toArray)) w := by
  have := run_load_agg ht w (hw.at p hp) hn
  rw [hv] at this
  unfold execOp
  simp only [ho, hx, Instr.loadAt, Instr.sureAddr, Sem.run_bind, Sem.run_pure, Result.andThen_ok, this]
theorem run_loadC_at {t : TypeId} (ht : TyC P t) {x : Operand} {g i : Nat} {cs : List Value} {ty : TypeId} (p : Nat) (ho : o.op = .load t x) (hx : ev bs us x = .pointer (some ⟨g, i, none⟩)) (hp : L[p]? = some ⟨g, cs, ty⟩) (hv : cs[i]? = some v) (w : World) (hw : Cl w0 L w) :
    (execOp (ev bs us) o).run P w = .ok (.value v) w := by
  have := run_load_cell ht w (hw.at p hp) hv
  unfold execOp
  simp only [ho, hx, Instr.loadAt, Instr.sureAddr, Sem.run_bind, Sem.run_pure, Result.andThen_ok, this]
theorem take_all {cs : List Value} {n : Nat} (hn : cs.length = n) : (cs.drop 0).take n = cs := by subst hn; simp
theorem run_storeA_at {t : TypeId} {n : Nat} (ht : TyA P t n) {x y : Operand} {g : Nat} {cs vs : List Value} {ty : TypeId} (p : Nat) (ho : o.op = .store t x y) (hx : ev bs us x = .pointer (some ⟨g, 0, none⟩)) (hy : ev bs us y = .agg vs.toArray) (hp : L[p]? = some ⟨g, cs, ty⟩) (hc : cs.length = n) (hn : vs.length = n) (h1 : ∀ v ∈ vs, v.oneCell' = true) (w : World) (hW : Cl w0 L w) :
    (execOp (ev bs us) o).run P w = .ok .skip (w.setRow g vs.toArray) ∧ Cl w0 (L.set p ⟨g, vs, ty⟩) (w.setRow g vs.toArray) := by
  have hs := run_store_agg ht w (hW.at p hp) hn (i := 0) (by simp only; omega) h1
  have e : cs.drop (0 + n) = [] := by rw [List.drop_eq_nil_iff]; omega
  have e2 : cs.take 0 ++ vs ++ cs.drop (0 + n) = vs := by rw [e]; simp
  rw [e2] at hs
  refine ⟨?_, hW.setRow p hp vs⟩
  unfold execOp
  simp only [ho, hx, hy, Instr.storeAt, Instr.sureAddr, Sem.run_bind, Sem.run_pure, Result.andThen_ok, hs]
theorem run_storeC_at {t : TypeId} (ht : TyC P t) {x y : Operand} {g i : Nat} {cs : List Value} {ty : TypeId} (p : Nat) (ho : o.op = .store t x y) (hx : ev bs us x = .pointer (some ⟨g, i, none⟩)) (hy : ev bs us y = v) (hp : L[p]? = some ⟨g, cs, ty⟩) (hi : i < cs.length) (h1 : v.oneCell' = true) (w : World) (hW : Cl w0 L w) :
    (execOp (ev bs us) o).run P w = .ok .skip (w.setRow g (cs.set i v).toArray) ∧ Cl w0 (L.set p ⟨g, cs.set i v, ty⟩) (w.setRow g (cs.set i v).toArray) := by
  have hs := run_store_cell ht w (hW.at p hp) hi h1
  refine ⟨?_, hW.setRow p hp _⟩
  unfold execOp
  simp only [ho, hx, hy, Instr.storeAt, Instr.sureAddr, Sem.run_bind, Sem.run_pure, Result.andThen_ok, hs]

theorem l_loadP (hW : Cl w0 L W) (p : Nat) {t : TypeId} {n : Nat} (ht : TyA P t n) {x : Operand} {g i : Nat} {cs vs : List Value} {ty : TypeId} (hg : o.guard = none) (ho : o.op = .load t x) (hx : ev bs us x = .pointer (some ⟨g, i, none⟩)) (hd : o.dst = some d)
    (hp : L[p]? = some ⟨g, cs, ty⟩) (hn : i + n ≤ cs.length) (hv : (cs.drop i).take n = vs) (h : LW r m P ops Q rest (fr bs ((d, .agg vs.toArray) :: us) ds) W) : LW r m P ops Q (o :: rest) (fr bs us ds) W :=
  l_run hg (run_loadP_at ht p ho hx hp hn hv W hW) hd h
theorem l_loadA (hW : Cl w0 L W) (p : Nat) {t : TypeId} {n : Nat} (ht : TyA P t n) {x : Operand} {g : Nat} {cs : List Value} {ty : TypeId} (hg : o.guard = none) (ho : o.op = .load t x) (hx : ev bs us x = .pointer (some ⟨g, 0, none⟩)) (hd : o.dst = some d)
    (hp : L[p]? = some ⟨g, cs, ty⟩) (hn : cs.length = n) (h : LW r m P ops Q rest (fr bs ((d, .agg cs.toArray) :: us) ds) W) : LW r m P ops Q (o :: rest) (fr bs us ds) W :=
  l_loadP hW p ht hg ho hx hd hp (by omega) (take_all hn) h
theorem l_loadC (hW : Cl w0 L W) (p : Nat) {t : TypeId} (ht : TyC P t) {x : Operand} {g i : Nat} {cs : List Value} {ty : TypeId} (hg : o.guard = none) (ho : o.op = .load t x) (hx : ev bs us x = .pointer (some ⟨g, i, none⟩)) (hd : o.dst = some d)
    (hp : L[p]? = some ⟨g, cs, ty⟩) (hv : cs[i]? = some v) (h : LW r m P ops Q rest (fr bs ((d, v) :: us) ds) W) : LW r m P ops Q (o :: rest) (fr bs us ds) W :=
  l_run hg (run_loadC_at ht p ho hx hp hv W hW) hd h
/-- a whole block is written -/
theorem l_storeA (hW : Cl w0 L W) (p : Nat) {t : TypeId} {n : Nat} (ht : TyA P t n) {x y : Operand} {g : Nat} {cs vs : List Value} {ty : TypeId} (hg : o.guard = none) (ho : o.op = .store t x y) (hx : ev bs us x = .pointer (some ⟨g, 0, none⟩)) (hy : ev bs us y = .agg vs.toArray) (hd : o.dst = none)
    (hp : L[p]? = some ⟨g, cs, ty⟩) (hc : cs.length = n) (hn : vs.length = n) (h1 : ∀ v ∈ vs, v.oneCell' = true)
    (h : ∀ W', Cl w0 (L.set p ⟨g, vs, ty⟩) W' → LW r m P ops Q rest (fr bs us ds) W') : LW r m P ops Q (o :: rest) (fr bs us ds) W := by
  obtain ⟨hr, hW'⟩ := run_storeA_at ht p ho hx hy hp hc hn h1 W hW
  exact LW.skip (wanted_none hg) (by rw [eval_ev]; exact hr) (by rw [hd, put_none]; exact h _ hW')
theorem l_storeC (hW : Cl w0 L W) (p : Nat) {t : TypeId} (ht : TyC P t) {x y : Operand} {g i : Nat} {cs : List Value} {ty : TypeId} (hg : o.guard = none) (ho : o.op = .store t x y) (hx : ev bs us x = .pointer (some ⟨g, i, none⟩)) (hy : ev bs us y = v) (hd : o.dst = none)
    (hp : L[p]? = some ⟨g, cs, ty⟩) (hi : i < cs.length) (h1 : v.oneCell' = true)
    (h : ∀ W', Cl w0 (L.set p ⟨g, cs.set i v, ty⟩) W' → LW r m P ops Q rest (fr bs us ds) W') : LW r m P ops Q (o :: rest) (fr bs us ds) W := by
  obtain ⟨hr, hW'⟩ := run_storeC_at ht p ho hx hy hp hi h1 W hW
  exact LW.skip (wanted_none hg) (by rw [eval_ev]; exact hr) (by rw [hd, put_none]; exact h _ hW')

theorem l_alloc (hW : Cl w0 L W) {t : TypeId} {z : List Value} (hz : TyZ P t (.agg z.toArray)) (hg : o.guard = none) (ho : o.op = .alloc t) (hd : o.dst = some d)
    (h : ∀ g W', Cl w0 (⟨g, z, t⟩ :: L) W' → LW r m P ops Q rest (fr bs ((d, .pointer (some ⟨g, 0, none⟩)) :: us) ds) W') : LW r m P ops Q (o :: rest) (fr bs us ds) W := by
  refine l_run (W' := W.alloc (.cells z.toArray t)) hg ?_ hd (h _ _ (hW.alloc z t))
  unfold execOp
  simp only [ho, Instr.alloc, newVar, newRow, Value.cells, Sem.run_bind, Sem.run_pure, hz W, run_newObj, Result.andThen_ok]
  rfl
theorem l_allocC (hW : Cl w0 L W) {t : TypeId} {z : Value} (hz : TyZ P t z) (h1 : z.oneCell' = true) (hg : o.guard = none) (ho : o.op = .alloc t) (hd : o.dst = some d)
    (h : ∀ g W', Cl w0 (⟨g, [z], t⟩ :: L) W' → LW r m P ops Q rest (fr bs ((d, .pointer (some ⟨g, 0, none⟩)) :: us) ds) W') : LW r m P ops Q (o :: rest) (fr bs us ds) W := by
  refine l_run (W' := W.alloc (.cells [z].toArray t)) hg ?_ hd (h _ _ (hW.alloc [z] t))
  have e : z.cells = [z].toArray := by cases z <;> first | rfl | simp [Value.oneCell'] at h1
  unfold execOp
  simp only [ho, Instr.alloc, newVar, newRow, e, Sem.run_bind, Sem.run_pure, hz W, run_newObj, Result.andThen_ok]
  rfl
theorem l_box (hW : Cl w0 L W) {t : TypeId} {x : Operand} {cs : List Value} (hg : o.guard = none) (ho : o.op = .box t x) (hx : ev bs us x = .agg cs.toArray) (hd : o.dst = some d)
    (h : ∀ g W', Cl w0 (⟨g, cs, t⟩ :: L) W' → LW r m P ops Q rest (fr bs ((d, .pointer (some ⟨g, 0, none⟩)) :: us) ds) W') : LW r m P ops Q (o :: rest) (fr bs us ds) W := by
  refine l_run (W' := W.alloc (.cells cs.toArray t)) hg ?_ hd (h _ _ (hW.alloc cs t))
  unfold execOp
  simp only [ho, hx, Instr.box, newVar, newRow, Value.cells, Sem.run_bind, Sem.run_pure, run_newObj, Result.andThen_ok]
  rfl
theorem l_boxC (hW : Cl w0 L W) {t : TypeId} {x : Operand} (hg : o.guard = none) (ho : o.op = .box t x) (hx : ev bs us x = v) (h1 : v.oneCell' = true) (hd : o.dst = some d)
    (h : ∀ g W', Cl w0 (⟨g, [v], t⟩ :: L) W' → LW r m P ops Q rest (fr bs ((d, .pointer (some ⟨g, 0, none⟩)) :: us) ds) W') : LW r m P ops Q (o :: rest) (fr bs us ds) W := by
  refine l_run (W' := W.alloc (.cells [v].toArray t)) hg ?_ hd (h _ _ (hW.alloc [v] t))
  have e : v.cells = [v].toArray := by cases v <;> first | rfl | simp [Value.oneCell'] at h1
  unfold execOp
  simp only [ho, hx, Instr.box, newVar, newRow, e, Sem.run_bind, Sem.run_pure, run_newObj, Result.andThen_ok]
  rfl

theorem run_call {f : FuncId} {xs : Array Operand} {ts : Array TypeId} {args : List Value} (he : Enters P f) (ho : o.op = .call { callee := .value (.func f), args := xs, argTypes := ts }) (ha : xs.toList.map (ev bs us) = args) (w : World) :
    (execOp (ev bs us) o).run P w = .ok (.enter f args.toArray) w := by
  have e : xs.map (ev bs us) = args.toArray := by subst ha; apply Array.ext'; simp only [Array.toList_map]
  unfold execOp
  have e2 : (#[] : Array Value) ++ args.toArray ++ #[] = args.toArray := by simp
  simp only [ho, resolve, e, ev, Deferred.ofValue, Sem.run_bind, Sem.run_pure, Result.andThen_ok, invoke, e2]
  exact he _ w
/-- a call of a function value -/
theorem run_callV {f : FuncId} {x : Operand} {xs : Array Operand} {ts : Array TypeId} {args cap : List Value} (he : Enters P f) (ho : o.op = .call { callee := .value x, args := xs, argTypes := ts }) (hx : ev bs us x = .func (.func f) #[] cap.toArray) (ha : xs.toList.map (ev bs us) = args) (w : World) :
    (execOp (ev bs us) o).run P w = .ok (.enter f (args ++ cap).toArray) w := by
  have e : xs.map (ev bs us) = args.toArray := by subst ha; apply Array.ext'; simp only [Array.toList_map]
  unfold execOp
  have e2 : (#[] : Array Value) ++ args.toArray ++ cap.toArray = (args ++ cap).toArray := by simp
  simp only [ho, resolve, e, hx, Deferred.ofValue, Sem.run_bind, Sem.run_pure, Result.andThen_ok, invoke, e2]
  exact he _ w
theorem l_enter {f : FuncId} {args : Array Value} (hg : o.guard = none) (hr : ∀ w, (execOp (ev bs us) o).run P w = .ok (.enter f args) w) (hd : o.dst = some d)
    (h : Calls P f args W (After fun v w => LW r m P ops Q rest (fr bs ((d, v) :: us) ds) w)) : LW r m P ops Q (o :: rest) (fr bs us ds) W :=
  LW.call (wanted_none hg) (by rw [eval_ev]; exact hr W) (h.mono fun _ w ⟨v, he, hv⟩ => ⟨v, he, by show LW r m P ops Q rest ((fr bs us ds).put o.dst v) w; rw [hd, put_st]; exact hv⟩)
theorem l_call (hW : Cl w0 L W) {f : FuncId} {xs : Array Operand} {ts : Array TypeId} {args : List Value} (hgv : Gives P f args.toArray v) (he : Enters P f) (hg : o.guard = none) (ho : o.op = .call { callee := .value (.func f), args := xs, argTypes := ts }) (ha : xs.toList.map (ev bs us) = args) (hd : o.dst = some d)
    (h : ∀ W', Cl w0 L W' → LW r m P ops Q rest (fr bs ((d, v) :: us) ds) W') : LW r m P ops Q (o :: rest) (fr bs us ds) W :=
  l_enter hg (run_call he ho ha) hd ((hgv W).mono fun _ w ⟨he, hb⟩ => ⟨v, he, h w (hW.past hb)⟩)
theorem l_callV (hW : Cl w0 L W) {f : FuncId} {x : Operand} {xs : Array Operand} {ts : Array TypeId} {args cap : List Value} (hgv : Gives P f (args ++ cap).toArray v) (he : Enters P f) (hg : o.guard = none) (ho : o.op = .call { callee := .value x, args := xs, argTypes := ts }) (hx : ev bs us x = .func (.func f) #[] cap.toArray) (ha : xs.toList.map (ev bs us) = args) (hd : o.dst = some d)
    (h : ∀ W', Cl w0 L W' → LW r m P ops Q rest (fr bs ((d, v) :: us) ds) W') : LW r m P ops Q (o :: rest) (fr bs us ds) W :=
  l_enter hg (run_callV he ho hx ha) hd ((hgv W).mono fun _ w ⟨he, hb⟩ => ⟨v, he, h w (hW.past hb)⟩)

/-! ### operations in a region that draws its order -/
section
variable {S : List Nat} {ks : List Kd} {ms : List Mk} {V : List (List Value)} {R : Act → St → Prop} {T : List Oper → Act → St → Prop}
theorem yields_run {C : World → Prop} {a : Act} (hw : Region.wanted o (yielded ops a.tmps) = true) (h : ∀ w, C w → (execOp a.eval o).run P w = .ok (.value v) w) : YieldsIn P ops C o v a :=
  .inl ⟨hw, fun w hC => by unfold Oper.quietAt; rw [h w hC]; exact ⟨rfl, rfl⟩⟩
theorem y_val (hr : Runs P bs us o v) (hw : Region.wanted o (yielded ops (fr bs us ds).tmps) = true) (hd : o.dst = some d) (h : lx P ops w0 S ms R T ks rest (fr bs ((d, v) :: us) ds) (L, V)) : lx P ops w0 S ms R T (.q :: ks) (o :: rest) (fr bs us ds) (L, V) :=
  ⟨v, (L, V), ⟨fun _ _ => yields_run hw fun w _ => by rw [eval_ev]; exact hr w, rfl⟩, by simp only [putK, hd, put_st]; exact h⟩
theorem y_not (hw : Region.wanted o (yielded ops (fr bs us ds).tmps) = false) (hd : o.dst = some d) (h : lx P ops w0 S ms R T ks rest (fr bs ((d, undef) :: us) ds) (L, V)) : lx P ops w0 S ms R T (.q :: ks) (o :: rest) (fr bs us ds) (L, V) :=
  ⟨undef, (L, V), ⟨fun _ _ => .inr ⟨hw, rfl⟩, rfl⟩, by simp only [putK, hd, put_st]; exact h⟩

theorem y_not1 (hw : Region.wanted o (yielded ops (fr bs us ds).tmps) = false) (hd : o.dst = some d) (h : lx P ops w0 S ms R T ks rest (fr bs ((d, undef) :: us) ds) (L, V)) : lx P ops w0 S ms R T (.r :: ks) (o :: rest) (fr bs us ds) (L, V) :=
  ⟨undef, (L, V), ⟨fun _ => .inr ⟨hw, rfl⟩, rfl⟩, by simp only [putK, hd, put_st]; exact h⟩
theorem y_split {b : Bool} (h1 : b = true → lx P ops w0 S ms R T ks rest (fr bs ((d, .bool true) :: us) ds) (L, V)) (h2 : b = false → lx P ops w0 S ms R T ks rest (fr bs ((d, .bool false) :: us) ds) (L, V)) : lx P ops w0 S ms R T ks rest (fr bs ((d, .bool b) :: us) ds) (L, V) := by
  cases b
  · exact h2 rfl
  · exact h1 rfl
theorem y_loadP (p : Nat) {t : TypeId} {n : Nat} (ht : TyA P t n) {x : Operand} {g i : Nat} {cs vs : List Value} {ty : TypeId} (hw : Region.wanted o (yielded ops (fr bs us ds).tmps) = true) (ho : o.op = .load t x) (hx : ev bs us x = .pointer (some ⟨g, i, none⟩)) (hd : o.dst = some d)
    (hp : L[p]? = some ⟨g, cs, ty⟩) (hn : i + n ≤ cs.length) (hv : (cs.drop i).take n = vs) (hS : p ∉ S) (h : lx P ops w0 S ms R T ks rest (fr bs ((d, .agg vs.toArray) :: us) ds) (L, V)) : lx P ops w0 S ms R T (.q :: ks) (o :: rest) (fr bs us ds) (L, V) :=
  ⟨_, (L, V), ⟨fun _ hs => yields_run hw fun w hC => by rw [eval_ev]; exact run_loadP_at ht p ho hx (hs p _ hS hp) hn hv w hC, rfl⟩, by simp only [putK, hd, put_st]; exact h⟩
theorem y_loadP1 (p : Nat) {t : TypeId} {n : Nat} (ht : TyA P t n) {x : Operand} {g i : Nat} {cs vs : List Value} {ty : TypeId} (hw : Region.wanted o (yielded ops (fr bs us ds).tmps) = true) (ho : o.op = .load t x) (hx : ev bs us x = .pointer (some ⟨g, i, none⟩)) (hd : o.dst = some d)
    (hp : L[p]? = some ⟨g, cs, ty⟩) (hn : i + n ≤ cs.length) (hv : (cs.drop i).take n = vs) (h : lx P ops w0 S ms R T ks rest (fr bs ((d, .agg vs.toArray) :: us) ds) (L, V)) : lx P ops w0 S ms R T (.r :: ks) (o :: rest) (fr bs us ds) (L, V) :=
  ⟨_, (L, V), ⟨fun N => yields_run hw fun w hC => by rw [eval_ev]; exact run_loadP_at ht p ho hx (Sim.more [] L N p _ (by simp) hp) hn hv w hC, rfl⟩, by simp only [putK, hd, put_st]; exact h⟩
theorem y_loadA (p : Nat) {t : TypeId} {n : Nat} (ht : TyA P t n) {x : Operand} {g : Nat} {cs : List Value} {ty : TypeId} (hw : Region.wanted o (yielded ops (fr bs us ds).tmps) = true) (ho : o.op = .load t x) (hx : ev bs us x = .pointer (some ⟨g, 0, none⟩)) (hd : o.dst = some d)
    (hp : L[p]? = some ⟨g, cs, ty⟩) (hn : cs.length = n) (hS : p ∉ S) (h : lx P ops w0 S ms R T ks rest (fr bs ((d, .agg cs.toArray) :: us) ds) (L, V)) : lx P ops w0 S ms R T (.q :: ks) (o :: rest) (fr bs us ds) (L, V) :=
  y_loadP p ht hw ho hx hd hp (by omega) (take_all hn) hS h
theorem y_loadA1 (p : Nat) {t : TypeId} {n : Nat} (ht : TyA P t n) {x : Operand} {g : Nat} {cs : List Value} {ty : TypeId} (hw : Region.wanted o (yielded ops (fr bs us ds).tmps) = true) (ho : o.op = .load t x) (hx : ev bs us x = .pointer (some ⟨g, 0, none⟩)) (hd : o.dst = some d)
    (hp : L[p]? = some ⟨g, cs, ty⟩) (hn : cs.length = n) (h : lx P ops w0 S ms R T ks rest (fr bs ((d, .agg cs.toArray) :: us) ds) (L, V)) : lx P ops w0 S ms R T (.r :: ks) (o :: rest) (fr bs us ds) (L, V) :=
  y_loadP1 p ht hw ho hx hd hp (by omega) (take_all hn) h
theorem y_loadC (p : Nat) {t : TypeId} (ht : TyC P t) {x : Operand} {g i : Nat} {cs : List Value} {ty : TypeId} (hw : Region.wanted o (yielded ops (fr bs us ds).tmps) = true) (ho : o.op = .load t x) (hx : ev bs us x = .pointer (some ⟨g, i, none⟩)) (hd : o.dst = some d)
    (hp : L[p]? = some ⟨g, cs, ty⟩) (hv : cs[i]? = some v) (hS : p ∉ S) (h : lx P ops w0 S ms R T ks rest (fr bs ((d, v) :: us) ds) (L, V)) : lx P ops w0 S ms R T (.q :: ks) (o :: rest) (fr bs us ds) (L, V) :=
  ⟨_, (L, V), ⟨fun _ hs => yields_run hw fun w hC => by rw [eval_ev]; exact run_loadC_at ht p ho hx (hs p _ hS hp) hv w hC, rfl⟩, by simp only [putK, hd, put_st]; exact h⟩
theorem y_loadC1 (p : Nat) {t : TypeId} (ht : TyC P t) {x : Operand} {g i : Nat} {cs : List Value} {ty : TypeId} (hw : Region.wanted o (yielded ops (fr bs us ds).tmps) = true) (ho : o.op = .load t x) (hx : ev bs us x = .pointer (some ⟨g, i, none⟩)) (hd : o.dst = some d)
    (hp : L[p]? = some ⟨g, cs, ty⟩) (hv : cs[i]? = some v) (h : lx P ops w0 S ms R T ks rest (fr bs ((d, v) :: us) ds) (L, V)) : lx P ops w0 S ms R T (.r :: ks) (o :: rest) (fr bs us ds) (L, V) :=
  ⟨_, (L, V), ⟨fun N => yields_run hw fun w hC => by rw [eval_ev]; exact run_loadC_at ht p ho hx (Sim.more [] L N p _ (by simp) hp) hv w hC, rfl⟩, by simp only [putK, hd, put_st]; exact h⟩

theorem yields_call {a : Act} {f : FuncId} {args : Array Value} (hg : Gives P f args v) (hw : Region.wanted o (yielded ops a.tmps) = true) (hr : ∀ w, (execOp a.eval o).run P w = .ok (.enter f args) w) : YieldsIn P ops (Cl w0 L) o v a :=
  .inl ⟨hw, fun w hW => by
    unfold Oper.quietAt
    rw [hr w]
    exact ⟨rfl, (hg w).mono fun e w' ⟨he, hb⟩ => ⟨he, hW.past hb⟩⟩⟩
theorem y_call {f : FuncId} {xs : Array Operand} {ts : Array TypeId} {args : List Value} (hgv : Gives P f args.toArray v) (he : Enters P f) (hw : Region.wanted o (yielded ops (fr bs us ds).tmps) = true) (ho : o.op = .call { callee := .value (.func f), args := xs, argTypes := ts }) (ha : xs.toList.map (ev bs us) = args) (hd : o.dst = some d)
    (h : lx P ops w0 S ms R T ks rest (fr bs ((d, v) :: us) ds) (L, V)) : lx P ops w0 S ms R T (.q :: ks) (o :: rest) (fr bs us ds) (L, V) :=
  ⟨v, (L, V), ⟨fun _ _ => yields_call hgv hw (by rw [eval_ev]; exact run_call he ho ha), rfl⟩, by simp only [putK, hd, put_st]; exact h⟩
theorem y_callV {f : FuncId} {x : Operand} {xs : Array Operand} {ts : Array TypeId} {args cap : List Value} (hgv : Gives P f (args ++ cap).toArray v) (he : Enters P f) (hw : Region.wanted o (yielded ops (fr bs us ds).tmps) = true) (ho : o.op = .call { callee := .value x, args := xs, argTypes := ts }) (hx : ev bs us x = .func (.func f) #[] cap.toArray) (ha : xs.toList.map (ev bs us) = args) (hd : o.dst = some d)
    (h : lx P ops w0 S ms R T ks rest (fr bs ((d, v) :: us) ds) (L, V)) : lx P ops w0 S ms R T (.q :: ks) (o :: rest) (fr bs us ds) (L, V) :=
  ⟨v, (L, V), ⟨fun _ _ => yields_call hgv hw (by rw [eval_ev]; exact run_callV he ho hx ha), rfl⟩, by simp only [putK, hd, put_st]; exact h⟩

theorem y_storeA (p : Nat) {t : TypeId} {n : Nat} (ht : TyA P t n) {x y : Operand} {g : Nat} {cs vs : List Value} {ty : TypeId} (hw : Region.wanted o (yielded ops (fr bs us ds).tmps) = true) (ho : o.op = .store t x y) (hx : ev bs us x = .pointer (some ⟨g, 0, none⟩)) (hy : ev bs us y = .agg vs.toArray) (hd : o.dst = none)
    (hp : L[p]? = some ⟨g, cs, ty⟩) (hc : cs.length = n) (hn : vs.length = n) (h1 : ∀ v ∈ vs, v.oneCell' = true) (hS : p ∈ S)
    (h : lx P ops w0 S ms R T ks rest (fr bs us ds) (L.set p ⟨g, vs, ty⟩, V)) : lx P ops w0 S ms R T (.s :: ks) (o :: rest) (fr bs us ds) (L, V) :=
  ⟨undef, (L.set p ⟨g, vs, ty⟩, V), ⟨rfl, hw, fun N w hW => by
    have hp' := Sim.more [] L N p _ (by simp) hp
    have e : (L ++ N).set p ⟨g, vs, ty⟩ = L.set p ⟨g, vs, ty⟩ ++ N := List.set_append_left _ _ (List.getElem?_eq_some_iff.1 hp).1
    obtain ⟨h2, h3⟩ := run_storeA_at ht p ho hx hy hp' hc hn h1 w hW
    rw [e] at h3
    exact ⟨_, by rw [eval_ev]; exact h2, h3⟩, Sim.set L p _ hS, Sim.unset L p _ hS, rfl⟩, by simp only [putK, hd, put_none]; exact h⟩
theorem y_storeC (p : Nat) {t : TypeId} (ht : TyC P t) {x y : Operand} {g i : Nat} {cs : List Value} {ty : TypeId} (hw : Region.wanted o (yielded ops (fr bs us ds).tmps) = true) (ho : o.op = .store t x y) (hx : ev bs us x = .pointer (some ⟨g, i, none⟩)) (hy : ev bs us y = v) (hd : o.dst = none)
    (hp : L[p]? = some ⟨g, cs, ty⟩) (hi : i < cs.length) (h1 : v.oneCell' = true) (hS : p ∈ S)
    (h : lx P ops w0 S ms R T ks rest (fr bs us ds) (L.set p ⟨g, cs.set i v, ty⟩, V)) : lx P ops w0 S ms R T (.s :: ks) (o :: rest) (fr bs us ds) (L, V) :=
  ⟨undef, (L.set p ⟨g, cs.set i v, ty⟩, V), ⟨rfl, hw, fun N w hW => by
    have hp' := Sim.more [] L N p _ (by simp) hp
    have e : (L ++ N).set p ⟨g, cs.set i v, ty⟩ = L.set p ⟨g, cs.set i v, ty⟩ ++ N := List.set_append_left _ _ (List.getElem?_eq_some_iff.1 hp).1
    obtain ⟨h2, h3⟩ := run_storeC_at ht p ho hx hy hp' hi h1 w hW
    rw [e] at h3
    exact ⟨_, by rw [eval_ev]; exact h2, h3⟩, Sim.set L p _ hS, Sim.unset L p _ hS, rfl⟩, by simp only [putK, hd, put_none]; exact h⟩
theorem y_end {a : Act} {s : St} (h : R a s) : lx P ops w0 S ms R T [] [] a s := h
theorem y_tail {a : Act} {s : St} (h : T (o :: rest) a s) : lx P ops w0 S ms R T (.tail :: ks) (o :: rest) a s := h
theorem y_made {X : List Value → Value → List Blk → Prop} {z : List Value} {K : Act → List Blk → Prop} (h : ∀ v Bs, X z v Bs → Full ms V (fr bs ((d, v) :: us) ds) (Bs ++ L) K) : Full (⟨d, X⟩ :: ms) (z :: V) (fr bs us ds) L K := fun v Bs hx => by
  have := h v Bs hx
  rw [← put_st] at this
  exact this

theorem Cl.to'' {L' : List Blk} {w : World} (h : Cl w0 L w) (e : L = L') : Cl w0 L' w := e ▸ h
/-- a new variable of n cells -/
def allocX (t : TypeId) (n : Nat) (cs : List Value) (v : Value) (Bs : List Blk) : Prop := ∃ g, v = .pointer (some ⟨g, 0, none⟩) ∧ Bs = [⟨g, cs, t⟩] ∧ cs.length = n
theorem cl_end {L : List Blk} {g : Nat} {cs : List Value} {t : TypeId} {w : World} (h : Cl w0 (⟨g, cs, t⟩ :: L) w) : Cl w0 (L ++ [⟨g, cs, t⟩]) w := h.perm (List.perm_append_singleton _ _).symm
theorem y_alloc (i : Nat) {t : TypeId} {n : Nat} {z : List Value} (hz : TyZ P t (.agg z.toArray)) (hk : ms[i]? = some ⟨d, allocX t n⟩) (hV : V[i]? = some z) (hn : z.length = n) (ho : o.op = .alloc t)
    (h : lx P ops w0 S ms R T ks rest (fr bs us ds) (L, V)) : lx P ops w0 S ms R T (.mk i :: ks) (o :: rest) (fr bs us ds) (L, V) := by
  refine ⟨undef, (L, V), ⟨rfl, rfl, _, z, hk, hV, fun L2 _ w hw => .inl ⟨_, _, w.alloc (.cells z.toArray t), ?_, ⟨w.heap.size, rfl, rfl, hn⟩, cl_end (hw.alloc z t)⟩⟩, h⟩
  unfold execOp
  simp only [ho, Instr.alloc, newVar, newRow, Value.cells, Sem.run_bind, Sem.run_pure, hz w, run_newObj, Result.andThen_ok]
  rfl
theorem y_allocC (i : Nat) {t : TypeId} {z : Value} (hz : TyZ P t z) (h1 : z.oneCell' = true) (hk : ms[i]? = some ⟨d, allocX t 1⟩) (hV : V[i]? = some [z]) (ho : o.op = .alloc t)
    (h : lx P ops w0 S ms R T ks rest (fr bs us ds) (L, V)) : lx P ops w0 S ms R T (.mk i :: ks) (o :: rest) (fr bs us ds) (L, V) := by
  refine ⟨undef, (L, V), ⟨rfl, rfl, _, [z], hk, hV, fun L2 _ w hw => .inl ⟨_, _, w.alloc (.cells [z].toArray t), ?_, ⟨w.heap.size, rfl, rfl, rfl⟩, cl_end (hw.alloc [z] t)⟩⟩, h⟩
  have e : z.cells = [z].toArray := by cases z <;> first | rfl | simp [Value.oneCell'] at h1
  unfold execOp
  simp only [ho, Instr.alloc, newVar, newRow, e, Sem.run_bind, Sem.run_pure, hz w, run_newObj, Result.andThen_ok]
  rfl
theorem y_stA (i : Nat) {t : TypeId} {n : Nat} (ht : TyA P t n) {y : Operand} {vs : List Value} (hk : ms[i]? = some ⟨d, allocX t n⟩) (ho : o.op = .store t (.tmp d) y) (hd : o.dst = none) (hy : ev bs us y = .agg vs.toArray) (hn : vs.length = n) (h1 : ∀ v ∈ vs, v.oneCell' = true)
    (h : lx P ops w0 S ms R T ks rest (fr bs us ds) (L, V.set i vs)) : lx P ops w0 S ms R T (.st i :: ks) (o :: rest) (fr bs us ds) (L, V) := by
  refine ⟨undef, (L, V.set i vs), ⟨rfl, _, vs, hk, ⟨t, y, ho, ?_⟩, rfl⟩, by simp only [putK, hd, put_none]; exact h⟩
  rintro ρ v cs Bs M w h2 h3 ⟨g, rfl, rfl, hl⟩ hC
  have hp : (M ++ [(⟨g, cs, t⟩ : Blk)])[M.length]? = some ⟨g, cs, t⟩ := by simp
  have hs := run_store_agg ht w (hC.at _ hp) hn (i := 0) (by simp only; omega) h1
  have e : cs.drop (0 + n) = [] := by rw [List.drop_eq_nil_iff]; omega
  have e2 : cs.take 0 ++ vs ++ cs.drop (0 + n) = vs := by rw [e]; simp
  rw [e2] at hs
  refine ⟨_, [⟨g, vs, t⟩], ?_, ⟨g, rfl, rfl, hn⟩, (hC.setRow M.length hp vs).to'' (by simp)⟩
  rw [eval_ev, hy] at h3
  unfold execOp
  simp only [ho, h2, h3, Instr.storeAt, Instr.sureAddr, Sem.run_bind, Sem.run_pure, Result.andThen_ok, hs]
theorem y_stC (i : Nat) {t : TypeId} (ht : TyC P t) {y : Operand} {u : Value} (hk : ms[i]? = some ⟨d, allocX t 1⟩) (ho : o.op = .store t (.tmp d) y) (hd : o.dst = none) (hy : ev bs us y = u) (h1 : u.oneCell' = true)
    (h : lx P ops w0 S ms R T ks rest (fr bs us ds) (L, V.set i [u])) : lx P ops w0 S ms R T (.st i :: ks) (o :: rest) (fr bs us ds) (L, V) := by
  refine ⟨undef, (L, V.set i [u]), ⟨rfl, _, [u], hk, ⟨t, y, ho, ?_⟩, rfl⟩, by simp only [putK, hd, put_none]; exact h⟩
  rintro ρ v cs Bs M w h2 h3 ⟨g, rfl, rfl, hl⟩ hC
  have hp : (M ++ [(⟨g, cs, t⟩ : Blk)])[M.length]? = some ⟨g, cs, t⟩ := by simp
  have hs := run_store_cell ht w (hC.at _ hp) (i := 0) (by show 0 < cs.length; omega) h1
  have e : cs.set 0 u = [u] := by
    match cs, hl with
    | [x], _ => rfl
  simp only [e] at hs
  refine ⟨_, [⟨g, [u], t⟩], ?_, ⟨g, rfl, rfl, rfl⟩, (hC.setRow M.length hp [u]).to'' (by simp)⟩
  rw [eval_ev, hy] at h3
  unfold execOp
  simp only [ho, h2, h3, Instr.storeAt, Instr.sureAddr, Sem.run_bind, Sem.run_pure, Result.andThen_ok, hs]
end

/-! ### regions -/
variable {a : Act}
theorem c_reg {id : Nat} {os : List Oper} (h : LW r m P os.toArray Q os a W) : CW r m P (Code.region id os.toArray false) Q a W := CW.region h
theorem c_regY (hW : Cl w0 L W) {id : Nat} {os : List Oper} (S : List Nat) (ks : List Kd) (M : List Nat) (hm : P.follows .mixedOrders = true) (hB : regionB os.toArray ks [] [] M = true)
    (h : lx P os.toArray w0 S [] (fun a' s' => Full [] s'.2 a' s'.1 fun a' L' => ∀ w', Cl w0 L' w' → Q .normal a' w') (fun l' a' s' => Full [] s'.2 a' s'.1 fun a' L' => ∀ w', Cl w0 L' w' → LW r m P os.toArray Q l' a' w') ks os a (L, [])) : CW r m P (Code.region id os.toArray true) Q a W :=
  wp_region_lx hW S ks [] [] [] M hm hB rfl (by simp) h
/-- a region with makers -/
theorem c_regM (hW : Cl w0 L W) {id : Nat} {os : List Oper} (S : List Nat) (ks : List Kd) (ms : List Mk) (V : List (List Value)) (ix M : List Nat) (hm : P.follows .mixedOrders = true) (hB : regionB os.toArray ks (ms.map Mk.d) ix M = true) (hV : V.length = ms.length) (hd : (ms.all fun k => Nat.blt k.d bs.length) = true)
    (h : lx P os.toArray w0 S ms (fun a' s' => Full ms s'.2 a' s'.1 fun a' L' => ∀ w', Cl w0 L' w' → Q .normal a' w') (fun l' a' s' => Full ms s'.2 a' s'.1 fun a' L' => ∀ w', Cl w0 L' w' → LW r m P os.toArray Q l' a' w') ks os (fr bs us ds) (L, V)) : CW r m P (Code.region id os.toArray true) Q (fr bs us ds) W :=
  wp_region_lx hW S ks ms V ix M hm hB hV (fun k hk => by
    have := List.all_eq_true.1 hd k hk
    rw [Nat.blt_eq] at this
    simpa [fr, toL_len] using this) h
/-- a region with makers, whose tail is in any order again -/
theorem c_regC (hW : Cl w0 L W) {id : Nat} {os : List Oper} (S : List Nat) (ks : List Kd) (ms : List Mk) (V : List (List Value)) (ix M S2 : List Nat) (ks2 : List Kd) (ms2 : List Mk) (V2 : List (List Value)) (ix2 : List Nat) (hm : P.follows .mixedOrders = true) (hB : regionB2 os.toArray ks ks2 (ms.map Mk.d) ix M (ms2.map Mk.d) ix2 = true) (hV : V.length = ms.length) (hV2 : V2.length = ms2.length) (hd : (ms.all fun k => Nat.blt k.d bs.length) = true) (hd2 : (ms2.all fun k => Nat.blt k.d bs.length) = true)
    (h : lx P os.toArray w0 S ms (fun a' s' => Full ms s'.2 a' s'.1 fun a' L' => ∀ w', Cl w0 L' w' → Q .normal a' w')
      (fun l' a' s' => Full ms s'.2 a' s'.1 fun a' L' => lx P os.toArray w0 S2 ms2 (fun a' s' => Full ms2 s'.2 a' s'.1 fun a' L' => ∀ w', Cl w0 L' w' → Q .normal a' w') (fun _ _ _ => False) (ks2.drop (os.length - l'.length)) l' a' (L', V2)) ks os (fr bs us ds) (L, V)) : CW r m P (Code.region id os.toArray true) Q (fr bs us ds) W :=
  wp_region_lx2 hW S ks ms V ix M S2 ks2 ms2 V2 ix2 hm hB hV hV2 (fun k hk => by
    have := List.all_eq_true.1 hd2 k hk
    rw [Nat.blt_eq] at this
    simpa [fr, toL_len] using this) (fun k hk => by
    have := List.all_eq_true.1 hd k hk
    rw [Nat.blt_eq] at this
    simpa [fr, toL_len] using this) h
theorem l_end (h : Q .normal a W) : LW r m P ops Q [] a W := LW.nil h

/-! ### code -/
theorem c_seq {x y : Code} (h : CW r m P x (Exit.then (CW r m P y Q) Q) a W) : CW r m P (Code.seq x y) Q a W := CW.seq h
theorem c_block {id : Nat} {c : Code} (h : CW r m P c (Exit.inBlock id Q) a W) : CW r m P (Code.block id c) Q a W := CW.block h
theorem c_skip (h : Q .normal a W) : CW r m P Code.skip Q a W := CW.skip h
theorem c_exit {id : Nat} (h : Q (.exit id) a W) : CW r m P (Code.exit id) Q a W := CW.exit h
theorem c_ret (h : Q .ret a W) : CW r m P Code.ret Q a W := CW.ret h
theorem c_true {c : Operand} {x y : Code} (hc : ev bs us c = .bool true) (h : CW r m P x Q (fr bs us ds) W) : CW r m P (Code.cond c x y) Q (fr bs us ds) W := CW.condT (by rw [eval_ev]; exact hc) h
theorem c_false {c : Operand} {x y : Code} (hc : ev bs us c = .bool false) (h : CW r m P y Q (fr bs us ds) W) : CW r m P (Code.cond c x y) Q (fr bs us ds) W := CW.condF (by rw [eval_ev]; exact hc) h
theorem n_then {N : Act → World → Prop} (h : N a W) : Exit.then N Q .normal a W := h
theorem n_block {id : Nat} (h : Q .normal a W) : Exit.inBlock id Q .normal a W := h
theorem x_then {N : Act → World → Prop} {i : Nat} (h : Q (.exit i) a W) : Exit.then N Q (.exit i) a W := h
theorem x_hit {id : Nat} (h : Q .normal a W) : Exit.inBlock id Q (.exit id) a W := by simpa [Exit.inBlock] using h
theorem x_miss {id i : Nat} (hi : i ≠ id) (h : Q (.exit i) a W) : Exit.inBlock id Q (.exit i) a W := by simpa [Exit.inBlock, hi] using h
theorem r_then {N : Act → World → Prop} (h : Q .ret a W) : Exit.then N Q .ret a W := h
theorem r_block {id : Nat} (h : Q .ret a W) : Exit.inBlock id Q .ret a W := h

/-- a loop: F: the frame as a function of a ghost and of slots of no account; B: the blocks -/
theorem c_loop {c : Code} {α : Type} (F : α → (Nat → Value) → List Value) (B : α → List Blk) (H : α → Prop) (μ : α → Nat) (x0 : α) (hl : toL bs us = F x0 (look bs us)) (hW : Cl w0 (B x0) W) (h0 : H x0)
    (round : ∀ x j W, H x → Cl w0 (B x) W → CW r m P c (Exit.then (fun a' W' => ∃ x' j', a' = fr (F x' j') [] ds ∧ Cl w0 (B x') W' ∧ H x' ∧ μ x' < μ x) Q) (fr (F x j) [] ds) W) : CW r m P (Code.loop c) Q (fr bs us ds) W := by
  refine CW.loop (fun n a W => ∃ x j, a = fr (F x j) [] ds ∧ Cl w0 (B x) W ∧ H x ∧ μ x = n) (μ x0) ⟨x0, look bs us, by rw [← hl]; rfl, hW, h0, rfl⟩ ?_
  rintro n a W ⟨x, j, rfl, hB, hx, rfl⟩
  refine CW.mono (round x j W hx hB) ?_
  intro e a W h
  cases e with
  | normal =>
    obtain ⟨x', j', ha, hB', hx', hm⟩ := h
    exact ⟨μ x', hm, x', j', ha, hB', hx', rfl⟩
  | exit id => exact h
  | goto t => exact h
  | ret => exact h
  | panic ch => exact h
  | outgrown => exact h

/-- a round's end -/
theorem loop_next {α : Type} {F : α → (Nat → Value) → List Value} {B : α → List Blk} {H : α → Prop} {μ : α → Nat} {mm : Nat} (x' : α) (hl : toL bs us = F x' (look bs us)) (hW : Cl w0 (B x') W) (hH : H x') (hm : μ x' < mm) :
    ∃ x' j', fr bs us ds = fr (F x' j') [] ds ∧ Cl w0 (B x') W ∧ H x' ∧ μ x' < mm := ⟨x', look bs us, by rw [← hl]; rfl, hW, hH, hm⟩

theorem Cl.to {L' : List Blk} (h : Cl w0 L W) (e : L = L') : Cl w0 L' W := e ▸ h
/-- the newest blocks are forgotten -/
theorem Cl.drop (h : Cl w0 L W) (n : Nat) : Cl w0 (L.drop n) W := h.sub (List.drop_sublist n L)


/-! ### a function -/
theorem gives_of {f : FuncId} {fn : Func} {c : Code} {args : List Value} (hf : P.funcs[f]? = some fn) (hb : fn.body = some c) (hl : args ++ List.replicate (fn.ntmps - args.length) undef = bs)
    (h : ∀ w, Cl (base w) [] w → CW none 0 P c (bodyPost P fn (fun e w' => e = .returned v ∧ Below w.heap.size w w')) (fr bs [] []) w) : Gives P f args.toArray v := fun w => by
  refine calls_of_wp hf hb ?_
  have e : args.toArray ++ Array.replicate (fn.ntmps - args.toArray.size) undef = bs.toArray := by
    rw [← hl]; simp
  rw [e]
  exact h w (Cl.nil w)

variable {fn : Func} {R' : Ending → World → Prop}
theorem res_cell {p : Tmp} {t : TypeId} {n : Nat} {g : Nat} {cs : List Value} {ty : TypeId} (hW : Cl w0 L W) (q : Nat) (ht : TyA P t n) (hr : fn.results = #[.cell p t]) (hp : look bs us p = .pointer (some ⟨g, 0, none⟩)) (hL : L[q]? = some ⟨g, cs, ty⟩) (hn : cs.length = n) :
    (results fn (toL bs us).toArray).run P W = .ok (.agg cs.toArray) W := by
  have h1 := run_load_agg ht W (hW.at q hL) (i := 0) (by simp only; omega)
  have h2 : (toL bs us).toArray.getD p undef = .pointer (some ⟨g, 0, none⟩) := by rw [nth_getD, ← look_nth]; exact hp
  have e : (cs.drop 0).take n = cs := by simp [← hn]
  rw [e] at h1
  rw [Array.getD_eq_getD_getElem?] at h2
  simp at h2
  simp [results, hr, asAddr, h2, h1]
theorem ret_tmp {p : Tmp} (hr : fn.results = #[.tmp p]) (hv : look bs us p = v) (h : R' (.returned v) W) : bodyPost P fn R' .ret (fr bs us []) W :=
  ⟨rfl, v, by rw [← hv, look_nth, ← nth_getD]; exact results_tmp hr _ _ _, h⟩
theorem ret_tmp2 {p q : Tmp} {u : Value} (hr : fn.results = #[.tmp p, .tmp q]) (hv : look bs us p = v) (hu : look bs us q = u) (h : R' (.returned (.tuple #[v, u])) W) : bodyPost P fn R' .ret (fr bs us []) W :=
  ⟨rfl, .tuple #[v, u], by subst hv; subst hu; rw [look_nth, look_nth, ← nth_getD, ← nth_getD]; exact results_tmp2 hr _ _ _, h⟩
theorem ret_none (hr : fn.results = #[]) (h : R' (.returned (.tuple #[])) W) : bodyPost P fn R' .ret (fr bs us []) W :=
  ⟨rfl, _, results_none hr _ _ _, h⟩
theorem end_none (hr : fn.results = #[]) (h : R' (.returned (.tuple #[])) W) : bodyPost P fn R' .normal (fr bs us []) W :=
  ⟨rfl, _, results_none hr _ _ _, h⟩
theorem ret_cell {p : Tmp} {t : TypeId} {n : Nat} {g : Nat} {cs : List Value} {ty : TypeId} (hW : Cl w0 L W) (q : Nat) (ht : TyA P t n) (hr : fn.results = #[.cell p t]) (hp : look bs us p = .pointer (some ⟨g, 0, none⟩)) (hL : L[q]? = some ⟨g, cs, ty⟩) (hn : cs.length = n)
    (h : R' (.returned (.agg cs.toArray)) W) : bodyPost P fn R' .ret (fr bs us []) W :=
  ⟨rfl, _, res_cell hW q ht hr hp hL hn, h⟩
theorem ret_cell_tmp {p r : Tmp} {t : TypeId} {n : Nat} {g : Nat} {cs : List Value} {ty : TypeId} (hW : Cl w0 L W) (q : Nat) (ht : TyA P t n) (hr : fn.results = #[.cell p t, .tmp r]) (hp : look bs us p = .pointer (some ⟨g, 0, none⟩)) (hL : L[q]? = some ⟨g, cs, ty⟩) (hn : cs.length = n) (hv : look bs us r = v)
    (h : R' (.returned (.tuple #[.agg cs.toArray, v])) W) : bodyPost P fn R' .ret (fr bs us []) W := by
  refine ⟨rfl, _, ?_, h⟩
  have h1 := run_load_agg ht W (hW.at q hL) (i := 0) (by simp only; omega)
  have h2 : (toL bs us).toArray.getD p undef = .pointer (some ⟨g, 0, none⟩) := by rw [nth_getD, ← look_nth]; exact hp
  have h3 : (toL bs us).toArray.getD r undef = v := by rw [nth_getD, ← look_nth]; exact hv
  have e : (cs.drop 0).take n = cs := by simp [← hn]
  rw [e] at h1
  show (results fn (toL bs us).toArray).run P W = _
  rw [Array.getD_eq_getD_getElem?] at h2 h3
  simp at h2 h3
  simp [results, hr, asAddr, h1, h2, h3]
end
end Go.Proofs.Ytoegpalacppllaa
