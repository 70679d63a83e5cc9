/- Memory of the call's own, as a list of blocks that are known whole; steps of a walk over it. No function of the program is in sight here. -/
import Derived.WalkKit
import Derived.WalkSpells
import Derived.WalkLawsBesides
import Derived.Lib.Hide
import Derived.BigQuiet
import Derived.Deep.QuietTactic
import Derived.Laws.CopyRow
import Derived.StillTail
import Derived.Deep.LoopGhost
import Derived.Deep.Quiet
import Derived.RangeFuncNested
import Derived.RangeFuncBound
import Derived.RangeFuncCalls
import Derived.RangeFuncLeaves
import Derived.OwnWalkIn
import Derived.TacticsInMore
import Derived.LoopIn
namespace Go.Proofs.Ytoegpalacppllaa
open Go.RowKit

/-- A block of the call's own: its number, its cells, its elements' type. -/
structure Blk where
  id : Nat
  cs : List Value
  ty : TypeId

/-- the world at the call's beginning, and one whose objects that are no cells lie as they lay -/
structure Base where
  w : World
  r : World
abbrev base (w : World) : Base := ⟨w, w⟩
/-- What a walk knows of its world: below the first block of the call's own all is as it was; the blocks of the call's own that are listed hold what is listed. -/
structure Cl (w0 : Base) (L : List Blk) (W : World) : Prop where
  below : Below w0.w.heap.size w0.w W
  holds : ∀ x ∈ L, W.heap[x.id]? = some (.cells x.cs.toArray x.ty (0, 0))
  own : ∀ x ∈ L, w0.w.heap.size ≤ x.id
  apart : L.Pairwise (fun x y => x.id ≠ y.id)
  oth : ∀ (k : Nat) (o : Obj), w0.r.heap[k]? = some o → o.isCells = false → W.heap[k]? = some o

theorem Cl.nil (w : World) : Cl (base w) [] w := ⟨Below.refl _ _, by simp, by simp, List.Pairwise.nil, fun _ _ h _ => h⟩

theorem Cl.at {w0 : Base} {W : World} {L : List Blk} (h : Cl w0 L W) {x : Blk} (p : Nat) (hp : L[p]? = some x) : W.heap[x.id]? = some (.cells x.cs.toArray x.ty (0, 0)) := h.holds x (List.mem_of_getElem? hp)
theorem Cl.ownAt {w0 : Base} {W : World} {L : List Blk} (h : Cl w0 L W) {x : Blk} (p : Nat) (hp : L[p]? = some x) : w0.w.heap.size ≤ x.id := h.own x (List.mem_of_getElem? hp)
theorem Cl.lt {w0 : Base} {W : World} {L : List Blk} (h : Cl w0 L W) {x : Blk} (hx : x ∈ L) : x.id < W.heap.size := by
  have := h.holds x hx
  rcases Nat.lt_or_ge x.id W.heap.size with h' | h'
  · exact h'
  · rw [Array.getElem?_eq_none h'] at this; cases this

/-- a new block -/
theorem Cl.alloc {w0 : Base} {W : World} {L : List Blk} (h : Cl w0 L W) (cs : List Value) (t : TypeId) : Cl w0 (⟨W.heap.size, cs, t⟩ :: L) (W.alloc (.cells cs.toArray t)) := by
  refine ⟨h.below.alloc h.below.size _, ?_, ?_, ?_, ?_⟩
  · intro x hx
    rcases List.mem_cons.1 hx with rfl | hx
    · exact heap_alloc_new W _
    · rw [Below.heap_alloc _ _ _ (h.lt hx)]; exact h.holds x hx
  · intro x hx
    rcases List.mem_cons.1 hx with rfl | hx
    · exact h.below.size
    · exact h.own x hx
  · exact List.pairwise_cons.2 ⟨fun y hy => by have := h.lt hy; simp; omega, h.apart⟩
  · exact fun k o hk ho => (Below.heap_alloc _ _ _ (Array.getElem?_eq_some_iff.1 (h.oth k o hk ho)).1).trans (h.oth k o hk ho)

/-- whatever leaves all blocks that are there -/
theorem Cl.past {w0 : Base} {W W' : World} {L : List Blk} (h : Cl w0 L W) (hb : Below W.heap.size W W') : Cl w0 L W' :=
  ⟨h.below.trans (hb.mono h.below.size), fun x hx => (hb.block x.id (h.lt hx)).trans (h.holds x hx), h.own, h.apart,
    fun k o hk ho => (hb.block k (Array.getElem?_eq_some_iff.1 (h.oth k o hk ho)).1).trans (h.oth k o hk ho)⟩
theorem Cl.drew {w0 : Base} {W : World} {L : List Blk} (h : Cl w0 L W) : Cl w0 L W.drew := ⟨h.below.drew, h.holds, h.own, h.apart, h.oth⟩
theorem Cl.drawn {w0 : Base} {W : World} {L : List Blk} (h : Cl w0 L W) : Cl w0 L { W with drawn := W.drawn + 1 } := h.drew
/-- fewer blocks -/
theorem Cl.sub {w0 : Base} {W : World} {L L' : List Blk} (h : Cl w0 L W) (hs : List.Sublist L' L) : Cl w0 L' W :=
  ⟨h.below, fun x hx => h.holds x (hs.subset hx), fun x hx => h.own x (hs.subset hx), h.apart.sublist hs, h.oth⟩

theorem pairwise_set_id {L : List Blk} (h : L.Pairwise (fun x y => x.id ≠ y.id)) : ∀ (p : Nat) (x : Blk) (cs : List Value), L[p]? = some x → (L.set p ⟨x.id, cs, x.ty⟩).Pairwise (fun x y => x.id ≠ y.id) := by
  induction L with
  | nil => intro p x cs hp; simp at hp
  | cons y L ih =>
    intro p x cs hp
    have h' := List.pairwise_cons.1 h
    cases p with
    | zero =>
      simp at hp; subst hp
      exact List.pairwise_cons.2 ⟨fun z hz => h'.1 z hz, h'.2⟩
    | succ p =>
      simp at hp
      simp only [List.set_cons_succ]
      refine List.pairwise_cons.2 ⟨fun z hz => ?_, ih h'.2 p x cs hp⟩
      rcases List.mem_or_eq_of_mem_set hz with hz | rfl
      · exact h'.1 z hz
      · exact h'.1 x (List.mem_of_getElem? hp)

theorem mem_set_cases {α : Type} {L : List α} {p : Nat} {x y : α} (h : y ∈ L.set p x) : y = x ∨ ∃ q, q ≠ p ∧ L[q]? = some y := by
  obtain ⟨q, hq⟩ := List.getElem?_of_mem h
  rw [List.getElem?_set] at hq
  by_cases hqp : p = q
  · subst hqp
    simp at hq
    left; exact hq.2.symm
  · rw [if_neg hqp] at hq
    exact .inr ⟨q, fun e => hqp e.symm, hq⟩

theorem apart_at {L : List Blk} (h : L.Pairwise (fun x y => x.id ≠ y.id)) {p q : Nat} {x y : Blk} (hp : L[p]? = some x) (hq : L[q]? = some y) (hne : q ≠ p) : y.id ≠ x.id := by
  have hp' := List.getElem?_eq_some_iff.1 hp
  have hq' := List.getElem?_eq_some_iff.1 hq
  obtain ⟨hpl, rfl⟩ := hp'
  obtain ⟨hql, rfl⟩ := hq'
  rcases Nat.lt_or_gt_of_ne hne with h1 | h1
  · exact List.pairwise_iff_getElem.1 h q p hql hpl h1
  · exact fun e => List.pairwise_iff_getElem.1 h p q hpl hql h1 e.symm

/-- one block is written anew -/
theorem Cl.setRow {w0 : Base} {W : World} {L : List Blk} (h : Cl w0 L W) {x : Blk} (p : Nat) (hp : L[p]? = some x) (cs : List Value) : Cl w0 (L.set p ⟨x.id, cs, x.ty⟩) (W.setRow x.id cs.toArray) := by
  refine ⟨h.below.trans ⟨rfl, rfl, rfl, by simp [World.setRow], fun k hk => setRow_other W x.id k _ (by have := h.ownAt p hp; omega)⟩, ?_, ?_, pairwise_set_id h.apart p x cs hp, ?_⟩
  · intro y hy
    rcases mem_set_cases hy with rfl | ⟨q, hq, hqy⟩
    · exact setRow_heap W x.id _ _ x.ty (0, 0) (h.at p hp)
    · rw [setRow_other W x.id y.id _ (apart_at h.apart hp hqy hq)]
      exact h.at q hqy
  · intro y hy
    rcases mem_set_cases hy with rfl | ⟨q, hq, hqy⟩
    · exact h.own x (List.mem_of_getElem? hp)
    · exact h.ownAt q hqy
  · intro k o hk ho
    have h1 := h.oth k o hk ho
    rw [setRow_other W x.id k _ (fun e => ?_)]
    · exact h1
    · rw [e, h.at p hp] at h1
      injection h1 with h1
      subst h1; cases ho

/-! ### types -/
/-- a type whose variable is one cell -/
structure TyC (P : Program) (t : TypeId) : Prop where
  agg : ∀ w, (isAgg t).run P w = .ok false w
  size : ∀ w, (sizeOf t).run P w = .ok 1 w
/-- a struct or array type of n cells -/
structure TyA (P : Program) (t : TypeId) (n : Nat) : Prop where
  agg : ∀ w, (isAgg t).run P w = .ok true w
  size : ∀ w, (sizeOf t).run P w = .ok n w
/-- its zero value -/
def TyZ (P : Program) (t : TypeId) (z : Value) : Prop := ∀ w, (zeroValue t).run P w = .ok z w

section
variable {P : Program}

theorem cell_at {w : World} {g : Nat} {cs : List Value} {t : TypeId} {fr : Nat × Nat} (hg : w.heap[g]? = some (.cells cs.toArray t fr)) (i : Nat) : w.cell? ⟨g, i, none⟩ = cs[i]? := by
  simp [World.cell?, hg]

theorem run_load_cell {t : TypeId} (ht : TyC P t) (w : World) {g : Nat} {cs : List Value} {ty : TypeId} {fr : Nat × Nat} (hg : w.heap[g]? = some (.cells cs.toArray ty fr)) {i : Nat} {v : Value} (hv : cs[i]? = some v) :
    (loadVar t ⟨g, i, none⟩).run P w = .ok v w := by
  have := cell_at hg i
  simp [loadVar, ht.agg w, this, hv]

theorem run_load_agg {t : TypeId} {n : Nat} (ht : TyA P t n) (w : World) {g : Nat} {cs : List Value} {ty : TypeId} {fr : Nat × Nat} (hg : w.heap[g]? = some (.cells cs.toArray ty fr)) {i : Nat} (hi : i + n ≤ cs.length) :
    (loadVar t ⟨g, i, none⟩).run P w = .ok (.agg ((cs.drop i).take n).toArray) w := by
  have hlen : ((cs.drop i).take n).length = n := by simp; omega
  have hl : (loadCells ⟨g, i, none⟩ ((cs.drop i).take n).length).run P w = .ok ((cs.drop i).take n).toArray w :=
    run_loadCells_list (P := P) w ⟨g, i, none⟩ ((cs.drop i).take n) (fun j v hv => by
      have hadd : (⟨g, i, none⟩ : Addr).add j = ⟨g, i + j, none⟩ := Addr.add_lit g i j
      rw [hadd, cell_at hg]
      rw [List.getElem?_take] at hv
      split at hv
      · rw [List.getElem?_drop] at hv; exact hv
      · cases hv)
  rw [hlen] at hl
  simp [loadVar, ht.agg w, ht.size w, hl]

theorem run_store_agg {t : TypeId} {n : Nat} (ht : TyA P t n) (w : World) {g : Nat} {cs : List Value} {ty : TypeId} (hg : w.heap[g]? = some (.cells cs.toArray ty (0, 0))) {i : Nat} {vs : List Value} (hn : vs.length = n) (hi : i + n ≤ cs.length) (h1 : ∀ v ∈ vs, v.oneCell' = true) :
    (storeVar t ⟨g, i, none⟩ (.agg vs.toArray)).run P w = .ok () (w.setRow g (cs.take i ++ vs ++ cs.drop (i + n)).toArray) := by
  have := run_storeCells_at (P := P) g i ty vs 0 cs.toArray w hg (by simp; omega) h1
  simp only [Nat.add_zero] at this
  simp [storeVar, Value.cells, ht.size w, hn, this]

theorem run_store_cell {t : TypeId} (ht : TyC P t) (w : World) {g : Nat} {cs : List Value} {ty : TypeId} (hg : w.heap[g]? = some (.cells cs.toArray ty (0, 0))) {i : Nat} {v : Value} (hi : i < cs.length) (h1 : v.oneCell' = true) :
    (storeVar t ⟨g, i, none⟩ v).run P w = .ok () (w.setRow g (cs.set i v).toArray) := by
  have h2 := run_storeCells_at (P := P) g i ty [v] 0 cs.toArray w hg (by simp; omega) (by simpa using h1)
  simp only [Nat.add_zero] at h2
  have hc : v.cells = #[v] := by cases v <;> first | rfl | (simp [Value.oneCell'] at h1)
  have hset : (cs.take i ++ [v] ++ cs.drop (i + 1)) = cs.set i v := by
    rw [List.set_eq_take_append_cons_drop]; simp [hi]
  simp only [List.length_cons, List.length_nil, Nat.zero_add, hset] at h2
  simp [storeVar, hc, ht.size w, h2]

/-! ### lists of operations and code, in a function (r = none) and in a round of a loop over a function (r = some l) -/
variable {ops : Array Oper} {Q : Exit → Act → World → Prop} {a : Act} {w0 : Base} {W W' : World} {rest : List Oper} {o : Oper} {L : List Blk} {r : Option (Option Nat)} {m : Nat} {v : Value}

/-- the fence of a round in which everything is let in -/
def RF : Option Nat → Fence
  | none => Fence.wide
  | some l => Fence.wide.inRound l
theorem RF_fn (k : Option Nat) (f : FuncId) : (RF k).fn f := by cases k <;> trivial
theorem RF_depth (k : Option Nat) {p : Prop} (h : (RF k).depth.isSome = true) : p := by cases k <;> cases h
theorem RF_calls (k : Option Nat) {n : Nat} {f : FuncId} {args : Array Value} {w : World} {R : Ending → World → Prop} (h : Calls P f args w R) : CallsIn (RF k) n P f args w R := by
  cases k with
  | none => exact callsIn_wide.2 h
  | some l => exact CallsIn.inRound l (callsIn_wide.2 h)

def LW0 (r : Option (Option Nat)) (m : Nat) (P : Program) (ops : Array Oper) (Q : Exit → Act → World → Prop) (l : List Oper) (a : Act) (w : World) : Prop :=
  match r with
  | none => wpList P ops Q l a w
  | some k => wpListIn (RF k) m P ops Q l a w
/-- .. behind a name that is not opened by itself -/
structure LW (r : Option (Option Nat)) (m : Nat) (P : Program) (ops : Array Oper) (Q : Exit → Act → World → Prop) (l : List Oper) (a : Act) (w : World) : Prop where
  h : LW0 r m P ops Q l a w
def CW (r : Option (Option Nat)) (m : Nat) (P : Program) (c : Code) (Q : Exit → Act → World → Prop) (a : Act) (w : World) : Prop :=
  match r with
  | none => c.wp P Q a w
  | some k => c.wpIn (RF k) m P Q a w

theorem not_defer {ρ : Operand → Value} {x : Next} (h : (execOp ρ o).run P W = .ok x W') (hx : ∀ d, x ≠ .defer d) : ∀ c, o.op ≠ .defer c := by
  intro c hc
  unfold execOp at h
  simp only [hc, Sem.run_bind] at h
  cases hr : (resolve ρ c o.type).run P W with
  | ok d w1 => rw [hr] at h; simp only [Result.andThen_ok, Sem.run_pure] at h; injection h with h1 _; exact hx d h1.symm
  | halt y w1 => rw [hr] at h; simp at h

theorem about_ok (k : Option Nat) : ∀ f, o.about P W a.eval = some f → (RF k).fn f := fun _ _ => RF_fn k _

theorem LW.val (hw : Region.wanted o (yielded ops a.tmps) = true) (hr : (execOp a.eval o).run P W = .ok (.value v) W') (h : LW r m P ops Q rest (a.put o.dst v) W') : LW r m P ops Q (o :: rest) a W := by
  refine ⟨?_⟩
  cases r with
  | none =>
    refine wpList_step fun K hK => ?_
    rw [if_pos hw]
    unfold Oper.wp
    rw [hr, Oper.upon_value]
    exact hK _ _ h.h
  | some k =>
    refine wpListIn_step fun K hK => ?_
    rw [if_pos hw]
    refine ⟨about_ok k, ?_⟩
    have e : o.semAt (RF k).round a.eval = execOp a.eval o := Oper.semAt_eq _ a.eval o (not_defer hr (fun d h => by cases h))
    rw [e, hr, Oper.uponIn_value]
    exact hK _ _ h.h
theorem LW.skip (hw : Region.wanted o (yielded ops a.tmps) = true) (hr : (execOp a.eval o).run P W = .ok .skip W') (h : LW r m P ops Q rest (a.put o.dst undef) W') : LW r m P ops Q (o :: rest) a W := by
  refine ⟨?_⟩
  cases r with
  | none =>
    refine wpList_step fun K hK => ?_
    rw [if_pos hw]
    unfold Oper.wp
    rw [hr, Oper.upon_skip]
    exact hK _ _ h.h
  | some k =>
    refine wpListIn_step fun K hK => ?_
    rw [if_pos hw]
    refine ⟨about_ok k, ?_⟩
    have e : o.semAt (RF k).round a.eval = execOp a.eval o := Oper.semAt_eq _ a.eval o (not_defer hr (fun d h => by cases h))
    rw [e, hr, Oper.uponIn_skip]
    exact hK _ _ h.h
theorem LW.not (hw : Region.wanted o (yielded ops a.tmps) = false) (h : LW r m P ops Q rest (a.put o.dst undef) W) : LW r m P ops Q (o :: rest) a W := by
  refine ⟨?_⟩
  cases r with
  | none =>
    refine wpList_step fun K hK => ?_
    rw [if_neg (by simp [hw])]
    exact hK _ _ h.h
  | some k =>
    refine wpListIn_step fun K hK => ?_
    rw [if_neg (by simp [hw])]
    exact ⟨about_ok k, hK _ _ h.h⟩
/-- what a call must leave -/
def After (K : Value → World → Prop) (e : Ending) (w : World) : Prop := ∃ v, e = .returned v ∧ K v w
theorem LW.call {f : FuncId} {args : Array Value} (hw : Region.wanted o (yielded ops a.tmps) = true) (hr : (execOp a.eval o).run P W = .ok (.enter f args) W') (h : Calls P f args W' (After fun v w => LW r m P ops Q rest (a.put o.dst v) w)) : LW r m P ops Q (o :: rest) a W := by
  refine ⟨?_⟩
  cases r with
  | none =>
    refine wpList_step fun K hK => ?_
    rw [if_pos hw]
    unfold Oper.wp
    rw [hr, Oper.upon_enter]
    refine h.mono ?_
    rintro e w ⟨v, rfl, h⟩
    exact hK _ _ h.h
  | some k =>
    refine wpListIn_step fun K hK => ?_
    rw [if_pos hw]
    refine ⟨about_ok k, ?_⟩
    have e : o.semAt (RF k).round a.eval = execOp a.eval o := Oper.semAt_eq _ a.eval o (not_defer hr (fun d h => by cases h))
    rw [e, hr, Oper.uponIn_enter]
    refine ⟨RF_depth k, (RF_calls k h).mono ?_⟩
    rintro e w ⟨v, rfl, h⟩
    exact hK _ _ h.h
theorem LW.nil (h : Q .normal a W) : LW r m P ops Q [] a W := by
  refine ⟨?_⟩
  cases r with
  | none => exact h
  | some k => exact h

theorem CW.region {id : Nat} {os : List Oper} (h : LW r m P os.toArray Q os a W) : CW r m P (Code.region id os.toArray false) Q a W := by
  cases r with
  | none => exact wp_region_lit h.h
  | some k => exact wpIn_region_lit h.h
theorem CW.seq {x y : Code} (h : CW r m P x (Exit.then (CW r m P y Q) Q) a W) : CW r m P (Code.seq x y) Q a W := by
  cases r with
  | none => exact wp_seq h
  | some k => exact wpIn_seq h
theorem CW.block {id : Nat} {c : Code} (h : CW r m P c (Exit.inBlock id Q) a W) : CW r m P (Code.block id c) Q a W := by
  cases r with
  | none => exact wp_block h
  | some k => exact wpIn_block h
theorem CW.skip (h : Q .normal a W) : CW r m P Code.skip Q a W := by
  cases r with
  | none => exact wp_skip h
  | some k => exact wpIn_skip h
theorem CW.exit {id : Nat} (h : Q (.exit id) a W) : CW r m P (Code.exit id) Q a W := by
  cases r with
  | none => exact wp_exit h
  | some k => exact wpIn_exit h
theorem CW.ret (h : Q .ret a W) : CW r m P Code.ret Q a W := by
  cases r with
  | none => exact wp_ret h
  | some k => exact wpIn_ret h
theorem CW.condT {c : Operand} {x y : Code} (hc : a.eval c = .bool true) (h : CW r m P x Q a W) : CW r m P (Code.cond c x y) Q a W := by
  cases r with
  | none => exact wp_cond_true hc h
  | some k => exact wpIn_cond_true hc h
theorem CW.condF {c : Operand} {x y : Code} (hc : a.eval c = .bool false) (h : CW r m P y Q a W) : CW r m P (Code.cond c x y) Q a W := by
  cases r with
  | none => exact wp_cond_false hc h
  | some k => exact wpIn_cond_false hc h
theorem CW.mono {c : Code} {Q' : Exit → Act → World → Prop} (h : CW r m P c Q a W) (hq : ∀ e a w, Q e a w → Q' e a w) : CW r m P c Q' a W := by
  cases r with
  | none => exact wp_mono h hq
  | some k => exact wpIn_mono h hq
theorem CW.loop {c : Code} (I : Nat → Act → World → Prop) (n₀ : Nat) (h₀ : I n₀ a W)
    (round : ∀ n a w, I n a w → CW r m P c (Exit.then (fun a' w' => ∃ n', n' < n ∧ I n' a' w') Q) a w) : CW r m P (Code.loop c) Q a W := by
  cases r with
  | none => exact wp_loop_ghost I n₀ h₀ round
  | some k =>
    refine wpIn_loop (fun a w => ∃ n, I n a w) (fun a w => leastOf (fun n => I n a w)) ⟨n₀, h₀⟩ ?_
    intro a w hI
    refine wpIn_mono (round _ a w (leastOf_spec hI).1) ?_
    intro e a' w' hq
    cases e with
    | normal =>
      obtain ⟨n', hlt, hI'⟩ := hq
      exact ⟨⟨n', hI'⟩, Nat.lt_of_le_of_lt ((leastOf_spec ⟨n', hI'⟩).2 n' hI') hlt⟩
    | exit id => exact hq
    | goto l => exact hq
    | ret => exact hq
    | panic ch => exact hq
    | outgrown => exact hq

/-- a function that makes memory of its own alone, and hands back this value -/
def Gives (P : Program) (f : FuncId) (args : Array Value) (v : Value) : Prop := ∀ w, Calls P f args w fun e w' => e = .returned v ∧ Below w.heap.size w w'

/-- the cells of a value, as a list -/
def cellsOf : Value → List Value
  | .agg cs => cs.toList
  | v => [v]
theorem cellsOf_toArray (v : Value) : (cellsOf v).toArray = v.cells := by cases v <;> simp [cellsOf, Value.cells]
end
end Go.Proofs.Ytoegpalacppllaa
