/- Part 1 of 5: what the law of this claim leans on -/
import Derived.WalkKit
import Derived.WalkSpells
import Derived.WalkLawsBesides
import Derived.Lib.Hide
import Derived.BigQuiet
import Derived.Deep.QuietTactic
import Derived.Laws.CopyRow
import Derived.StillTail
import Derived.Deep.LoopGhost
import Derived.Deep.Quiet
import Derived.RangeFuncNested
import Derived.RangeFuncBound
import Derived.RangeFuncCalls
import Derived.RangeFuncLeaves
import Derived.OwnWalkIn
import Derived.TacticsInMore
import Derived.LoopIn
import Derived.Shelf.Abstract
import Derived.ArgAppend
import Derived.ChangeKeysEq
import Derived.Laws.MakeOwn
import Derived.Laws.IdiomStrings
import Derived.Laws.Externs
import Derived.Lib.Bytealg
import Derived.Laws.StructEq
/- Memory of the call's own, as a list of blocks that are known whole; steps of a walk over it. No function of the program is in sight here. -/
namespace Go.Proofs.YtoegpalacppllaaGreat
open Go.RowKit

/-- A block of the call's own: its number, its cells, its elements' type. -/
structure Blk where
  id : Nat
  cs : List Value
  ty : TypeId

/-- the world at the call's beginning, and one whose objects that are no cells lie as they lay -/
structure Base where
  w : World
  r : World
abbrev base (w : World) : Base := ⟨w, w⟩
/-- What a walk knows of its world: below the first block of the call's own all is as it was; the blocks of the call's own that are listed hold what is listed. -/
structure Cl (w0 : Base) (L : List Blk) (W : World) : Prop where
  below : Below w0.w.heap.size w0.w W
  holds : ∀ x ∈ L, W.heap[x.id]? = some (.cells x.cs.toArray x.ty (0, 0))
  own : ∀ x ∈ L, w0.w.heap.size ≤ x.id
  apart : L.Pairwise (fun x y => x.id ≠ y.id)
  oth : ∀ (k : Nat) (o : Obj), w0.r.heap[k]? = some o → o.isCells = false → W.heap[k]? = some o

theorem Cl.nil (w : World) : Cl (base w) [] w := ⟨Below.refl _ _, by simp, by simp, List.Pairwise.nil, fun _ _ h _ => h⟩

theorem Cl.at {w0 : Base} {W : World} {L : List Blk} (h : Cl w0 L W) {x : Blk} (p : Nat) (hp : L[p]? = some x) : W.heap[x.id]? = some (.cells x.cs.toArray x.ty (0, 0)) := h.holds x (List.mem_of_getElem? hp)
theorem Cl.ownAt {w0 : Base} {W : World} {L : List Blk} (h : Cl w0 L W) {x : Blk} (p : Nat) (hp : L[p]? = some x) : w0.w.heap.size ≤ x.id := h.own x (List.mem_of_getElem? hp)
theorem Cl.lt {w0 : Base} {W : World} {L : List Blk} (h : Cl w0 L W) {x : Blk} (hx : x ∈ L) : x.id < W.heap.size := by
  have := h.holds x hx
  rcases Nat.lt_or_ge x.id W.heap.size with h' | h'
  · exact h'
  · rw [Array.getElem?_eq_none h'] at this; cases this

/-- a new block -/
theorem Cl.alloc {w0 : Base} {W : World} {L : List Blk} (h : Cl w0 L W) (cs : List Value) (t : TypeId) : Cl w0 (⟨W.heap.size, cs, t⟩ :: L) (W.alloc (.cells cs.toArray t)) := by
  refine ⟨h.below.alloc h.below.size _, ?_, ?_, ?_, ?_⟩
  · intro x hx
    rcases List.mem_cons.1 hx with rfl | hx
    · exact heap_alloc_new W _
    · rw [Below.heap_alloc _ _ _ (h.lt hx)]; exact h.holds x hx
  · intro x hx
    rcases List.mem_cons.1 hx with rfl | hx
    · exact h.below.size
    · exact h.own x hx
  · exact List.pairwise_cons.2 ⟨fun y hy => by have := h.lt hy; simp; omega, h.apart⟩
  · exact fun k o hk ho => (Below.heap_alloc _ _ _ (Array.getElem?_eq_some_iff.1 (h.oth k o hk ho)).1).trans (h.oth k o hk ho)

/-- whatever leaves all blocks that are there -/
theorem Cl.past {w0 : Base} {W W' : World} {L : List Blk} (h : Cl w0 L W) (hb : Below W.heap.size W W') : Cl w0 L W' :=
  ⟨h.below.trans (hb.mono h.below.size), fun x hx => (hb.block x.id (h.lt hx)).trans (h.holds x hx), h.own, h.apart,
    fun k o hk ho => (hb.block k (Array.getElem?_eq_some_iff.1 (h.oth k o hk ho)).1).trans (h.oth k o hk ho)⟩
theorem Cl.drew {w0 : Base} {W : World} {L : List Blk} (h : Cl w0 L W) : Cl w0 L W.drew := ⟨h.below.drew, h.holds, h.own, h.apart, h.oth⟩
/-- fewer blocks -/
theorem Cl.sub {w0 : Base} {W : World} {L L' : List Blk} (h : Cl w0 L W) (hs : List.Sublist L' L) : Cl w0 L' W :=
  ⟨h.below, fun x hx => h.holds x (hs.subset hx), fun x hx => h.own x (hs.subset hx), h.apart.sublist hs, h.oth⟩

theorem pairwise_set_id {L : List Blk} (h : L.Pairwise (fun x y => x.id ≠ y.id)) : ∀ (p : Nat) (x : Blk) (cs : List Value), L[p]? = some x → (L.set p ⟨x.id, cs, x.ty⟩).Pairwise (fun x y => x.id ≠ y.id) := by
  induction L with
  | nil => intro p x cs hp; simp at hp
  | cons y L ih =>
    intro p x cs hp
    have h' := List.pairwise_cons.1 h
    cases p with
    | zero =>
      simp at hp; subst hp
      exact List.pairwise_cons.2 ⟨fun z hz => h'.1 z hz, h'.2⟩
    | succ p =>
      simp at hp
      simp only [List.set_cons_succ]
      refine List.pairwise_cons.2 ⟨fun z hz => ?_, ih h'.2 p x cs hp⟩
      rcases List.mem_or_eq_of_mem_set hz with hz | rfl
      · exact h'.1 z hz
      · exact h'.1 x (List.mem_of_getElem? hp)

theorem mem_set_cases {α : Type} {L : List α} {p : Nat} {x y : α} (h : y ∈ L.set p x) : y = x ∨ ∃ q, q ≠ p ∧ L[q]? = some y := by
  obtain ⟨q, hq⟩ := List.getElem?_of_mem h
  rw [List.getElem?_set] at hq
  by_cases hqp : p = q
  · subst hqp
    simp at hq
    left; exact hq.2.symm
  · rw [if_neg hqp] at hq
    exact .inr ⟨q, fun e => hqp e.symm, hq⟩

theorem apart_at {L : List Blk} (h : L.Pairwise (fun x y => x.id ≠ y.id)) {p q : Nat} {x y : Blk} (hp : L[p]? = some x) (hq : L[q]? = some y) (hne : q ≠ p) : y.id ≠ x.id := by
  have hp' := List.getElem?_eq_some_iff.1 hp
  have hq' := List.getElem?_eq_some_iff.1 hq
  obtain ⟨hpl, rfl⟩ := hp'
  obtain ⟨hql, rfl⟩ := hq'
  rcases Nat.lt_or_gt_of_ne hne with h1 | h1
  · exact List.pairwise_iff_getElem.1 h q p hql hpl h1
  · exact fun e => List.pairwise_iff_getElem.1 h p q hpl hql h1 e.symm

/-- one block is written anew -/
theorem Cl.setRow {w0 : Base} {W : World} {L : List Blk} (h : Cl w0 L W) {x : Blk} (p : Nat) (hp : L[p]? = some x) (cs : List Value) : Cl w0 (L.set p ⟨x.id, cs, x.ty⟩) (W.setRow x.id cs.toArray) := by
  refine ⟨h.below.trans ⟨rfl, rfl, rfl, by simp [World.setRow], fun k hk => setRow_other W x.id k _ (by have := h.ownAt p hp; omega)⟩, ?_, ?_, pairwise_set_id h.apart p x cs hp, ?_⟩
  · intro y hy
    rcases mem_set_cases hy with rfl | ⟨q, hq, hqy⟩
    · exact setRow_heap W x.id _ _ x.ty (0, 0) (h.at p hp)
    · rw [setRow_other W x.id y.id _ (apart_at h.apart hp hqy hq)]
      exact h.at q hqy
  · intro y hy
    rcases mem_set_cases hy with rfl | ⟨q, hq, hqy⟩
    · exact h.own x (List.mem_of_getElem? hp)
    · exact h.ownAt q hqy
  · intro k o hk ho
    have h1 := h.oth k o hk ho
    rw [setRow_other W x.id k _ (fun e => ?_)]
    · exact h1
    · rw [e, h.at p hp] at h1
      injection h1 with h1
      subst h1; cases ho

/-! ### types -/
/-- a type whose variable is one cell -/
structure TyC (P : Program) (t : TypeId) : Prop where
  agg : ∀ w, (isAgg t).run P w = .ok false w
  size : ∀ w, (sizeOf t).run P w = .ok 1 w
/-- a struct or array type of n cells -/
structure TyA (P : Program) (t : TypeId) (n : Nat) : Prop where
  agg : ∀ w, (isAgg t).run P w = .ok true w
  size : ∀ w, (sizeOf t).run P w = .ok n w
/-- its zero value -/
def TyZ (P : Program) (t : TypeId) (z : Value) : Prop := ∀ w, (zeroValue t).run P w = .ok z w

section
variable {P : Program}

theorem cell_at {w : World} {g : Nat} {cs : List Value} {t : TypeId} {fr : Nat × Nat} (hg : w.heap[g]? = some (.cells cs.toArray t fr)) (i : Nat) : w.cell? ⟨g, i, none⟩ = cs[i]? := by
  simp [World.cell?, hg]

theorem run_load_cell {t : TypeId} (ht : TyC P t) (w : World) {g : Nat} {cs : List Value} {ty : TypeId} {fr : Nat × Nat} (hg : w.heap[g]? = some (.cells cs.toArray ty fr)) {i : Nat} {v : Value} (hv : cs[i]? = some v) :
    (loadVar t ⟨g, i, none⟩).run P w = .ok v w := by
  have := cell_at hg i
  simp [loadVar, ht.agg w, this, hv]

theorem run_load_agg {t : TypeId} {n : Nat} (ht : TyA P t n) (w : World) {g : Nat} {cs : List Value} {ty : TypeId} {fr : Nat × Nat} (hg : w.heap[g]? = some (.cells cs.toArray ty fr)) {i : Nat} (hi : i + n ≤ cs.length) :
    (loadVar t ⟨g, i, none⟩).run P w = .ok (.agg ((cs.drop i).take n).toArray) w := by
  have hlen : ((cs.drop i).take n).length = n := by simp; omega
  have hl : (loadCells ⟨g, i, none⟩ ((cs.drop i).take n).length).run P w = .ok ((cs.drop i).take n).toArray w :=
    run_loadCells_list (P := P) w ⟨g, i, none⟩ ((cs.drop i).take n) (fun j v hv => by
      have hadd : (⟨g, i, none⟩ : Addr).add j = ⟨g, i + j, none⟩ := Addr.add_lit g i j
      rw [hadd, cell_at hg]
      rw [List.getElem?_take] at hv
      split at hv
      · rw [List.getElem?_drop] at hv; exact hv
      · cases hv)
  rw [hlen] at hl
  simp [loadVar, ht.agg w, ht.size w, hl]

theorem run_store_agg {t : TypeId} {n : Nat} (ht : TyA P t n) (w : World) {g : Nat} {cs : List Value} {ty : TypeId} (hg : w.heap[g]? = some (.cells cs.toArray ty (0, 0))) {i : Nat} {vs : List Value} (hn : vs.length = n) (hi : i + n ≤ cs.length) (h1 : ∀ v ∈ vs, v.oneCell' = true) :
    (storeVar t ⟨g, i, none⟩ (.agg vs.toArray)).run P w = .ok () (w.setRow g (cs.take i ++ vs ++ cs.drop (i + n)).toArray) := by
  have := run_storeCells_at (P := P) g i ty vs 0 cs.toArray w hg (by simp; omega) h1
  simp only [Nat.add_zero] at this
  simp [storeVar, Value.cells, ht.size w, hn, this]

theorem run_store_cell {t : TypeId} (ht : TyC P t) (w : World) {g : Nat} {cs : List Value} {ty : TypeId} (hg : w.heap[g]? = some (.cells cs.toArray ty (0, 0))) {i : Nat} {v : Value} (hi : i < cs.length) (h1 : v.oneCell' = true) :
    (storeVar t ⟨g, i, none⟩ v).run P w = .ok () (w.setRow g (cs.set i v).toArray) := by
  have h2 := run_storeCells_at (P := P) g i ty [v] 0 cs.toArray w hg (by simp; omega) (by simpa using h1)
  simp only [Nat.add_zero] at h2
  have hc : v.cells = #[v] := by cases v <;> first | rfl | (simp [Value.oneCell'] at h1)
  have hset : (cs.take i ++ [v] ++ cs.drop (i + 1)) = cs.set i v := by
    rw [List.set_eq_take_append_cons_drop]; simp [hi]
  simp only [List.length_cons, List.length_nil, Nat.zero_add, hset] at h2
  simp [storeVar, hc, ht.size w, h2]

/-! ### lists of operations and code, in a function (r = none) and in a round of a loop over a function (r = some l) -/
variable {ops : Array Oper} {Q : Exit → Act → World → Prop} {a : Act} {w0 : Base} {W W' : World} {rest : List Oper} {o : Oper} {L : List Blk} {r : Option (Option Nat)} {m : Nat} {v : Value}

/-- the fence of a round in which everything is let in -/
def RF : Option Nat → Fence
  | none => Fence.wide
  | some l => Fence.wide.inRound l
theorem RF_fn (k : Option Nat) (f : FuncId) : (RF k).fn f := by cases k <;> trivial
theorem RF_depth (k : Option Nat) {p : Prop} (h : (RF k).depth.isSome = true) : p := by cases k <;> cases h
theorem RF_calls (k : Option Nat) {n : Nat} {f : FuncId} {args : Array Value} {w : World} {R : Ending → World → Prop} (h : Calls P f args w R) : CallsIn (RF k) n P f args w R := by
  cases k with
  | none => exact callsIn_wide.2 h
  | some l => exact CallsIn.inRound l (callsIn_wide.2 h)

def LW0 (r : Option (Option Nat)) (m : Nat) (P : Program) (ops : Array Oper) (Q : Exit → Act → World → Prop) (l : List Oper) (a : Act) (w : World) : Prop :=
  match r with
  | none => wpList P ops Q l a w
  | some k => wpListIn (RF k) m P ops Q l a w
/-- .. behind a name that is not opened by itself -/
structure LW (r : Option (Option Nat)) (m : Nat) (P : Program) (ops : Array Oper) (Q : Exit → Act → World → Prop) (l : List Oper) (a : Act) (w : World) : Prop where
  h : LW0 r m P ops Q l a w
def CW (r : Option (Option Nat)) (m : Nat) (P : Program) (c : Code) (Q : Exit → Act → World → Prop) (a : Act) (w : World) : Prop :=
  match r with
  | none => c.wp P Q a w
  | some k => c.wpIn (RF k) m P Q a w

theorem not_defer {ρ : Operand → Value} {x : Next} (h : (execOp ρ o).run P W = .ok x W') (hx : ∀ d, x ≠ .defer d) : ∀ c, o.op ≠ .defer c := by
  intro c hc
  unfold execOp at h
  simp only [hc, Sem.run_bind] at h
  cases hr : (resolve ρ c o.type).run P W with
  | ok d w1 => rw [hr] at h; simp only [Result.andThen_ok, Sem.run_pure] at h; injection h with h1 _; exact hx d h1.symm
  | halt y w1 => rw [hr] at h; simp at h

theorem about_ok (k : Option Nat) : ∀ f, o.about P W a.eval = some f → (RF k).fn f := fun _ _ => RF_fn k _

theorem LW.val (hw : Region.wanted o (yielded ops a.tmps) = true) (hr : (execOp a.eval o).run P W = .ok (.value v) W') (h : LW r m P ops Q rest (a.put o.dst v) W') : LW r m P ops Q (o :: rest) a W := by
  refine ⟨?_⟩
  cases r with
  | none =>
    refine wpList_step fun K hK => ?_
    rw [if_pos hw]
    unfold Oper.wp
    rw [hr, Oper.upon_value]
    exact hK _ _ h.h
  | some k =>
    refine wpListIn_step fun K hK => ?_
    rw [if_pos hw]
    refine ⟨about_ok k, ?_⟩
    have e : o.semAt (RF k).round a.eval = execOp a.eval o := Oper.semAt_eq _ a.eval o (not_defer hr (fun d h => by cases h))
    rw [e, hr, Oper.uponIn_value]
    exact hK _ _ h.h
theorem LW.skip (hw : Region.wanted o (yielded ops a.tmps) = true) (hr : (execOp a.eval o).run P W = .ok .skip W') (h : LW r m P ops Q rest (a.put o.dst undef) W') : LW r m P ops Q (o :: rest) a W := by
  refine ⟨?_⟩
  cases r with
  | none =>
    refine wpList_step fun K hK => ?_
    rw [if_pos hw]
    unfold Oper.wp
    rw [hr, Oper.upon_skip]
    exact hK _ _ h.h
  | some k =>
    refine wpListIn_step fun K hK => ?_
    rw [if_pos hw]
    refine ⟨about_ok k, ?_⟩
    have e : o.semAt (RF k).round a.eval = execOp a.eval o := Oper.semAt_eq _ a.eval o (not_defer hr (fun d h => by cases h))
    rw [e, hr, Oper.uponIn_skip]
    exact hK _ _ h.h
theorem LW.not (hw : Region.wanted o (yielded ops a.tmps) = false) (h : LW r m P ops Q rest (a.put o.dst undef) W) : LW r m P ops Q (o :: rest) a W := by
  refine ⟨?_⟩
  cases r with
  | none =>
    refine wpList_step fun K hK => ?_
    rw [if_neg (by simp [hw])]
    exact hK _ _ h.h
  | some k =>
    refine wpListIn_step fun K hK => ?_
    rw [if_neg (by simp [hw])]
    exact ⟨about_ok k, hK _ _ h.h⟩
/-- what a call must leave -/
def After (K : Value → World → Prop) (e : Ending) (w : World) : Prop := ∃ v, e = .returned v ∧ K v w
theorem LW.call {f : FuncId} {args : Array Value} (hw : Region.wanted o (yielded ops a.tmps) = true) (hr : (execOp a.eval o).run P W = .ok (.enter f args) W') (h : Calls P f args W' (After fun v w => LW r m P ops Q rest (a.put o.dst v) w)) : LW r m P ops Q (o :: rest) a W := by
  refine ⟨?_⟩
  cases r with
  | none =>
    refine wpList_step fun K hK => ?_
    rw [if_pos hw]
    unfold Oper.wp
    rw [hr, Oper.upon_enter]
    refine h.mono ?_
    rintro e w ⟨v, rfl, h⟩
    exact hK _ _ h.h
  | some k =>
    refine wpListIn_step fun K hK => ?_
    rw [if_pos hw]
    refine ⟨about_ok k, ?_⟩
    have e : o.semAt (RF k).round a.eval = execOp a.eval o := Oper.semAt_eq _ a.eval o (not_defer hr (fun d h => by cases h))
    rw [e, hr, Oper.uponIn_enter]
    refine ⟨RF_depth k, (RF_calls k h).mono ?_⟩
    rintro e w ⟨v, rfl, h⟩
    exact hK _ _ h.h
theorem LW.nil (h : Q .normal a W) : LW r m P ops Q [] a W := by
  refine ⟨?_⟩
  cases r with
  | none => exact h
  | some k => exact h

theorem CW.region {id : Nat} {os : List Oper} (h : LW r m P os.toArray Q os a W) : CW r m P (Code.region id os.toArray false) Q a W := by
  cases r with
  | none => exact wp_region_lit h.h
  | some k => exact wpIn_region_lit h.h
theorem CW.seq {x y : Code} (h : CW r m P x (Exit.then (CW r m P y Q) Q) a W) : CW r m P (Code.seq x y) Q a W := by
  cases r with
  | none => exact wp_seq h
  | some k => exact wpIn_seq h
theorem CW.block {id : Nat} {c : Code} (h : CW r m P c (Exit.inBlock id Q) a W) : CW r m P (Code.block id c) Q a W := by
  cases r with
  | none => exact wp_block h
  | some k => exact wpIn_block h
theorem CW.skip (h : Q .normal a W) : CW r m P Code.skip Q a W := by
  cases r with
  | none => exact wp_skip h
  | some k => exact wpIn_skip h
theorem CW.exit {id : Nat} (h : Q (.exit id) a W) : CW r m P (Code.exit id) Q a W := by
  cases r with
  | none => exact wp_exit h
  | some k => exact wpIn_exit h
theorem CW.ret (h : Q .ret a W) : CW r m P Code.ret Q a W := by
  cases r with
  | none => exact wp_ret h
  | some k => exact wpIn_ret h
theorem CW.condT {c : Operand} {x y : Code} (hc : a.eval c = .bool true) (h : CW r m P x Q a W) : CW r m P (Code.cond c x y) Q a W := by
  cases r with
  | none => exact wp_cond_true hc h
  | some k => exact wpIn_cond_true hc h
theorem CW.condF {c : Operand} {x y : Code} (hc : a.eval c = .bool false) (h : CW r m P y Q a W) : CW r m P (Code.cond c x y) Q a W := by
  cases r with
  | none => exact wp_cond_false hc h
  | some k => exact wpIn_cond_false hc h
theorem CW.mono {c : Code} {Q' : Exit → Act → World → Prop} (h : CW r m P c Q a W) (hq : ∀ e a w, Q e a w → Q' e a w) : CW r m P c Q' a W := by
  cases r with
  | none => exact wp_mono h hq
  | some k => exact wpIn_mono h hq
theorem CW.loop {c : Code} (I : Nat → Act → World → Prop) (n₀ : Nat) (h₀ : I n₀ a W)
    (round : ∀ n a w, I n a w → CW r m P c (Exit.then (fun a' w' => ∃ n', n' < n ∧ I n' a' w') Q) a w) : CW r m P (Code.loop c) Q a W := by
  cases r with
  | none => exact wp_loop_ghost I n₀ h₀ round
  | some k =>
    refine wpIn_loop (fun a w => ∃ n, I n a w) (fun a w => leastOf (fun n => I n a w)) ⟨n₀, h₀⟩ ?_
    intro a w hI
    refine wpIn_mono (round _ a w (leastOf_spec hI).1) ?_
    intro e a' w' hq
    cases e with
    | normal =>
      obtain ⟨n', hlt, hI'⟩ := hq
      exact ⟨⟨n', hI'⟩, Nat.lt_of_le_of_lt ((leastOf_spec ⟨n', hI'⟩).2 n' hI') hlt⟩
    | exit id => exact hq
    | goto l => exact hq
    | ret => exact hq
    | panic ch => exact hq
    | outgrown => exact hq

/-- a function that makes memory of its own alone, and hands back this value -/
def Gives (P : Program) (f : FuncId) (args : Array Value) (v : Value) : Prop := ∀ w, Calls P f args w fun e w' => e = .returned v ∧ Below w.heap.size w w'

/-- the cells of a value, as a list -/
def cellsOf : Value → List Value
  | .agg cs => cs.toList
  | v => [v]
end
end Go.Proofs.YtoegpalacppllaaGreat

/- Operations one by one, over frames that are written as lists. No function of the program is in sight here. -/
namespace Go.Proofs.YtoegpalacppllaaGreat
open Go.RowKit

def nth : List Value → Nat → Value
  | [], _ => undef
  | x :: _, 0 => x
  | _ :: l, n + 1 => nth l n
def st : List Value → Nat → Value → List Value
  | [], _, _ => []
  | _ :: l, 0, v => v :: l
  | x :: l, n + 1, v => x :: st l n v
theorem nth_getD (l : List Value) (t : Nat) : l.toArray.getD t undef = nth l t := by
  rw [Array.getD_eq_getD_getElem?, List.getElem?_toArray]
  induction l generalizing t with
  | nil => simp [nth]
  | cons x l ih => cases t with
    | zero => simp [nth]
    | succ t => simpa [nth] using ih t
theorem st_set (l : List Value) (d : Nat) (v : Value) : st l d v = l.set d v := by
  induction l generalizing d with
  | nil => simp [st]
  | cons x l ih => cases d with
    | zero => simp [st]
    | succ d => simp [st, ih]

/-- a frame: what its slots held, and what has been written since, the latest first -/
def toL (bs : List Value) : List (Nat × Value) → List Value
  | [] => bs
  | (d, v) :: us => st (toL bs us) d v
def fr (bs : List Value) (us : List (Nat × Value)) (ds : List Deferred) : Act := ⟨(toL bs us).toArray, ds⟩
def look (bs : List Value) : List (Nat × Value) → Nat → Value
  | [], t => nth bs t
  | (d, v) :: us, t => cond (Nat.beq d t) (cond (Nat.blt d bs.length) v (look bs us t)) (look bs us t)
def ev (bs : List Value) (us : List (Nat × Value)) : Operand → Value
  | .tmp t => look bs us t
  | .const v => v
  | .global g => .pointer (some ⟨g, 0, none⟩)
  | .func f => .func (.func f) #[] #[]

theorem toL_len (bs : List Value) (us : List (Nat × Value)) : (toL bs us).length = bs.length := by
  induction us with
  | nil => rfl
  | cons u us ih => simp [toL, st_set, ih]
theorem nth_set (l : List Value) (d t : Nat) (v : Value) : nth (l.set d v) t = if d = t ∧ d < l.length then v else nth l t := by
  rw [← nth_getD, ← nth_getD, Array.getD_eq_getD_getElem?, Array.getD_eq_getD_getElem?, List.getElem?_toArray, List.getElem?_toArray, List.getElem?_set]
  by_cases h : d = t
  · subst h
    by_cases h2 : d < l.length
    · simp [h2]
    · simp [h2]
  · simp [h]
theorem look_nth (bs : List Value) (us : List (Nat × Value)) (t : Nat) : look bs us t = nth (toL bs us) t := by
  induction us with
  | nil => rfl
  | cons u us ih =>
    obtain ⟨d, v⟩ := u
    rw [toL, st_set, nth_set, toL_len, ← ih, look]
    by_cases h1 : d = t
    · have e1 : Nat.beq d t = true := by rw [Nat.beq_eq]; exact h1
      by_cases h2 : d < bs.length
      · have e2 : Nat.blt d bs.length = true := by rw [Nat.blt_eq]; exact h2
        rw [if_pos ⟨h1, h2⟩, e1, e2]; rfl
      · have e2 : Nat.blt d bs.length = false := by
          rw [Bool.eq_false_iff]; intro h; rw [Nat.blt_eq] at h; exact h2 h
        rw [if_neg (fun h => h2 h.2), e1, e2]; rfl
    · have e1 : Nat.beq d t = false := by rw [Bool.eq_false_iff]; intro h; exact h1 (Nat.eq_of_beq_eq_true h)
      rw [if_neg (fun h => h1 h.1), e1]; rfl
theorem eval_ev (bs : List Value) (us : List (Nat × Value)) (ds : List Deferred) : (fr bs us ds).eval = ev bs us := by
  funext x
  cases x with
  | tmp t => exact (nth_getD (toL bs us) t).trans (look_nth bs us t).symm
  | const v => rfl
  | global g => rfl
  | func f => rfl
theorem put_st (bs : List Value) (us : List (Nat × Value)) (ds : List Deferred) (d : Nat) (v : Value) : (fr bs us ds).put (some d) v = fr bs ((d, v) :: us) ds := by
  simp [fr, Act.put, toL, st_set]
theorem put_none (bs : List Value) (us : List (Nat × Value)) (ds : List Deferred) (v : Value) : (fr bs us ds).put none v = fr bs us ds := rfl

section
variable {P : Program} {bs : List Value} {us : List (Nat × Value)} {ds : List Deferred} {o : Oper} {v : Value}

/-- in whatever world the operation yields this value, and leaves the world alone -/
def Runs (P : Program) (bs : List Value) (us : List (Nat × Value)) (o : Oper) (v : Value) : Prop := ∀ w, (execOp (ev bs us) o).run P w = .ok (.value v) w

theorem r_move {x : Operand} (ho : o.op = .move x) (hx : ev bs us x = v) : Runs P bs us o v := fun w => by
  unfold execOp; simp only [ho, hx]; rfl
theorem r_assign {x : Operand} (ho : o.op = .assign x) (hx : ev bs us x = v) : Runs P bs us o v := fun w => by
  unfold execOp; simp only [ho, hx]; rfl
theorem r_pick {c x y : Operand} {b : Bool} (ho : o.op = .pick c x y) (hc : ev bs us c = .bool b) (hx : (if b then ev bs us x else ev bs us y) = v) : Runs P bs us o v := fun w => by
  unfold execOp; simp only [ho, hc]; subst hx; cases b <;> rfl
theorem r_extract {x : Operand} {i : Nat} {vs : Array Value} (ho : o.op = .extract x i) (hx : ev bs us x = .tuple vs) (hv : vs[i]? = some v) : Runs P bs us o v := fun w => by
  unfold execOp; simp only [ho, hx, Instr.extract, hv]; rfl
theorem r_makeFunc {fn : Fn} {xs ys : Array Operand} {ws vs : Array Value} (ho : o.op = .makeFunc fn xs ys) (hx : xs.map (ev bs us) = ws) (hy : ys.map (ev bs us) = vs) : Runs P bs us o (.func fn ws vs) := fun w => by
  unfold execOp; simp only [ho, hx, hy, Instr.makeFunc]; rfl
theorem r_build {t : TypeId} {parts : Array (Nat × Operand)} {ps : List (Nat × Value)} (hb : ∀ w, (Instr.build t ps.toArray).run P w = .ok v w) (ho : o.op = .build t parts) (hp : parts.toList.map (fun p => (p.1, ev bs us p.2)) = ps) : Runs P bs us o v := fun w => by
  have e : parts.map (fun (i, x) => (i, ev bs us x)) = ps.toArray := by subst hp; apply Array.ext'; simp only [Array.toList_map]
  unfold execOp; simp only [ho, e, Sem.run_bind, hb, Result.andThen_ok, Sem.run_pure]
theorem r_not {t : TypeId} {x : Operand} {b : Bool} (ho : o.op = .unOp .not t x) (hx : ev bs us x = .bool b) : Runs P bs us o (.bool !b) := fun w => by
  unfold execOp; simp only [ho, hx]; rfl
theorem r_lenSlice {t e : TypeId} {x : Operand} {a : Option Addr} {n c : Nat} (ht : P.underlying t = some (.slice e)) (ho : o.op = .call { callee := .builtin .len, args := #[x], argTypes := #[t] }) (hx : ev bs us x = .slice a n c) : Runs P bs us o (.int .i64 (n : Int)) := fun w => by
  unfold execOp; simp [ho, hx, resolve, invoke, builtin, Builtin.len_, run_underlying ht, goInt]

/-! ### addresses -/
theorem r_fieldAddr {s f : Nat} {x : Operand} {fs : Array Field} {F : Field} {g i n : Nat} (e : Nat) (hs : P.underlying s = some (.struct fs)) (hF : fs[f]? = some F) (hn : ∀ w, (sizeOf F.type).run P w = .ok (n + 1) w)
    (ho : o.op = .fieldAddr s x f) (hx : ev bs us x = .pointer (some ⟨g, i, none⟩)) (he : i + F.offset = e) : Runs P bs us o (.pointer (some ⟨g, e, none⟩)) := fun w => by
  subst he
  unfold execOp
  simp only [ho, hx, Instr.fieldAt, Sem.run_bind, run_underlying hs, Result.andThen_ok, hF, Instr.sureAddr, Sem.run_pure, fieldPlace, hn, Addr.add_lit]
  rfl
theorem r_indexAddrArr {t len e sz : Nat} {x y : Operand} {g i : Nat} {k : IntKind} {n : Nat} (ht : P.underlying t = some (.array len e)) (hz : ∀ w, (sizeOf e).run P w = .ok sz w) (ho : o.op = .indexAddr t x y)
    (hx : ev bs us x = .pointer (some ⟨g, i, none⟩)) (hy : ev bs us y = .int k (n : Int)) (hn : n < len) : Runs P bs us o (.pointer (some ⟨g, i + n * sz, none⟩)) := fun w => by
  have h2 : (0 : Int) ≤ (n : Int) ∧ (n : Int) < (len : Int) := ⟨by omega, by omega⟩
  unfold execOp
  simp [ho, hx, hy, Instr.indexAt, asIntOf, run_underlying ht, Instr.sureAddr, hz, Addr.add_lit]
  intro h; omega
theorem r_indexAddrArr1 {t len e : Nat} {x y : Operand} {g : Nat} {k : IntKind} {n : Nat} (ht : P.underlying t = some (.array len e)) (hz : ∀ w, (sizeOf e).run P w = .ok 1 w) (ho : o.op = .indexAddr t x y)
    (hx : ev bs us x = .pointer (some ⟨g, 0, none⟩)) (hy : ev bs us y = .int k (n : Int)) (hn : n < len) : Runs P bs us o (.pointer (some ⟨g, n, none⟩)) := by
  have := r_indexAddrArr ht hz ho hx hy hn
  simpa using this
theorem r_indexAddrSl {t e sz : Nat} {x y : Operand} {g i len c : Nat} {k : IntKind} {n : Nat} (ht : P.underlying t = some (.slice e)) (hz : ∀ w, (sizeOf e).run P w = .ok sz w) (ho : o.op = .indexAddr t x y)
    (hx : ev bs us x = .slice (some ⟨g, i, none⟩) len c) (hy : ev bs us y = .int k (n : Int)) (hn : n < len) : Runs P bs us o (.pointer (some ⟨g, i + n * sz, none⟩)) := fun w => by
  unfold execOp
  simp [ho, hx, hy, Instr.indexAt, asIntOf, run_underlying ht, hz, Addr.add_lit]
  intro h; omega
/-! ### integers -/
theorem run_int {op : BinOp} {t t' : Nat} {x y : Operand} {k : IntKind} {m n : Int} (ho : o.op = .binOp op t x y t') (hx : ev bs us x = .int k m) (hy : ev bs us y = .int k n) (h : ∀ w, (binOp op t (.int k m) (.int k n)).run P w = .ok v w) : Runs P bs us o v := fun w => by
  unfold execOp
  simp only [ho, hx, hy, eqGuard_at_int, Sem.run_bind, Sem.run_pure, Result.andThen_ok, h]
theorem run_sh {op : BinOp} {t t' : Nat} {x y : Operand} {k k' : IntKind} {m n : Int} (ho : o.op = .binOp op t x y t') (hx : ev bs us x = .int k m) (hy : ev bs us y = .int k' n) (h : ∀ w, (binOp op t (.int k m) (.int k' n)).run P w = .ok v w) : Runs P bs us o v := fun w => by
  unfold execOp
  simp only [ho, hx, hy, eqGuard_at_int, Sem.run_bind, Sem.run_pure, Result.andThen_ok, h]

theorem r_bits {op : BinOp} {t t' : Nat} {x y : Operand} {k : IntKind} {m n r : Int} (ho : o.op = .binOp op t x y t') (hx : ev bs us x = .int k m) (hy : ev bs us y = .int k n) (h : op = .and ∨ op = .or ∨ op = .xor) (hr : bits op k m n = r) : Runs P bs us o (.int k r) :=
  run_int ho hx hy fun w => by subst hr; rcases h with rfl | rfl | rfl <;> cases k <;> rfl

theorem r_add {t t' : Nat} {x y : Operand} {k : IntKind} {m n r : Int} (ho : o.op = .binOp .add t x y t') (hx : ev bs us x = .int k m) (hy : ev bs us y = .int k n) (hr : k.wrap (m + n) = r) : Runs P bs us o (.int k r) :=
  run_int ho hx hy fun w => by subst hr; simp [binOp, Op.intArith]

theorem r_sub {t t' : Nat} {x y : Operand} {k : IntKind} {m n r : Int} (ho : o.op = .binOp .sub t x y t') (hx : ev bs us x = .int k m) (hy : ev bs us y = .int k n) (hr : k.wrap (m - n) = r) : Runs P bs us o (.int k r) :=
  run_int ho hx hy fun w => by subst hr; simp [binOp, Op.intArith]

theorem r_mul {t t' : Nat} {x y : Operand} {k : IntKind} {m n r : Int} (ho : o.op = .binOp .mul t x y t') (hx : ev bs us x = .int k m) (hy : ev bs us y = .int k n) (hr : k.wrap (m * n) = r) : Runs P bs us o (.int k r) :=
  run_int ho hx hy fun w => by subst hr; simp [binOp, Op.intArith]

theorem r_lss {t t' : Nat} {x y : Operand} {k : IntKind} {m n : Int} {b : Bool} (ho : o.op = .binOp .lss t x y t') (hx : ev bs us x = .int k m) (hy : ev bs us y = .int k n) (hb : decide (m < n) = b) : Runs P bs us o (.bool b) :=
  run_int ho hx hy fun w => by subst hb; simp [binOp, Op.intCmp]

theorem r_leq {t t' : Nat} {x y : Operand} {k : IntKind} {m n : Int} {b : Bool} (ho : o.op = .binOp .leq t x y t') (hx : ev bs us x = .int k m) (hy : ev bs us y = .int k n) (hb : decide (m ≤ n) = b) : Runs P bs us o (.bool b) :=
  run_int ho hx hy fun w => by subst hb; simp [binOp, Op.intCmp]

theorem r_gtr {t t' : Nat} {x y : Operand} {k : IntKind} {m n : Int} {b : Bool} (ho : o.op = .binOp .gtr t x y t') (hx : ev bs us x = .int k m) (hy : ev bs us y = .int k n) (hb : decide (n < m) = b) : Runs P bs us o (.bool b) :=
  run_int ho hx hy fun w => by subst hb; simp [binOp, Op.intCmp]

theorem r_geq {t t' : Nat} {x y : Operand} {k : IntKind} {m n : Int} {b : Bool} (ho : o.op = .binOp .geq t x y t') (hx : ev bs us x = .int k m) (hy : ev bs us y = .int k n) (hb : decide (n ≤ m) = b) : Runs P bs us o (.bool b) :=
  run_int ho hx hy fun w => by subst hb; simp [binOp, Op.intCmp]

theorem r_eql {t t' : Nat} {x y : Operand} {k : IntKind} {m n : Int} {b : Bool} (ho : o.op = .binOp .eql t x y t') (hx : ev bs us x = .int k m) (hy : ev bs us y = .int k n) (hb : decide (m = n) = b) : Runs P bs us o (.bool b) :=
  run_int ho hx hy fun w => by subst hb; simp [binOp, Op.intCmp]; rfl

theorem r_neq {t t' : Nat} {x y : Operand} {k : IntKind} {m n : Int} {b : Bool} (ho : o.op = .binOp .neq t x y t') (hx : ev bs us x = .int k m) (hy : ev bs us y = .int k n) (hb : decide (m ≠ n) = b) : Runs P bs us o (.bool b) :=
  run_int ho hx hy fun w => by subst hb; simp [binOp, Op.intCmp]; rfl

theorem wrap64_nat (n : Nat) (h : n < 9223372036854775808) : IntKind.i64.wrap (n : Int) = (n : Int) := by
  simp [IntKind.wrap, IntKind.bits, IntKind.signed]; omega
theorem r_addN {t t' : Nat} {x y : Operand} {m n : Nat} (ho : o.op = .binOp .add t x y t') (hx : ev bs us x = .int .i64 (m : Int)) (hy : ev bs us y = .int .i64 (n : Int)) (h : m + n < 9223372036854775808) : Runs P bs us o (.int .i64 ((m + n : Nat) : Int)) :=
  r_add ho hx hy (by rw [← wrap64_nat _ h]; congr 1)
theorem r_mulN {t t' : Nat} {x y : Operand} {m n : Nat} (ho : o.op = .binOp .mul t x y t') (hx : ev bs us x = .int .i64 (m : Int)) (hy : ev bs us y = .int .i64 (n : Int)) (h : m * n < 9223372036854775808) : Runs P bs us o (.int .i64 ((m * n : Nat) : Int)) :=
  r_mul ho hx hy (by rw [← wrap64_nat _ h]; congr 1)
theorem r_subN {t t' : Nat} {x y : Operand} {m n : Nat} (ho : o.op = .binOp .sub t x y t') (hx : ev bs us x = .int .i64 (m : Int)) (hy : ev bs us y = .int .i64 (n : Int)) (h : n ≤ m) (h2 : m < 9223372036854775808) : Runs P bs us o (.int .i64 ((m - n : Nat) : Int)) :=
  r_sub ho hx hy (by rw [← wrap64_nat (m - n) (by omega)]; congr 1; omega)
theorem r_quoN {t t' : Nat} {x y : Operand} {m n : Nat} (ho : o.op = .binOp .quo t x y t') (hx : ev bs us x = .int .i64 (m : Int)) (hy : ev bs us y = .int .i64 (n : Int)) (h : 0 < n) (h2 : m < 9223372036854775808) : Runs P bs us o (.int .i64 ((m / n : Nat) : Int)) :=
  run_int ho hx hy fun w => by
    have h0 : ¬ ((n : Int) = 0) := by omega
    have h1 : m / n ≤ m := Nat.div_le_self _ _
    have := wrap64_nat (m / n) (by omega)
    simp only [binOp, Op.intDiv, h0, if_false, ne_eq, not_true_eq_false]
    rw [← this]; rfl
theorem r_remN {t t' : Nat} {x y : Operand} {m n : Nat} (ho : o.op = .binOp .rem t x y t') (hx : ev bs us x = .int .i64 (m : Int)) (hy : ev bs us y = .int .i64 (n : Int)) (h : 0 < n) : Runs P bs us o (.int .i64 ((m % n : Nat) : Int)) :=
  run_int ho hx hy fun w => by
    have h0 : ¬ ((n : Int) = 0) := by omega
    simp only [binOp, Op.intDiv, h0, if_false, ne_eq, not_true_eq_false]
    rfl

theorem r_lssN {t t' : Nat} {x y : Operand} {k : IntKind} {m n : Nat} {b : Bool} (ho : o.op = .binOp .lss t x y t') (hx : ev bs us x = .int k (m : Int)) (hy : ev bs us y = .int k (n : Int)) (hb : decide (m < n) = b) : Runs P bs us o (.bool b) :=
  r_lss ho hx hy (by subst hb; apply decide_eq_decide.2; omega)

theorem r_leqN {t t' : Nat} {x y : Operand} {k : IntKind} {m n : Nat} {b : Bool} (ho : o.op = .binOp .leq t x y t') (hx : ev bs us x = .int k (m : Int)) (hy : ev bs us y = .int k (n : Int)) (hb : decide (m ≤ n) = b) : Runs P bs us o (.bool b) :=
  r_leq ho hx hy (by subst hb; apply decide_eq_decide.2; omega)

theorem r_gtrN {t t' : Nat} {x y : Operand} {k : IntKind} {m n : Nat} {b : Bool} (ho : o.op = .binOp .gtr t x y t') (hx : ev bs us x = .int k (m : Int)) (hy : ev bs us y = .int k (n : Int)) (hb : decide (n < m) = b) : Runs P bs us o (.bool b) :=
  r_gtr ho hx hy (by subst hb; apply decide_eq_decide.2; omega)

theorem r_geqN {t t' : Nat} {x y : Operand} {k : IntKind} {m n : Nat} {b : Bool} (ho : o.op = .binOp .geq t x y t') (hx : ev bs us x = .int k (m : Int)) (hy : ev bs us y = .int k (n : Int)) (hb : decide (n ≤ m) = b) : Runs P bs us o (.bool b) :=
  r_geq ho hx hy (by subst hb; apply decide_eq_decide.2; omega)

theorem r_eqlN {t t' : Nat} {x y : Operand} {k : IntKind} {m n : Nat} {b : Bool} (ho : o.op = .binOp .eql t x y t') (hx : ev bs us x = .int k (m : Int)) (hy : ev bs us y = .int k (n : Int)) (hb : decide (m = n) = b) : Runs P bs us o (.bool b) :=
  r_eql ho hx hy (by subst hb; apply decide_eq_decide.2; omega)

theorem r_neqN {t t' : Nat} {x y : Operand} {k : IntKind} {m n : Nat} {b : Bool} (ho : o.op = .binOp .neq t x y t') (hx : ev bs us x = .int k (m : Int)) (hy : ev bs us y = .int k (n : Int)) (hb : decide (m ≠ n) = b) : Runs P bs us o (.bool b) :=
  r_neq ho hx hy (by subst hb; apply decide_eq_decide.2; omega)

/-! ### u64 -/
theorem wrap_u64_ofNat (n : Nat) : IntKind.u64.wrap (n : Int) = ((BitVec.ofNat 64 n).toNat : Int) := by
  simp [IntKind.wrap, IntKind.bits, IntKind.signed]
theorem bits_u64 (op : BinOp) (x y : BitVec 64) (r : BitVec 64) (h : (match op with | .and => x &&& y | .or => x ||| y | .xor => x ^^^ y | _ => x &&& ~~~y) = r) : bits op .u64 (x.toNat : Int) (y.toNat : Int) = (r.toNat : Int) := by
  have hx : BitVec.ofInt IntKind.u64.bits (x.toNat : Int) = x := by
    show BitVec.ofInt 64 (x.toNat : Int) = x
    rw [BitVec.ofInt_natCast, BitVec.ofNat_toNat]; simp
  have hy : BitVec.ofInt IntKind.u64.bits (y.toNat : Int) = y := by
    show BitVec.ofInt 64 (y.toNat : Int) = y
    rw [BitVec.ofInt_natCast, BitVec.ofNat_toNat]; simp
  unfold bits
  rw [hx, hy]
  subst h
  cases op <;> (rw [wrap_u64_ofNat]; congr 1; exact Nat.mod_eq_of_lt (BitVec.isLt _))

theorem r_or_u64 {t t' : Nat} {p q : Operand} {x y : BitVec 64} (ho : o.op = .binOp .or t p q t') (hx : ev bs us p = .int .u64 (x.toNat : Int)) (hy : ev bs us q = .int .u64 (y.toNat : Int)) : Runs P bs us o (.int .u64 ((x ||| y).toNat : Int)) :=
  run_int ho hx hy fun w => by rw [← bits_u64 .or x y _ rfl]; rfl

theorem r_xor_u64 {t t' : Nat} {p q : Operand} {x y : BitVec 64} (ho : o.op = .binOp .xor t p q t') (hx : ev bs us p = .int .u64 (x.toNat : Int)) (hy : ev bs us q = .int .u64 (y.toNat : Int)) : Runs P bs us o (.int .u64 ((x ^^^ y).toNat : Int)) :=
  run_int ho hx hy fun w => by rw [← bits_u64 .xor x y _ rfl]; rfl

theorem r_add_u64 {t t' : Nat} {p q : Operand} {x y : BitVec 64} (ho : o.op = .binOp .add t p q t') (hx : ev bs us p = .int .u64 (x.toNat : Int)) (hy : ev bs us q = .int .u64 (y.toNat : Int)) : Runs P bs us o (.int .u64 ((x + y).toNat : Int)) :=
  r_add ho hx hy (by simp [IntKind.wrap, IntKind.bits, IntKind.signed, BitVec.toNat_add])
theorem r_sub_u64 {t t' : Nat} {p q : Operand} {x y : BitVec 64} (ho : o.op = .binOp .sub t p q t') (hx : ev bs us p = .int .u64 (x.toNat : Int)) (hy : ev bs us q = .int .u64 (y.toNat : Int)) : Runs P bs us o (.int .u64 ((x - y).toNat : Int)) :=
  r_sub ho hx hy (by
    have h1 := x.isLt
    have h2 := y.isLt
    simp only [IntKind.wrap, IntKind.bits, IntKind.signed, BitVec.toNat_sub]
    simp
    omega)
theorem r_shl_u64 {t t' : Nat} {p q : Operand} {x : BitVec 64} {k' : IntKind} {s : Nat} (ho : o.op = .binOp .shl t p q t') (hx : ev bs us p = .int .u64 (x.toNat : Int)) (hy : ev bs us q = .int k' (s : Int)) (hs : s < 64) : Runs P bs us o (.int .u64 ((x <<< s).toNat : Int)) :=
  run_sh ho hx hy fun w => by
    have h0 : ¬ ((s : Int) < 0) := by omega
    have hm : min (Int.toNat (s : Int)) 64 = s := by simp; omega
    simp only [binOp, Op.shift, h0, if_false, IntKind.bits, hm, Sem.run_pure]
    congr 3
    rw [BitVec.toNat_shiftLeft, Nat.shiftLeft_eq]
    simp [IntKind.wrap, IntKind.bits, IntKind.signed]
theorem r_shr_u64 {t t' : Nat} {p q : Operand} {x : BitVec 64} {k' : IntKind} {s : Nat} (ho : o.op = .binOp .shr t p q t') (hx : ev bs us p = .int .u64 (x.toNat : Int)) (hy : ev bs us q = .int k' (s : Int)) (hs : s < 64) : Runs P bs us o (.int .u64 ((x >>> s).toNat : Int)) :=
  run_sh ho hx hy fun w => by
    have h0 : ¬ ((s : Int) < 0) := by omega
    have hm : min (Int.toNat (s : Int)) 64 = s := by simp; omega
    simp only [binOp, Op.shift, h0, if_false, IntKind.bits, hm, Sem.run_pure]
    congr 3
    rw [BitVec.toNat_ushiftRight, Nat.shiftRight_eq_div_pow, Int.fdiv_eq_ediv_of_nonneg _ (Int.le_of_lt (Int.pow_pos (by decide)))]
    simp
theorem r_rem_u64 {t t' : Nat} {p q : Operand} {x y : BitVec 64} (ho : o.op = .binOp .rem t p q t') (hx : ev bs us p = .int .u64 (x.toNat : Int)) (hy : ev bs us q = .int .u64 (y.toNat : Int)) (h : y ≠ 0) : Runs P bs us o (.int .u64 ((x % y).toNat : Int)) :=
  run_int ho hx hy fun w => by
    have h0 : ¬ ((y.toNat : Int) = 0) := fun e => h (by apply BitVec.eq_of_toNat_eq; simpa using e)
    simp only [binOp, Op.intDiv, h0, if_false, ne_eq, not_true_eq_false, Sem.run_pure]
    rw [BitVec.toNat_umod]
    rfl
theorem r_eql_u64 {t t' : Nat} {p q : Operand} {x y : BitVec 64} {b : Bool} (ho : o.op = .binOp .eql t p q t') (hx : ev bs us p = .int .u64 (x.toNat : Int)) (hy : ev bs us q = .int .u64 (y.toNat : Int)) (hb : decide (x = y) = b) : Runs P bs us o (.bool b) :=
  r_eqlN ho hx hy (by subst hb; apply decide_eq_decide.2; exact ⟨fun e => BitVec.eq_of_toNat_eq e, fun e => by rw [e]⟩)

/-! ### u8 -/
theorem wrap_u8_ofNat (n : Nat) : IntKind.u8.wrap (n : Int) = ((BitVec.ofNat 8 n).toNat : Int) := by
  simp [IntKind.wrap, IntKind.bits, IntKind.signed]
/-! ### conversions -/
theorem run_conv {s d : Nat} {x : Operand} {k k' : IntKind} {n r : Int} {D : TypeDesc} (hs : P.underlying s = some D) (hd : P.underlying d = some (.int k')) (hx : ev bs us x = .int k n) (ho : o.op = .convert s d x) (hr : k'.wrap n = r) : Runs P bs us o (.int k' r) := fun w => by
  unfold execOp
  subst hr
  simp only [ho, hx, convert, Sem.run_bind, run_underlying hs, run_underlying hd, Result.andThen_ok, Conv.intToInt, Sem.run_pure]
theorem r_conv_u8_u64 {s d : Nat} {p : Operand} {x : BitVec 8} {D : TypeDesc} (hs : P.underlying s = some D) (hd : P.underlying d = some (.int .u64)) (ho : o.op = .convert s d p) (hx : ev bs us p = .int .u8 (x.toNat : Int)) : Runs P bs us o (.int .u64 ((x.setWidth 64).toNat : Int)) :=
  run_conv hs hd hx ho (by rw [wrap_u64_ofNat]; simp)
theorem r_conv_u64_u8 {s d : Nat} {p : Operand} {x : BitVec 64} {D : TypeDesc} (hs : P.underlying s = some D) (hd : P.underlying d = some (.int .u8)) (ho : o.op = .convert s d p) (hx : ev bs us p = .int .u64 (x.toNat : Int)) : Runs P bs us o (.int .u8 ((x.setWidth 8).toNat : Int)) :=
  run_conv hs hd hx ho (by rw [wrap_u8_ofNat]; simp)
theorem r_conv_i64_u64 {s d : Nat} {p : Operand} {k : IntKind} {n : Nat} {D : TypeDesc} (hs : P.underlying s = some D) (hd : P.underlying d = some (.int .u64)) (ho : o.op = .convert s d p) (hx : ev bs us p = .int k (n : Int)) : Runs P bs us o (.int .u64 ((BitVec.ofNat 64 n).toNat : Int)) :=
  run_conv hs hd hx ho (wrap_u64_ofNat n)
end
end Go.Proofs.YtoegpalacppllaaGreat

/- A region that draws its order, walked once, as it is written. Its operations: those that yield one value in all worlds that are known so far (loads, calls, arithmetic); stores into blocks that were there; makers, which make memory (a new variable, a slice, a call that hands back memory of its own); stores into a new variable; and a tail that runs in order when all else is done. No function of the program is in sight here. -/
namespace Go.Proofs.YtoegpalacppllaaGreat
open Go.RowKit

/-- the same blocks, but for those at the places S; there may be more -/
def Sim (S : List Nat) (L L' : List Blk) : Prop := ∀ p x, p ∉ S → L[p]? = some x → L'[p]? = some x
theorem Sim.refl (S : List Nat) (L : List Blk) : Sim S L L := fun _ _ _ h => h
theorem Sim.trans {S : List Nat} {L L' L2 : List Blk} (h : Sim S L L') (k : Sim S L' L2) : Sim S L L2 := fun p x hp hx => k p x hp (h p x hp hx)
theorem Sim.more (S : List Nat) (L N : List Blk) : Sim S L (L ++ N) := fun p x _ h => by
  rw [List.getElem?_append_left (List.getElem?_eq_some_iff.1 h).1]; exact h
theorem Sim.set {S : List Nat} (L : List Blk) (p : Nat) (x : Blk) (hp : p ∈ S) : Sim S L (L.set p x) := fun q y hq hy => by
  rw [List.getElem?_set_ne]
  · exact hy
  · intro e; subst e; exact hq hp
theorem Sim.unset {S : List Nat} (L : List Blk) (p : Nat) (x : Blk) (hp : p ∈ S) : Sim S (L.set p x) L := fun q y hq hy => by
  rw [List.getElem?_set_ne] at hy
  · exact hy
  · intro e; subst e; exact hq hp

/-- what becomes of blocks when their order does not count -/
theorem Cl.perm {w0 : Base} {W : World} {L L' : List Blk} (h : Cl w0 L W) (hp : L.Perm L') : Cl w0 L' W :=
  ⟨h.below, fun x hx => h.holds x (hp.mem_iff.2 hx), fun x hx => h.own x (hp.mem_iff.2 hx), (hp.pairwise_iff (fun e => Ne.symm e)).1 h.apart, h.oth⟩

/-- kinds of operations: one value whatever the blocks at S hold; one value; a store; a maker; a store into a maker's block; the tail -/
inductive Kd where
  | q | r | s
  | mk (i : Nat)
  | st (i : Nat)
  | rd (i : Nat)
  | mkd (i j : Nat)
  | tail
/-- the makers whose blocks an operation makes or stores into; those that it looks at -/
def Kd.makes : Kd → Option Nat
  | .mk i => some i
  | .st i => some i
  | .mkd i _ => some i
  | _ => none
def Kd.looks : Kd → Option Nat
  | .rd i => some i
  | .mkd _ j => some j
  | _ => none
def neB : Option Nat → Option Nat → Bool
  | some i, some j => !(i == j)
  | _, _ => true
/-- these two kinds may change places -/
def mayB : Kd → Kd → Bool
  | .tail, _ => false
  | _, .tail => false
  | .s, .r => false
  | .r, .s => false
  | .s, .s => false
  | .mk _, .mk _ => true
  | k, m => neB k.makes m.makes && neB k.makes m.looks && neB k.looks m.makes
/-- A maker: where its value goes; what it and its blocks are, its variable holding these cells. -/
structure Mk where
  d : Tmp
  X : List Value → Value → List Blk → Prop

/-- The makers' values, as far as they are there. -/
def puts (a : Act) : List Mk → List (Option Value) → Act
  | m :: ms, some v :: vs => puts (a.put (some m.d) v) ms vs
  | _ :: ms, none :: vs => puts a ms vs
  | _, _ => a

section
variable {P : Program} {ops : Array Oper} {o : Oper} {a : Act}
theorem puts_exec (hs : ∀ cs b, o.op ≠ .select cs b) : ∀ (ms : List Mk) (vs : List (Option Value)) (a : Act), (∀ m ∈ ms, m.d ∉ o.looksAt ops) → execOp (puts a ms vs).eval o = execOp a.eval o
  | [], _, _, _ => by simp [puts]
  | m :: ms, [], _, _ => by simp [puts]
  | m :: ms, some v :: vs, a, h => by
    rw [puts, puts_exec hs ms vs _ fun x hx => h x (by simp [hx])]
    exact execOp_put o hs a (some m.d) v fun d hd => by cases hd; exact h m (by simp)
  | m :: ms, none :: vs, a, h => by rw [puts, puts_exec hs ms vs _ fun x hx => h x (by simp [hx])]
theorem puts_wanted : ∀ (ms : List Mk) (vs : List (Option Value)) (a : Act), (∀ m ∈ ms, m.d ∉ o.looksAt ops) → Region.wanted o (yielded ops (puts a ms vs).tmps) = Region.wanted o (yielded ops a.tmps)
  | [], _, _, _ => by simp [puts]
  | m :: ms, [], _, _ => by simp [puts]
  | m :: ms, some v :: vs, a, h => by
    rw [puts, puts_wanted ms vs _ fun x hx => h x (by simp [hx])]
    exact wanted_put o a (some m.d) v fun d hd => by cases hd; exact h m (by simp)
  | m :: ms, none :: vs, a, h => by rw [puts, puts_wanted ms vs _ fun x hx => h x (by simp [hx])]
theorem puts_put {dst : Option Tmp} {u : Value} : ∀ (ms : List Mk) (vs : List (Option Value)) (a : Act), (∀ m ∈ ms, dst ≠ some m.d) → (puts a ms vs).put dst u = puts (a.put dst u) ms vs
  | [], _, _, _ => by simp [puts]
  | m :: ms, [], _, _ => by simp [puts]
  | m :: ms, some v :: vs, a, h => by
    rw [puts, puts, puts_put ms vs _ fun x hx => h x (by simp [hx])]
    rw [Act.put_comm a v u fun d hd he => h m (by simp) (by rw [← hd] at *; exact he)]
  | m :: ms, none :: vs, a, h => by rw [puts, puts, puts_put ms vs _ fun x hx => h x (by simp [hx])]
theorem puts_eval {y : Operand} : ∀ (ms : List Mk) (vs : List (Option Value)) (a : Act), (∀ m ∈ ms, y ≠ .tmp m.d) → (puts a ms vs).eval y = a.eval y
  | [], _, _, _ => by simp [puts]
  | m :: ms, [], _, _ => by simp [puts]
  | m :: ms, some v :: vs, a, h => by
    rw [puts, puts_eval ms vs _ fun x hx => h x (by simp [hx])]
    exact Act.eval_put fun d hd => by cases hd; exact h m (by simp)
  | m :: ms, none :: vs, a, h => by rw [puts, puts_eval ms vs _ fun x hx => h x (by simp [hx])]
theorem put_size (a : Act) (d : Option Tmp) (v : Value) : (a.put d v).tmps.size = a.tmps.size := by cases d <;> simp [Act.put]
theorem puts_set {v : Value} {m : Mk} : ∀ (ms : List Mk) (vs : List (Option Value)) (a : Act) (q : Nat), ms.Pairwise (fun x y => x.d ≠ y.d) → ms[q]? = some m → vs[q]? = some none → puts a ms (vs.set q (some v)) = (puts a ms vs).put (some m.d) v
  | [], _, _, _, _, h, _ => by simp at h
  | x :: ms, [], _, _, _, _, h => by simp at h
  | x :: ms, y :: vs, a, 0, hp, hm, hv => by
    simp at hm hv
    subst hm; subst hv
    rw [List.set_cons_zero, puts, puts, puts_put]
    intro m hm e
    injection e with e
    exact (List.pairwise_cons.1 hp).1 m hm e
  | x :: ms, some y :: vs, a, q + 1, hp, hm, hv => by
    rw [List.set_cons_succ, puts, puts, puts_set ms vs _ q (List.pairwise_cons.1 hp).2 (by simpa using hm) (by simpa using hv)]
  | x :: ms, none :: vs, a, q + 1, hp, hm, hv => by
    rw [List.set_cons_succ, puts, puts, puts_set ms vs _ q (List.pairwise_cons.1 hp).2 (by simpa using hm) (by simpa using hv)]
theorem put_put (a : Act) (d : Tmp) (v u : Value) : (a.put (some d) v).put (some d) u = a.put (some d) u := by
  simp [Act.put]
theorem puts_first {v : Value} {m : Mk} : ∀ (ms : List Mk) (vs : List (Option Value)) (a : Act) (q : Nat), ms.Pairwise (fun x y => x.d ≠ y.d) → ms[q]? = some m → vs[q]? = some (some v) → puts a ms vs = puts (a.put (some m.d) v) (ms.eraseIdx q) (vs.eraseIdx q)
  | [], _, _, _, _, h, _ => by simp at h
  | x :: ms, [], _, _, _, _, h => by simp at h
  | x :: ms, y :: vs, a, 0, hp, hm, hv => by
    simp at hm hv
    subst hm; subst hv
    rfl
  | x :: ms, some y :: vs, a, q + 1, hp, hm, hv => by
    have hm' : ms[q]? = some m := by simpa using hm
    have hne : x.d ≠ m.d := (List.pairwise_cons.1 hp).1 m (List.mem_of_getElem? hm')
    rw [puts, puts_first ms vs _ q (List.pairwise_cons.1 hp).2 hm' (by simpa using hv), List.eraseIdx_cons_succ, List.eraseIdx_cons_succ, puts]
    rw [Act.put_comm a y v fun d hd he => hne (by injection hd with hd; injection he with he; rw [hd, he])]
  | x :: ms, none :: vs, a, q + 1, hp, hm, hv => by
    rw [puts, puts_first ms vs _ q (List.pairwise_cons.1 hp).2 (by simpa using hm) (by simpa using hv), List.eraseIdx_cons_succ, List.eraseIdx_cons_succ, puts]
theorem puts_get {v : Value} {m : Mk} : ∀ (ms : List Mk) (vs : List (Option Value)) (a : Act) (q : Nat), ms.Pairwise (fun x y => x.d ≠ y.d) → ms[q]? = some m → vs[q]? = some (some v) → m.d < a.tmps.size → (puts a ms vs).eval (.tmp m.d) = v
  | [], _, _, _, _, h, _, _ => by simp at h
  | x :: ms, [], _, _, _, _, h, _ => by simp at h
  | x :: ms, y :: vs, a, 0, hp, hm, hv, hs => by
    simp at hm hv
    subst hm; subst hv
    rw [puts, puts_eval]
    · simp [Act.eval, Act.put, hs]
    · intro m hm e
      injection e with e
      exact (List.pairwise_cons.1 hp).1 m hm e
  | x :: ms, some y :: vs, a, q + 1, hp, hm, hv, hs => by
    rw [puts]
    exact puts_get ms vs _ q (List.pairwise_cons.1 hp).2 (by simpa using hm) (by simpa using hv) (by rw [put_size]; exact hs)
  | x :: ms, none :: vs, a, q + 1, hp, hm, hv, hs => by
    rw [puts]
    exact puts_get ms vs _ q (List.pairwise_cons.1 hp).2 (by simpa using hm) (by simpa using hv) hs
end

section
variable {P : Program} {ops : Array Oper} {Q : Exit → Act → World → Prop} {a : Act} {w0 : Base} {W : World} {rest : List Oper} {o : Oper} {L L1 : List Blk} {md : Region.Mode} {S : List Nat} {r : Option (Option Nat)} {m : Nat} {ms : List Mk}

/-- an operation that makes memory -/
def MakesIn (P : Program) (o : Oper) (ρ : Operand → Value) (w0 : Base) (L : List Blk) (Y : Value → List Blk → Prop) : Prop :=
  ∀ w, Cl w0 L w → (∃ v Bs w', (execOp ρ o).run P w = .ok (.value v) w' ∧ Y v Bs ∧ Cl w0 (L ++ Bs) w') ∨
    ∃ f args, (execOp ρ o).run P w = .ok (.enter f args) w ∧ Calls P f args w (After fun v w' => ∃ Bs, Y v Bs ∧ Cl w0 (L ++ Bs) w')
/-- a store of a maker's variable -/
def StoresM (P : Program) (o : Oper) (a : Act) (w0 : Base) (k : Mk) (vs : List Value) : Prop :=
  ∃ t y, o.op = .store t (.tmp k.d) y ∧ ∀ (ρ : Operand → Value) v cs Bs M w, ρ (.tmp k.d) = v → ρ y = a.eval y → k.X cs v Bs → Cl w0 (M ++ Bs) w →
    ∃ w' Bs', (execOp ρ o).run P w = .ok .skip w' ∧ k.X vs v Bs' ∧ Cl w0 (M ++ Bs') w'

/-- an operation that looks at a maker's value, and yields one value whatever that is -/
def ReadsM (P : Program) (ops : Array Oper) (o : Oper) (a : Act) (w0 : Base) (S : List Nat) (L : List Blk) (k : Mk) (z : List Value) (v : Value) : Prop :=
  ∀ u Bs L2, Sim S L L2 → k.X z u Bs → YieldsIn P ops (Cl w0 (L2 ++ Bs)) o v (a.put (some k.d) u)
abbrev St := List Blk × List (List Value)
def StepK (P : Program) (ops : Array Oper) (w0 : Base) (S : List Nat) (ms : List Mk) : Kd → Oper → Act → St → Value → St → Prop
  | .q, o, a, s, v, s' => (∀ L2, Sim S s.1 L2 → YieldsIn P ops (Cl w0 L2) o v a) ∧ s' = s
  | .r, o, a, s, v, s' => (∀ N, YieldsIn P ops (Cl w0 (s.1 ++ N)) o v a) ∧ s' = s
  | .s, o, a, s, v, s' => v = undef ∧ Region.wanted o (yielded ops a.tmps) = true ∧ (∀ N w, Cl w0 (s.1 ++ N) w → ∃ w', (execOp a.eval o).run P w = .ok .skip w' ∧ Cl w0 (s'.1 ++ N) w') ∧ Sim S s.1 s'.1 ∧ Sim S s'.1 s.1 ∧ s'.2 = s.2
  | .mk i, o, a, s, v, s' => v = undef ∧ s' = s ∧ ∃ k z, ms[i]? = some k ∧ s.2[i]? = some z ∧ ∀ L2, Sim S s.1 L2 → MakesIn P o a.eval w0 L2 (k.X z)
  | .st i, o, a, s, v, s' => v = undef ∧ ∃ k vs, ms[i]? = some k ∧ StoresM P o a w0 k vs ∧ s' = (s.1, s.2.set i vs)
  | .mkd i j, o, a, s, v, s' => v = undef ∧ s' = s ∧ ∃ k z kj zj, ms[i]? = some k ∧ s.2[i]? = some z ∧ ms[j]? = some kj ∧ s.2[j]? = some zj ∧ ∀ u Bs L2, Sim S s.1 L2 → kj.X zj u Bs → MakesIn P o (a.put (some kj.d) u).eval w0 (L2 ++ Bs) (k.X z)
  | .rd i, o, a, s, v, s' => s' = s ∧ ∃ k z, ms[i]? = some k ∧ s.2[i]? = some z ∧ ReadsM P ops o a w0 S s.1 k z v
  | .tail, _, _, _, _, _ => False
def putK : Kd → Act → Option Tmp → Value → Act
  | .mk _, a, _, _ => a
  | .mkd _ _, a, _, _ => a
  | _, a, d, v => a.put d v

/-- as they are written -/
def lx (P : Program) (ops : Array Oper) (w0 : Base) (S : List Nat) (ms : List Mk) (R : Act → St → Prop) (T : List Oper → Act → St → Prop) : List Kd → List Oper → Act → St → Prop
  | _, [], a, s => R a s
  | [], _ :: _, _, _ => False
  | .tail :: _, o :: rest, a, s => T (o :: rest) a s
  | k :: ks, o :: rest, a, s => ∃ v s', StepK P ops w0 S ms k o a s v s' ∧ lx P ops w0 S ms R T ks rest (putK k a o.dst v) s'

/-- each of the rest waits for the one ahead of it -/
def seqB (md : Region.Mode) (ops : Array Oper) : Nat → Nat → Array Bool → Bool
  | 0, _, done => (Region.ready md ops done).isEmpty
  | f + 1, k, done => (Region.ready md ops done == [k]) && seqB md ops f (k + 1) (done.setIfInBounds k true)
/-- all makers have been at work -/
def madeB (md : List Nat) (done : Array Bool) : Bool := md.all fun i => done.getD i false

/-- in whatever order -/
def Kd.isTail : Kd → Bool
  | .tail => true
  | _ => false
/-- all that is left is tail -/
def cutB (ops : Array Oper) (kd : Nat → Kd) (done : Array Bool) : Bool := (List.range ops.size).all fun j => done.getD j true || (kd j).isTail
def anyC (P : Program) (md : Region.Mode) (ops : Array Oper) (w0 : Base) (S : List Nat) (ms : List Mk) (kd : Nat → Kd) (ix : List Nat) (R : Act → St → Prop) (U : Nat → Array Bool → Act → St → Prop) : Nat → Array Bool → Act → St → Prop
  | 0, done, a, s => Region.ready md ops done = [] ∧ madeB ix done = true ∧ R a s
  | f + 1, done, a, s => (Region.ready md ops done ≠ []) ∧ ((cutB ops kd done = true ∧ madeB ix done = true ∧ U (f + 1) done a s) ∨
      ∀ i ∈ Region.ready md ops done, ∃ oi, ops[i]? = some oi ∧ ∃ v s', StepK P ops w0 S ms (kd i) oi a s v s' ∧ anyC P md ops w0 S ms kd ix R U f (done.setIfInBounds i true) (putK (kd i) a oi.dst v) s')

/-- in whatever order, in a function or in a round -/
def AW (r : Option (Option Nat)) (m : Nat) (P : Program) (md : Region.Mode) (ops : Array Oper) (Q : Exit → Act → World → Prop) (f : Nat) (done : Array Bool) (a : Act) (w : World) : Prop :=
  match r with
  | none => wpAny P md ops Q f done a w
  | some k => wpAnyIn (RF k) m P md ops Q f done a w
def OW (r : Option (Option Nat)) (m : Nat) (P : Program) (ops : Array Oper) (Q : Exit → Act → World → Prop) (i : Nat) (K : Act → World → Prop) (a : Act) (w : World) : Prop :=
  match r with
  | none => wpOp P ops Q i K a w
  | some k => wpOpIn (RF k) m P ops Q i K a w
theorem AW.zero {done : Array Bool} (h1 : Region.ready md ops done = []) (h2 : Q .normal a W) : AW r m P md ops Q 0 done a W := by
  cases r with
  | none => exact ⟨h1, h2⟩
  | some k => exact ⟨h1, h2⟩
theorem AW.succ {done : Array Bool} {f : Nat} (h1 : Region.ready md ops done ≠ []) (h2 : ∀ i ∈ Region.ready md ops done, OW r m P ops Q i (AW r m P md ops Q f (done.setIfInBounds i true)) a W) : AW r m P md ops Q (f + 1) done a W := by
  cases r with
  | none => exact ⟨fun h => absurd h h1, h2⟩
  | some k => exact ⟨fun h => absurd h h1, h2⟩
theorem AW.get {done : Array Bool} {f i : Nat} (h : AW r m P md ops Q (f + 1) done a W) (hi : i ∈ Region.ready md ops done) : OW r m P ops Q i (AW r m P md ops Q f (done.setIfInBounds i true)) a W := by
  cases r with
  | none => exact h.2 i hi
  | some k => exact h.2 i hi
theorem OW.val {i : Nat} {K : Act → World → Prop} {W' : World} {v : Value} (hi : ops[i]? = some o) (hw : Region.wanted o (yielded ops a.tmps) = true) (hr : (execOp a.eval o).run P W = .ok (.value v) W') (h : K (a.put o.dst v) W') : OW r m P ops Q i K a W := by
  cases r with
  | none =>
    show wpOp P ops Q i K a W
    unfold wpOp
    simp only [hi, hw, if_true]
    refine .inl ?_
    unfold Oper.wp
    rw [hr]; exact h
  | some k =>
    show wpOpIn (RF k) m P ops Q i K a W
    unfold wpOpIn
    simp only [hi, hw, if_true]
    refine ⟨about_ok k, ?_⟩
    rw [show o.semAt (RF k).round a.eval = execOp a.eval o from Oper.semAt_eq _ a.eval o (not_defer hr (fun d h => by cases h)), hr, Oper.uponIn_value]
    exact h
theorem OW.skip {i : Nat} {K : Act → World → Prop} {W' : World} (hi : ops[i]? = some o) (hw : Region.wanted o (yielded ops a.tmps) = true) (hr : (execOp a.eval o).run P W = .ok .skip W') (h : K (a.put o.dst undef) W') : OW r m P ops Q i K a W := by
  cases r with
  | none =>
    show wpOp P ops Q i K a W
    unfold wpOp
    simp only [hi, hw, if_true]
    refine .inl ?_
    unfold Oper.wp
    rw [hr]; exact h
  | some k =>
    show wpOpIn (RF k) m P ops Q i K a W
    unfold wpOpIn
    simp only [hi, hw, if_true]
    refine ⟨about_ok k, ?_⟩
    rw [show o.semAt (RF k).round a.eval = execOp a.eval o from Oper.semAt_eq _ a.eval o (not_defer hr (fun d h => by cases h)), hr, Oper.uponIn_skip]
    exact h
theorem OW.not {i : Nat} {K : Act → World → Prop} (hi : ops[i]? = some o) (hw : Region.wanted o (yielded ops a.tmps) = false) (h : K (a.put o.dst undef) W) : OW r m P ops Q i K a W := by
  cases r with
  | none =>
    show wpOp P ops Q i K a W
    unfold wpOp
    simp only [hi, hw]
    exact h
  | some k =>
    show wpOpIn (RF k) m P ops Q i K a W
    unfold wpOpIn
    simp only [hi, hw]
    exact ⟨about_ok k, h⟩
theorem OW.call {i : Nat} {K : Act → World → Prop} {f : FuncId} {args : Array Value} (hi : ops[i]? = some o) (hw : Region.wanted o (yielded ops a.tmps) = true) (hr : (execOp a.eval o).run P W = .ok (.enter f args) W)
    (h : Calls P f args W (After fun v w => K (a.put o.dst v) w)) : OW r m P ops Q i K a W := by
  cases r with
  | none =>
    show wpOp P ops Q i K a W
    unfold wpOp
    simp only [hi, hw, if_true]
    refine .inl ?_
    unfold Oper.wp
    rw [hr, Oper.upon_enter]
    refine h.mono ?_
    rintro e w ⟨v, rfl, h⟩
    exact h
  | some k =>
    show wpOpIn (RF k) m P ops Q i K a W
    unfold wpOpIn
    simp only [hi, hw, if_true]
    refine ⟨about_ok k, ?_⟩
    rw [show o.semAt (RF k).round a.eval = execOp a.eval o from Oper.semAt_eq _ a.eval o (not_defer hr (fun d h => by cases h)), hr, Oper.uponIn_enter]
    refine ⟨RF_depth k, (RF_calls k h).mono ?_⟩
    rintro e w ⟨v, rfl, h⟩
    exact h
/-- one value, in all worlds of a class -/
theorem OW.quiet {i : Nat} {K : Act → World → Prop} {C : World → Prop} {v : Value} (hi : ops[i]? = some o) (hy : YieldsIn P ops C o v a) (hC : C W) (h : ∀ w', C w' → K (a.put o.dst v) w') : OW r m P ops Q i K a W := by
  rcases hy with ⟨hw, hq⟩ | ⟨hw, rfl⟩
  · have hq := hq W hC
    unfold Oper.quietAt at hq
    cases hr : (execOp a.eval o).run P W with
    | halt x w' => rw [hr] at hq; exact hq.elim
    | ok x w' =>
      rw [hr] at hq
      cases x with
      | value u =>
        obtain ⟨rfl, rfl⟩ := hq
        exact OW.val hi hw hr (h _ hC)
      | skip =>
        obtain ⟨rfl, rfl⟩ := hq
        exact OW.skip hi hw hr (h _ hC)
      | enter f args =>
        obtain ⟨rfl, hc⟩ := hq
        exact OW.call hi hw hr (hc.mono fun e w'' ⟨he, hw''⟩ => ⟨v, he, h _ hw''⟩)
      | _ => exact hq.elim
  · exact OW.not hi hw (h _ hC)

/-- a tail -/
theorem OW.of_LW {i : Nat} {l : List Oper} (hi : ops[i]? = some o) (h : LW r m P ops Q (o :: l) a W) : OW r m P ops Q i (LW0 r m P ops Q l) a W := by
  have h := h.h
  cases r with
  | none =>
    show wpOp P ops Q i _ a W
    unfold wpOp
    simp only [hi]
    exact h
  | some k =>
    show wpOpIn (RF k) m P ops Q i _ a W
    unfold wpOpIn
    simp only [hi]
    exact h
theorem OW.mono {i : Nat} {K K' : Act → World → Prop} (h : ∀ a w, K a w → K' a w) (hh : OW r m P ops Q i K a W) : OW r m P ops Q i K' a W := by
  cases r with
  | none => exact wpOp_mono h hh
  | some k => exact wpOpIn_mono h hh
theorem AW_seq : ∀ (l : List Oper) (k : Nat) (done : Array Bool) (a : Act) (w : World), (∀ j, l[j]? = ops[k + j]?) → seqB md ops l.length k done = true → LW r m P ops Q l a w → AW r m P md ops Q l.length done a w
  | [], _, _, _, _, _, hB, h => AW.zero (by simpa [seqB] using hB) (by have h := h.h; cases r <;> exact h)
  | o :: l, k, done, a, w, hl, hB, h => by
    have h0 : ops[k]? = some o := by simpa using (hl 0).symm
    simp only [List.length_cons, seqB, Bool.and_eq_true, beq_iff_eq] at hB
    refine AW.succ (by rw [hB.1]; simp) fun i hi => ?_
    rw [hB.1] at hi
    obtain rfl : i = k := by simpa using hi
    exact (OW.of_LW h0 h).mono fun a w h => AW_seq l (i + 1) _ a w (fun j => by have := hl (j + 1); simpa [Nat.add_assoc, Nat.add_comm 1 j] using this) hB.2 ⟨h⟩

/-- What is known of the makers: those that have been at work have their values and blocks. -/
inductive Made : List Mk → List (List Value) → List (Option Value) → List (List Blk) → Prop
  | nil : Made [] [] [] []
  | no {k ms z V vs Ns} (h : Made ms V vs Ns) : Made (k :: ms) (z :: V) (Option.none :: vs) ([] :: Ns)
  | yes {k ms z V v vs Bs Ns} (hx : k.X z v Bs) (h : Made ms V vs Ns) : Made (k :: ms) (z :: V) (Option.some v :: vs) (Bs :: Ns)

theorem flatten_set_perm {α : Type} : ∀ (Ns : List (List α)) (q : Nat) (Bs : List α), Ns[q]? = some [] → (Ns.flatten ++ Bs).Perm ((Ns.set q Bs).flatten)
  | [], _, _, h => by simp at h
  | N :: Ns, 0, Bs, h => by
    simp at h
    subst h
    simp only [List.set_cons_zero, List.flatten_cons, List.nil_append]
    exact List.perm_append_comm
  | N :: Ns, q + 1, Bs, h => by
    simp only [List.set_cons_succ, List.flatten_cons, List.append_assoc]
    exact (flatten_set_perm Ns q Bs (by simpa using h)).append_left N
theorem Made.put {k : Mk} {z : List Value} {v : Value} {Bs : List Blk} : ∀ {ms : List Mk} {V : List (List Value)} {vs : List (Option Value)} {Ns : List (List Blk)} (q : Nat), Made ms V vs Ns → ms[q]? = some k → V[q]? = some z → vs[q]? = some none → k.X z v Bs → Ns[q]? = some [] ∧ Made ms V (vs.set q (some v)) (Ns.set q Bs)
  | _, _, _, _, 0, h, hk, hz, hv, hx => by
    cases h with
    | nil => simp at hk
    | no h =>
      simp at hk hz
      subst hk; subst hz
      exact ⟨rfl, .yes hx h⟩
    | yes hx h => simp at hv
  | _, _, _, _, q + 1, h, hk, hz, hv, hx => by
    cases h with
    | nil => simp at hk
    | no h =>
      have ih := Made.put q h (by simpa using hk) (by simpa using hz) (by simpa using hv) hx
      exact ⟨by simpa using ih.1, .no ih.2⟩
    | yes hx' h =>
      have ih := Made.put q h (by simpa using hk) (by simpa using hz) (by simpa using hv) hx
      exact ⟨by simpa using ih.1, .yes hx' ih.2⟩
theorem Made.get {k : Mk} {v : Value} : ∀ {ms : List Mk} {V : List (List Value)} {vs : List (Option Value)} {Ns : List (List Blk)} (q : Nat), Made ms V vs Ns → ms[q]? = some k → vs[q]? = some (some v) →
    ∃ z Bs, k.X z v Bs ∧ Ns[q]? = some Bs ∧ Ns.flatten.Perm ((Ns.set q []).flatten ++ Bs) ∧ ∀ z' Bs', k.X z' v Bs' → Made ms (V.set q z') vs (Ns.set q Bs') ∧ ((Ns.set q []).flatten ++ Bs').Perm ((Ns.set q Bs').flatten)
  | _, _, _, _, 0, h, hk, hv => by
    cases h with
    | nil => simp at hk
    | no h => simp at hv
    | yes hx h =>
      simp at hk hv
      subst hk; subst hv
      refine ⟨_, _, hx, rfl, by simpa using List.perm_append_comm, fun z' Bs' hx' => ⟨.yes hx' h, by simpa using List.perm_append_comm⟩⟩
  | _, _, _, _, q + 1, h, hk, hv => by
    cases h with
    | nil => simp at hk
    | no h =>
      obtain ⟨z, Bs, h1, h2, h3, h4⟩ := Made.get q h (by simpa using hk) (by simpa using hv)
      refine ⟨z, Bs, h1, by simpa using h2, by simpa using h3, fun z' Bs' hx' => ⟨.no (h4 z' Bs' hx').1, by simpa using (h4 z' Bs' hx').2⟩⟩
    | yes hx h =>
      obtain ⟨z, Bs, h1, h2, h3, h4⟩ := Made.get q h (by simpa using hk) (by simpa using hv)
      refine ⟨z, Bs, h1, by simpa using h2, ?_, fun z' Bs' hx' => ⟨.yes hx (h4 z' Bs' hx').1, ?_⟩⟩
      · simp only [List.set_cons_succ, List.flatten_cons, List.append_assoc]
        exact h3.append_left _
      · simp only [List.set_cons_succ, List.flatten_cons, List.append_assoc]
        exact ((h4 z' Bs' hx').2).append_left _
theorem Made.read {k : Mk} {z : List Value} {v : Value} : ∀ {ms : List Mk} {V : List (List Value)} {vs : List (Option Value)} {Ns : List (List Blk)} (q : Nat), Made ms V vs Ns → ms[q]? = some k → V[q]? = some z → vs[q]? = some (some v) →
    ∃ Bs, k.X z v Bs ∧ Ns.flatten.Perm ((Ns.set q []).flatten ++ Bs)
  | _, _, _, _, 0, h, hk, hz, hv => by
    cases h with
    | nil => simp at hk
    | no h => simp at hv
    | yes hx h =>
      simp at hk hv hz
      subst hk; subst hv; subst hz
      exact ⟨_, hx, by simpa using List.perm_append_comm⟩
  | _, _, _, _, q + 1, h, hk, hz, hv => by
    cases h with
    | nil => simp at hk
    | no h =>
      obtain ⟨Bs, h1, h3⟩ := Made.read q h (by simpa using hk) (by simpa using hz) (by simpa using hv)
      exact ⟨Bs, h1, by simpa using h3⟩
    | yes hx h =>
      obtain ⟨Bs, h1, h3⟩ := Made.read q h (by simpa using hk) (by simpa using hz) (by simpa using hv)
      refine ⟨Bs, h1, ?_⟩
      simp only [List.set_cons_succ, List.flatten_cons, List.append_assoc]
      exact h3.append_left _
theorem mk_apart {ms : List Mk} (h : ms.Pairwise (fun x y => x.d ≠ y.d)) {p q : Nat} {x y : Mk} (hp : ms[p]? = some x) (hq : ms[q]? = some y) (hne : p ≠ q) : x.d ≠ y.d := by
  obtain ⟨hpl, rfl⟩ := List.getElem?_eq_some_iff.1 hp
  obtain ⟨hql, rfl⟩ := List.getElem?_eq_some_iff.1 hq
  rcases Nat.lt_or_gt_of_ne hne with h1 | h1
  · exact List.pairwise_iff_getElem.1 h p q hpl hql h1
  · exact fun e => List.pairwise_iff_getElem.1 h q p hql hpl h1 e.symm
theorem yields_iff {C C' : World → Prop} {v : Value} {a : Act} (h : ∀ w, C w ↔ C' w) (hy : YieldsIn P ops C' o v a) : YieldsIn P ops C o v a := by
  obtain rfl : C = C' := funext fun w => propext (h w)
  exact hy
theorem Made.len : ∀ {ms : List Mk} {V : List (List Value)} {vs : List (Option Value)} {Ns : List (List Blk)}, Made ms V vs Ns → vs.length = ms.length
  | _, _, _, _, .nil => rfl
  | _, _, _, _, .no h => by simp [h.len]
  | _, _, _, _, .yes _ h => by simp [h.len]

/-! ### what a region must be like -/
def Kd.isMk : Kd → Nat → Bool
  | .mk i, j => i == j
  | .mkd i _, j => i == j
  | _, _ => false
/-- one operation, by its kind: D: where the makers' values go; ix: the makers' places -/
def opB (md : Region.Mode) (ops : Array Oper) (D ix : List Nat) (n : Nat) (o : Oper) : Kd → Bool
  | .mk i => (ix[i]? == some n) && o.guard.isNone && (match D[i]? with | some d => o.dst == some d | none => false) && (o.looksAt ops).all (fun t => !D.contains t)
  | .st i => o.guard.isNone && o.dst.isNone && (match o.op with
      | .store _ (.tmp d) y => D[i]? == some d && (match y with | .tmp t => !D.contains t | _ => true)
      | _ => false) && (match ix[i]? with | some j => o.after.any (fun e => Region.binds md e && e.on == j) | none => false)
  | .rd i => (o.looksAt ops).all (fun t => !D.contains t || D[i]? == some t) && D.all (fun d => o.dst != some d) && (match ix[i]? with | some j => o.after.any (fun e => Region.binds md e && e.on == j) | none => false)
  | .mkd i j => !(i == j) && (ix[i]? == some n) && o.guard.isNone && (match D[i]? with | some d => o.dst == some d | none => false) && (o.looksAt ops).all (fun t => !D.contains t || D[j]? == some t) && (match ix[j]? with | some p => o.after.any (fun e => Region.binds md e && e.on == p) | none => false)
  | .tail => true
  | _ => (o.looksAt ops).all (fun t => !D.contains t) && D.all (fun d => o.dst != some d)
def allB (md : Region.Mode) (ops : Array Oper) (D ix : List Nat) (kd : Nat → Kd) : Bool :=
  ((List.range ops.size).all fun i => match ops[i]? with | some o => opB md ops D ix i o (kd i) | none => true) && ((List.range ix.length).all fun q => match ix[q]? with | some i => (kd i).isMk q | none => true) && (ix.length == D.length) && D.Pairwise (· ≠ ·)
theorem not_contains {D : List Nat} {t : Nat} (h : (!D.contains t) = true) {d : Nat} (hd : d ∈ D) : d ≠ t := by
  rintro rfl
  simp at h
  exact h hd
structure AllB (md : Region.Mode) (ops : Array Oper) (ms : List Mk) (ix : List Nat) (kd : Nat → Kd) : Prop where
  op : ∀ i o, ops[i]? = some o → opB md ops (ms.map Mk.d) ix i o (kd i) = true
  at_ : ∀ q i, ix[q]? = some i → (kd i).isMk q = true
  len : ix.length = ms.length
  ds : ms.Pairwise (fun x y => x.d ≠ y.d)
theorem allB_spec {ix : List Nat} {kd : Nat → Kd} (h : allB md ops (ms.map Mk.d) ix kd = true) : AllB md ops ms ix kd := by
  simp only [allB, Bool.and_eq_true, List.all_eq_true, List.mem_range, beq_iff_eq, decide_eq_true_eq] at h
  obtain ⟨⟨⟨h1, h2⟩, h3⟩, h4⟩ := h
  refine ⟨fun i o ho => ?_, fun q i hq => ?_, by simpa using h3, by rw [List.pairwise_map] at h4; exact h4⟩
  · have := h1 i (Array.getElem?_eq_some_iff.1 ho).1
    rw [ho] at this; exact this
  · have := h2 q (List.getElem?_eq_some_iff.1 hq).1
    rw [hq] at this
    simpa using this

theorem looks_none {o : Oper} (h : (o.looksAt ops).all (fun t => !(ms.map Mk.d).contains t) = true) : ∀ m ∈ ms, m.d ∉ o.looksAt ops := fun m hm hd => by
  have := List.all_eq_true.1 h m.d hd
  exact not_contains this (List.mem_map.2 ⟨m, hm, rfl⟩) rfl
theorem dst_none {o : Oper} (h : (ms.map Mk.d).all (fun d => o.dst != some d) = true) : ∀ m ∈ ms, o.dst ≠ some m.d := fun m hm e => by
  have := List.all_eq_true.1 h m.d (List.mem_map.2 ⟨m, hm, rfl⟩)
  simp [e] at this

theorem getD_false_lt {done : Array Bool} {i : Nat} (h : done.getD i true = false) : i < done.size := by
  rcases Nat.lt_or_ge i done.size with h' | h'
  · exact h'
  · simp [Array.getElem?_eq_none h'] at h
theorem getD_false_both {done : Array Bool} {i : Nat} (h : done.getD i true = false) : done.getD i false = false := by
  have := getD_false_lt h
  simp [this] at h ⊢; exact h
theorem getD_set_self {done : Array Bool} {i : Nat} (h : i < done.size) : (done.setIfInBounds i true).getD i false = true := by simp [h]

/-- one operation, whatever it is: the makers' values and blocks beside what is known anyway -/
theorem step_any {kd : Nat → Kd} {ix : List Nat} (hA : AllB md ops ms ix kd) (hsel : ∀ (j : Nat) (o : Oper) cs b, ops[j]? = some o → o.op ≠ .select cs b)
    {done : Array Bool} {a : Act} {s s' : St} {v : Value} {vs : List (Option Value)} {Ns : List (List Blk)} {w : World} {i : Nat} {oi : Oper} {K : Act → World → Prop} (hM : Made ms s.2 vs Ns) (hrel : ∀ (q i : Nat), ix[q]? = some i → ((∃ v, vs[q]? = some (some v)) ↔ done.getD i false = true)) (hsz : ∀ m ∈ ms, m.d < a.tmps.size)
    (hC : Cl w0 (s.1 ++ Ns.flatten) w) (hi : i ∈ Region.ready md ops done) (ho : ops[i]? = some oi) (hk : StepK P ops w0 S ms (kd i) oi a s v s')
    (hK : ∀ vs' Ns' w', Made ms s'.2 vs' Ns' → (∀ (q j : Nat), ix[q]? = some j → ((∃ v, vs'[q]? = some (some v)) ↔ (done.setIfInBounds i true).getD j false = true)) → Cl w0 (s'.1 ++ Ns'.flatten) w' → K (puts (putK (kd i) a oi.dst v) ms vs') w') : OW r m P ops Q i K (puts a ms vs) w := by
  have hop := hA.op i oi ho
  have hun := (mem_ready.1 hi).1
  -- an operation that is no maker leaves the account of the makers as it is
  have hrel' : (∀ q, (kd i).isMk q = false) → ∀ (q j : Nat), ix[q]? = some j → ((∃ v, vs[q]? = some (some v)) ↔ (done.setIfInBounds i true).getD j false = true) := fun hno q j hq => by
    have hne : i ≠ j := fun e => by have h1 := hno q; rw [e, hA.at_ q j hq] at h1; cases h1
    rw [getD_set_ne false hne]; exact hrel q j hq
  cases hkd : kd i with
  | q =>
    rw [hkd] at hk hop
    obtain ⟨hy, rfl⟩ := hk
    simp only [opB, Bool.and_eq_true] at hop
    refine OW.quiet ho ((hy _ (Sim.more S s'.1 Ns.flatten)).of_same (puts_exec (hsel i oi · · ho) ms vs a (looks_none hop.1)) (puts_wanted ms vs a (looks_none hop.1))) hC fun w' hw' => ?_
    rw [puts_put ms vs a (dst_none hop.2)]
    have := hK vs Ns w' hM (hrel' fun q => by rw [hkd]; rfl) hw'
    rwa [hkd] at this
  | r =>
    rw [hkd] at hk hop
    obtain ⟨hy, rfl⟩ := hk
    simp only [opB, Bool.and_eq_true] at hop
    refine OW.quiet ho ((hy Ns.flatten).of_same (puts_exec (hsel i oi · · ho) ms vs a (looks_none hop.1)) (puts_wanted ms vs a (looks_none hop.1))) hC fun w' hw' => ?_
    rw [puts_put ms vs a (dst_none hop.2)]
    have := hK vs Ns w' hM (hrel' fun q => by rw [hkd]; rfl) hw'
    rwa [hkd] at this
  | s =>
    rw [hkd] at hk hop
    obtain ⟨rfl, hwt, hst, _, _, hV⟩ := hk
    simp only [opB, Bool.and_eq_true] at hop
    obtain ⟨w', hrun, hw'⟩ := hst Ns.flatten w hC
    refine OW.skip ho (by rw [puts_wanted ms vs a (looks_none hop.1)]; exact hwt) (by rw [puts_exec (hsel i oi · · ho) ms vs a (looks_none hop.1)]; exact hrun) ?_
    rw [puts_put ms vs a (dst_none hop.2)]
    have := hK vs Ns w' (by rw [hV]; exact hM) (hrel' fun q => by rw [hkd]; rfl) hw'
    rwa [hkd] at this
  | mk q =>
    rw [hkd] at hk hop
    obtain ⟨rfl, rfl, k, z, hms, hz, hmake⟩ := hk
    simp only [opB, Bool.and_eq_true, List.getElem?_map, hms, Option.map_some, Option.isNone_iff_eq_none, beq_iff_eq] at hop
    obtain ⟨⟨⟨hixq, hg⟩, hdst⟩, hlook⟩ := hop
    have hwt : Region.wanted oi (yielded ops (puts a ms vs).tmps) = true := by simp [Region.wanted, hg]
    have hq : q < ms.length := (List.getElem?_eq_some_iff.1 hms).1
    have hvq : vs[q]? = some none := by
      have hlt : q < vs.length := by rw [hM.len]; exact hq
      cases hv : vs[q]? with
      | none => rw [List.getElem?_eq_none_iff] at hv; omega
      | some x =>
        cases x with
        | none => rfl
        | some u =>
          have := (hrel q i hixq).1 ⟨u, hv⟩
          rw [getD_false_both hun] at this; cases this
    have fin : ∀ v Bs w', k.X z v Bs → Cl w0 ((s'.1 ++ Ns.flatten) ++ Bs) w' → K ((puts a ms vs).put oi.dst v) w' := fun v Bs w' hx hc => by
      obtain ⟨hNq, hM'⟩ := hM.put q hms hz hvq hx
      rw [hdst, ← puts_set ms vs a q hA.ds hms hvq]
      have hK := hK (vs.set q (some v)) (Ns.set q Bs) w' hM'
      rw [hkd] at hK
      refine hK (fun q' j hq' => ?_) (hc.perm ?_)
      · by_cases e : q' = q
        · subst e
          obtain rfl : j = i := by rw [hixq] at hq'; injection hq' with hq'; exact hq'.symm
          rw [getD_set_self (getD_false_lt hun), List.getElem?_set_self (by rw [hM.len]; exact hq)]
          simp
        · have hne : i ≠ j := fun e' => e (by have := hA.at_ q' j hq'; rw [← e', hkd] at this; simp [Kd.isMk] at this; exact this.symm)
          rw [getD_set_ne false hne, List.getElem?_set_ne (Ne.symm e)]
          exact hrel q' j hq'
      · rw [List.append_assoc]
        exact (flatten_set_perm Ns q Bs hNq).append_left _
    have hexec := puts_exec (hsel i oi · · ho) ms vs a (looks_none hlook)
    rcases hmake _ (Sim.more S s'.1 Ns.flatten) w hC with ⟨v, Bs, w', hrun, hx, hc⟩ | ⟨g, args, hrun, hcall⟩
    · exact OW.val ho hwt (by rw [hexec]; exact hrun) (fin v Bs w' hx hc)
    · exact OW.call ho hwt (by rw [hexec]; exact hrun) (hcall.mono fun e w' ⟨v, he, Bs, hx, hc⟩ => ⟨v, he, fin v Bs w' hx hc⟩)
  | mkd q p =>
    rw [hkd] at hk hop
    obtain ⟨rfl, rfl, k, z, kp, zp, hms, hz, hmsp, hzp, hmake⟩ := hk
    simp only [opB, Bool.and_eq_true, List.getElem?_map, hms, hmsp, Option.map_some, Option.isNone_iff_eq_none, beq_iff_eq] at hop
    obtain ⟨⟨⟨⟨⟨hqp, hixq⟩, hg⟩, hdst⟩, hlook⟩, hwait⟩ := hop
    have hqp : q ≠ p := by simpa using hqp
    have hwt : Region.wanted oi (yielded ops (puts a ms vs).tmps) = true := by simp [Region.wanted, hg]
    have hq : q < ms.length := (List.getElem?_eq_some_iff.1 hms).1
    have hvq : vs[q]? = some none := by
      have hlt : q < vs.length := by rw [hM.len]; exact hq
      cases hv : vs[q]? with
      | none => rw [List.getElem?_eq_none_iff] at hv; omega
      | some x =>
        cases x with
        | none => rfl
        | some u =>
          have := (hrel q i hixq).1 ⟨u, hv⟩
          rw [getD_false_both hun] at this; cases this
    obtain ⟨j, hj, hjd⟩ : ∃ j, ix[p]? = some j ∧ done.getD j false = true := by
      cases hix : ix[p]? with
      | none => rw [hix] at hwait; cases hwait
      | some j =>
        rw [hix] at hwait
        obtain ⟨e, he, hb⟩ := Array.any_eq_true'.1 hwait
        simp only [Bool.and_eq_true, beq_iff_eq] at hb
        obtain ⟨_, oi', ho', hall⟩ := mem_ready.1 hi
        obtain rfl : oi' = oi := Option.some.inj (ho'.symm.trans ho)
        exact ⟨j, rfl, by rw [← hb.2]; exact hall e he hb.1⟩
    obtain ⟨u, hu⟩ := (hrel p j hj).2 hjd
    obtain ⟨Bs0, hx0, hp0⟩ := hM.read p hmsp hzp hu
    have hoth : ∀ m ∈ ms.eraseIdx p, m.d ∉ oi.looksAt ops := fun m hm hd => by
      obtain ⟨i', hi', hm'⟩ := List.mem_eraseIdx_iff_getElem?.1 hm
      have h1 := List.all_eq_true.1 hlook m.d hd
      simp only [Bool.or_eq_true, beq_iff_eq, Option.some.injEq] at h1
      rcases h1 with h1 | h1
      · exact not_contains h1 (List.mem_map.2 ⟨m, List.mem_of_getElem? hm', rfl⟩) rfl
      · exact mk_apart hA.ds hm' hmsp hi' h1.symm
    have fin : ∀ v Bs w', k.X z v Bs → Cl w0 ((s'.1 ++ Ns.flatten) ++ Bs) w' → K ((puts a ms vs).put oi.dst v) w' := fun v Bs w' hx hc => by
      obtain ⟨hNq, hM'⟩ := hM.put q hms hz hvq hx
      rw [hdst, ← puts_set ms vs a q hA.ds hms hvq]
      have hK := hK (vs.set q (some v)) (Ns.set q Bs) w' hM'
      rw [hkd] at hK
      refine hK (fun q' j hq' => ?_) (hc.perm ?_)
      · by_cases e : q' = q
        · subst e
          obtain rfl : j = i := by rw [hixq] at hq'; injection hq' with hq'; exact hq'.symm
          rw [getD_set_self (getD_false_lt hun), List.getElem?_set_self (by rw [hM.len]; exact hq)]
          simp
        · have hne : i ≠ j := fun e' => e (by have := hA.at_ q' j hq'; rw [← e', hkd] at this; simp [Kd.isMk] at this; exact this.symm)
          rw [getD_set_ne false hne, List.getElem?_set_ne (Ne.symm e)]
          exact hrel q' j hq'
      · rw [List.append_assoc]
        exact (flatten_set_perm Ns q Bs hNq).append_left _
    have hexec := puts_exec (ops := ops) (hsel i oi · · ho) (ms.eraseIdx p) (vs.eraseIdx p) (a.put (some kp.d) u) hoth
    rw [← puts_first ms vs a p hA.ds hmsp hu] at hexec
    have hpm : (s'.1 ++ Ns.flatten).Perm (s'.1 ++ (Ns.set p []).flatten ++ Bs0) := by rw [List.append_assoc]; exact hp0.append_left _
    rcases hmake u Bs0 (s'.1 ++ (Ns.set p []).flatten) (Sim.more S s'.1 _) hx0 w (hC.perm hpm) with ⟨v, Bs, w', hrun, hx, hc⟩ | ⟨g, args, hrun, hcall⟩
    · exact OW.val ho hwt (by rw [hexec]; exact hrun) (fin v Bs w' hx (hc.perm (hpm.symm.append_right _)))
    · exact OW.call ho hwt (by rw [hexec]; exact hrun) (hcall.mono fun e w' ⟨v, he, Bs, hx, hc⟩ => ⟨v, he, fin v Bs w' hx (hc.perm (hpm.symm.append_right _))⟩)
  | st q =>
    rw [hkd] at hk hop
    obtain ⟨rfl, k, cs, hms, ⟨t, y, hop', hst⟩, rfl⟩ := hk
    simp only [opB, Bool.and_eq_true, hop', Option.isNone_iff_eq_none] at hop
    obtain ⟨⟨⟨hg, hdst⟩, hDq, hy⟩, hwait⟩ := hop
    have hwt : Region.wanted oi (yielded ops (puts a ms vs).tmps) = true := by simp [Region.wanted, hg]
    obtain ⟨j, hj, hjd⟩ : ∃ j, ix[q]? = some j ∧ done.getD j false = true := by
      cases hix : ix[q]? with
      | none => rw [hix] at hwait; cases hwait
      | some j =>
        rw [hix] at hwait
        obtain ⟨e, he, hb⟩ := Array.any_eq_true'.1 hwait
        simp only [Bool.and_eq_true, beq_iff_eq] at hb
        obtain ⟨_, oi', ho', hall⟩ := mem_ready.1 hi
        obtain rfl : oi' = oi := Option.some.inj (ho'.symm.trans ho)
        exact ⟨j, rfl, by rw [← hb.2]; exact hall e he hb.1⟩
    obtain ⟨u, hu⟩ := (hrel q j hj).2 hjd
    obtain ⟨z, Bs, hx, hNq, hp, h4⟩ := hM.get q hms hu
    have hye : (puts a ms vs).eval y = a.eval y := puts_eval ms vs a fun x hx e => by
      subst e
      exact not_contains hy (List.mem_map.2 ⟨x, hx, rfl⟩) rfl
    obtain ⟨w', Bs', hrun, hx', hc'⟩ := hst (puts a ms vs).eval u z Bs (s.1 ++ (Ns.set q []).flatten) w (puts_get ms vs a q hA.ds hms hu (hsz k (List.mem_of_getElem? hms))) hye hx
      (hC.perm (by rw [List.append_assoc]; exact hp.append_left _))
    refine OW.skip ho hwt hrun ?_
    rw [hdst]
    have hK := hK vs (Ns.set q Bs') w' (h4 cs Bs' hx').1 (hrel' fun q => by rw [hkd]; rfl)
    rw [hkd] at hK
    simp only [putK, hdst] at hK
    refine hK (hc'.perm ?_)
    rw [List.append_assoc]
    exact ((h4 cs Bs' hx').2).append_left _
  | rd q =>
    rw [hkd] at hk hop
    obtain ⟨rfl, k, z, hms, hz, hread⟩ := hk
    simp only [opB, Bool.and_eq_true] at hop
    obtain ⟨⟨hlook, hdst⟩, hwait⟩ := hop
    obtain ⟨j, hj, hjd⟩ : ∃ j, ix[q]? = some j ∧ done.getD j false = true := by
      cases hix : ix[q]? with
      | none => rw [hix] at hwait; cases hwait
      | some j =>
        rw [hix] at hwait
        obtain ⟨e, he, hb⟩ := Array.any_eq_true'.1 hwait
        simp only [Bool.and_eq_true, beq_iff_eq] at hb
        obtain ⟨_, oi', ho', hall⟩ := mem_ready.1 hi
        obtain rfl : oi' = oi := Option.some.inj (ho'.symm.trans ho)
        exact ⟨j, rfl, by rw [← hb.2]; exact hall e he hb.1⟩
    obtain ⟨u, hu⟩ := (hrel q j hj).2 hjd
    obtain ⟨Bs, hx, hp⟩ := hM.read q hms hz hu
    have hoth : ∀ m ∈ ms.eraseIdx q, m.d ∉ oi.looksAt ops := fun m hm hd => by
      obtain ⟨i', hi', hm'⟩ := List.mem_eraseIdx_iff_getElem?.1 hm
      have h1 := List.all_eq_true.1 hlook m.d hd
      simp only [Bool.or_eq_true, beq_iff_eq, List.getElem?_map, hms, Option.map_some, Option.some.injEq] at h1
      rcases h1 with h1 | h1
      · exact not_contains h1 (List.mem_map.2 ⟨m, List.mem_of_getElem? hm', rfl⟩) rfl
      · exact mk_apart hA.ds hm' hms hi' h1.symm
    have hy := hread u Bs (s'.1 ++ (Ns.set q []).flatten) (Sim.more S s'.1 _) hx
    refine OW.quiet (v := v) (C := Cl w0 (s'.1 ++ Ns.flatten)) ho ?_ hC fun w' hw' => ?_
    · rw [puts_first ms vs a q hA.ds hms hu]
      refine yields_iff ?_ (hy.of_same (puts_exec (hsel i oi · · ho) _ _ _ hoth) (puts_wanted _ _ _ hoth))
      intro w
      have hp' : (s'.1 ++ Ns.flatten).Perm (s'.1 ++ (Ns.set q []).flatten ++ Bs) := by rw [List.append_assoc]; exact hp.append_left _
      exact ⟨fun h => h.perm hp', fun h => h.perm hp'.symm⟩
    · rw [puts_put ms vs a (dst_none hdst)]
      have := hK vs Ns w' hM (hrel' fun q => by rw [hkd]; rfl) hw'
      rwa [hkd] at this
  | tail =>
    rw [hkd] at hk
    exact hk.elim

/-- Whatever order: the makers' values and blocks beside what is known anyway. -/
theorem anyC_any {N : Nat} {kd : Nat → Kd} {ix : List Nat} {R : Act → St → Prop} {U : Nat → Array Bool → Act → St → Prop} (hA : AllB md ops ms ix kd)
    (hsel : ∀ (j : Nat) (o : Oper) cs b, ops[j]? = some o → o.op ≠ .select cs b)
    (hR : ∀ a s vs Ns w, Made ms s.2 vs Ns → (∀ v ∈ vs, v.isSome = true) → Cl w0 (s.1 ++ Ns.flatten) w → R a s → Q .normal (puts a ms vs) w)
    (hT : ∀ f done a s vs Ns w, Made ms s.2 vs Ns → (∀ v ∈ vs, v.isSome = true) → Cl w0 (s.1 ++ Ns.flatten) w → a.tmps.size = N → U f done a s → AW r m P md ops Q f done (puts a ms vs) w) (f : Nat) :
    ∀ (done : Array Bool) (a : Act) (s : St) (vs : List (Option Value)) (Ns : List (List Blk)) (w : World), Made ms s.2 vs Ns → (∀ (q i : Nat), ix[q]? = some i → ((∃ v, vs[q]? = some (some v)) ↔ done.getD i false = true)) → (∀ m ∈ ms, m.d < a.tmps.size) → a.tmps.size = N →
      Cl w0 (s.1 ++ Ns.flatten) w → anyC P md ops w0 S ms kd ix R U f done a s → AW r m P md ops Q f done (puts a ms vs) w := by
  have full : ∀ {done : Array Bool} {vs : List (Option Value)}, vs.length = ms.length → (∀ (q i : Nat), ix[q]? = some i → ((∃ v, vs[q]? = some (some v)) ↔ done.getD i false = true)) → madeB ix done = true → ∀ v ∈ vs, v.isSome = true := by
    intro done vs hl hrel hm v hv
    obtain ⟨q, hq⟩ := List.getElem?_of_mem hv
    have hlt := (List.getElem?_eq_some_iff.1 hq).1
    have hq2 : ix[q]? = some (ix[q]'(by rw [hA.len]; omega)) := List.getElem?_eq_getElem _
    have hd : done.getD (ix[q]'(by rw [hA.len]; omega)) false = true := List.all_eq_true.1 hm _ (List.getElem_mem _)
    obtain ⟨u, hu⟩ := (hrel q _ hq2).2 hd
    rw [hq] at hu
    injection hu with hu
    rw [hu]; rfl
  induction f with
  | zero =>
    intro done a s vs Ns w hM hrel hsz hN hC h
    exact AW.zero h.1 (hR a s vs Ns w hM (full hM.len hrel h.2.1) hC h.2.2)
  | succ f ih =>
    intro done a s vs Ns w hM hrel hsz hN hC h
    rcases h.2 with ⟨_, hmade, hU⟩ | h2
    · exact hT _ done a s vs Ns w hM (full hM.len hrel hmade) hC hN hU
    refine AW.succ h.1 fun i hi => ?_
    obtain ⟨oi, ho, v, s', hk, hn⟩ := h2 i hi
    refine step_any hA hsel hM hrel hsz hC hi ho hk fun vs' Ns' w' hM' hrel' hC' => ?_
    have hs2 : (putK (kd i) a oi.dst v).tmps.size = a.tmps.size := by cases kd i <;> simp [putK, put_size]
    exact ih _ _ s' vs' Ns' w' hM' hrel' (fun m hm => by rw [hs2]; exact hsz m hm) (by rw [hs2]; exact hN) hC' hn

/-! ### operations that may change places -/
theorem execs_put {x : Oper} {u : Value} (hs : ∀ cs b, o.op ≠ .select cs b) (hl : ∀ d, x.dst = some d → d ∉ o.looksAt ops) : execOp (a.put x.dst u).eval o = execOp a.eval o := execOp_put o hs a x.dst u hl
theorem StepK.eq {k : Kd} {s s' : St} {x : Oper} {u v : Value} (hs : ∀ cs b, o.op ≠ .select cs b) (hl : ∀ d, x.dst = some d → d ∉ o.looksAt ops) : StepK P ops w0 S ms k o (a.put x.dst u) s v s' ↔ StepK P ops w0 S ms k o a s v s' := by
  have e1 : execOp (a.put x.dst u).eval o = execOp a.eval o := execs_put hs hl
  have e2 : Region.wanted o (yielded ops (a.put x.dst u).tmps) = Region.wanted o (yielded ops a.tmps) := wanted_put o a x.dst u hl
  have e3 : ∀ C : World → Prop, YieldsIn P ops C o v (a.put x.dst u) ↔ YieldsIn P ops C o v a := fun C => by
    unfold YieldsIn Oper.quietAt
    rw [e1, e2]
  cases k with
  | q => simp only [StepK, e3]
  | r => simp only [StepK, e3]
  | s => simp only [StepK, e1, e2]
  | mk i => simp only [StepK, MakesIn, e1]
  | st i =>
    have e4 : ∀ k vs, StoresM P o (a.put x.dst u) w0 k vs ↔ StoresM P o a w0 k vs := fun k vs => by
      have key : ∀ t y, o.op = .store t (.tmp k.d) y → (a.put x.dst u).eval y = a.eval y := fun t y ho => Act.eval_put fun d hd e => by
        subst e
        exact hl d hd (List.mem_append_left _ (List.mem_filterMap.2 ⟨.tmp d, by rw [ho]; simp [Op.operands], rfl⟩))
      constructor
      · rintro ⟨t, y, ho, h⟩
        exact ⟨t, y, ho, by rw [key t y ho] at h; exact h⟩
      · rintro ⟨t, y, ho, h⟩
        exact ⟨t, y, ho, by rw [key t y ho]; exact h⟩
    simp only [StepK, e4]
  | rd i =>
    have e5 : ∀ k z, ReadsM P ops o (a.put x.dst u) w0 S s.1 k z v ↔ ReadsM P ops o a w0 S s.1 k z v := fun k z => by
      have key : ∀ y C, YieldsIn P ops C o v ((a.put x.dst u).put (some k.d) y) ↔ YieldsIn P ops C o v (a.put (some k.d) y) := fun y C => by
        by_cases hd : x.dst = some k.d
        · rw [hd, put_put]
        · rw [Act.put_comm a u y fun d h1 h2 => hd (h1.trans h2.symm)]
          unfold YieldsIn Oper.quietAt
          rw [execs_put hs hl, wanted_put o _ x.dst u hl]
      unfold ReadsM
      simp only [key]
    simp only [StepK, e5]
  | mkd i j =>
    have e6 : ∀ (kj : Mk) (y : Value), execOp ((a.put x.dst u).put (some kj.d) y).eval o = execOp (a.put (some kj.d) y).eval o := fun kj y => by
      by_cases hd : x.dst = some kj.d
      · rw [hd, put_put]
      · rw [Act.put_comm a u y fun d h1 h2 => hd (h1.trans h2.symm), execs_put hs hl]
    simp only [StepK, MakesIn, e6]
  | tail => simp only [StepK]
theorem StepK.eqK {j k : Kd} {s s' : St} {x : Oper} {u v : Value} (hs : ∀ cs b, o.op ≠ .select cs b) (hl : ∀ d, x.dst = some d → d ∉ o.looksAt ops) : StepK P ops w0 S ms k o (putK j a x.dst u) s v s' ↔ StepK P ops w0 S ms k o a s v s' := by
  cases j with
  | mk i => exact Iff.rfl
  | mkd i j => exact Iff.rfl
  | _ => exact StepK.eq hs hl
theorem putK_comm {j k : Kd} {x y : Option Tmp} (v u : Value) (h : ∀ d, x = some d → y ≠ some d) : putK k (putK j a x v) y u = putK j (putK k a y u) x v := by
  cases j <;> cases k <;> first | rfl | exact Act.put_comm a v u h

/-- two steps that may change places -/
theorem StepK.swap {k m : Kd} {oi oj : Oper} {v u : Value} {s s1 s2 : St} (hm : mayB k m = true) (hi : StepK P ops w0 S ms k oi a s v s1) (hj : StepK P ops w0 S ms m oj a s1 u s2) :
    ∃ s3, StepK P ops w0 S ms m oj a s u s3 ∧ StepK P ops w0 S ms k oi a s3 v s2 := by
  obtain ⟨L, V⟩ := s
  cases k with
  | tail => exact hi.elim
  | q =>
    obtain ⟨h1, rfl⟩ := hi
    cases m with
    | tail => exact hj.elim
    | q => obtain ⟨h2, rfl⟩ := hj; exact ⟨_, ⟨h2, rfl⟩, h1, rfl⟩
    | r => obtain ⟨h2, rfl⟩ := hj; exact ⟨_, ⟨h2, rfl⟩, h1, rfl⟩
    | mk j => obtain ⟨h2, rfl, h3⟩ := hj; exact ⟨_, ⟨h2, rfl, h3⟩, h1, rfl⟩
    | mkd j l => obtain ⟨h2, rfl, h3⟩ := hj; exact ⟨_, ⟨h2, rfl, h3⟩, h1, rfl⟩
    | rd j => obtain ⟨rfl, h2⟩ := hj; exact ⟨_, ⟨rfl, h2⟩, h1, rfl⟩
    | st j => obtain ⟨e, k', vs, h2, h3, rfl⟩ := hj; exact ⟨_, ⟨e, k', vs, h2, h3, rfl⟩, h1, rfl⟩
    | s => obtain ⟨e, h2, h3, h4, h5, h6⟩ := hj; exact ⟨s2, ⟨e, h2, h3, h4, h5, h6⟩, fun L2 hL => h1 L2 (h4.trans hL), rfl⟩
  | r =>
    obtain ⟨h1, rfl⟩ := hi
    cases m with
    | tail => exact hj.elim
    | q => obtain ⟨h2, rfl⟩ := hj; exact ⟨_, ⟨h2, rfl⟩, h1, rfl⟩
    | r => obtain ⟨h2, rfl⟩ := hj; exact ⟨_, ⟨h2, rfl⟩, h1, rfl⟩
    | mk j => obtain ⟨h2, rfl, h3⟩ := hj; exact ⟨_, ⟨h2, rfl, h3⟩, h1, rfl⟩
    | mkd j l => obtain ⟨h2, rfl, h3⟩ := hj; exact ⟨_, ⟨h2, rfl, h3⟩, h1, rfl⟩
    | rd j => obtain ⟨rfl, h2⟩ := hj; exact ⟨_, ⟨rfl, h2⟩, h1, rfl⟩
    | st j => obtain ⟨e, k', vs, h2, h3, rfl⟩ := hj; exact ⟨_, ⟨e, k', vs, h2, h3, rfl⟩, h1, rfl⟩
    | s => cases hm
  | s =>
    obtain ⟨e0, g1, g2, g3, g4, g5⟩ := hi
    cases m with
    | tail => exact hj.elim
    | q => obtain ⟨h2, rfl⟩ := hj; exact ⟨(L, V), ⟨fun L2 hL => h2 L2 (g4.trans hL), rfl⟩, e0, g1, g2, g3, g4, g5⟩
    | r => cases hm
    | s => cases hm
    | mk j =>
      obtain ⟨h2, rfl, k', z, h3, h4, h5⟩ := hj
      exact ⟨(L, V), ⟨h2, rfl, k', z, h3, by rw [← g5]; exact h4, fun L2 hL => h5 L2 (g4.trans hL)⟩, e0, g1, g2, g3, g4, g5⟩
    | mkd j l =>
      obtain ⟨h2, rfl, k', z, kj, zj, h3, h4, h5, h6, h7⟩ := hj
      exact ⟨(L, V), ⟨h2, rfl, k', z, kj, zj, h3, by rw [← g5]; exact h4, h5, by rw [← g5]; exact h6, fun y Bs L2 hL => h7 y Bs L2 (g4.trans hL)⟩, e0, g1, g2, g3, g4, g5⟩
    | st j =>
      obtain ⟨e, k', vs, h2, h3, rfl⟩ := hj
      exact ⟨(L, V.set j vs), ⟨e, k', vs, h2, h3, rfl⟩, e0, g1, g2, g3, g4, by show s1.2.set j vs = V.set j vs; rw [g5]⟩
    | rd j =>
      obtain ⟨rfl, k', z, h3, h4, h5⟩ := hj
      exact ⟨(L, V), ⟨rfl, k', z, h3, by rw [← g5]; exact h4, fun y Bs L2 hL hX => h5 y Bs L2 (g4.trans hL) hX⟩, e0, g1, g2, g3, g4, g5⟩
  | mk i =>
    obtain ⟨h1, rfl, k1, z1, h2, h3, h4⟩ := hi
    cases m with
    | tail => exact hj.elim
    | q => obtain ⟨g2, rfl⟩ := hj; exact ⟨_, ⟨g2, rfl⟩, h1, rfl, k1, z1, h2, h3, h4⟩
    | r => obtain ⟨g2, rfl⟩ := hj; exact ⟨_, ⟨g2, rfl⟩, h1, rfl, k1, z1, h2, h3, h4⟩
    | mk j => obtain ⟨g2, rfl, g3⟩ := hj; exact ⟨_, ⟨g2, rfl, g3⟩, h1, rfl, k1, z1, h2, h3, h4⟩
    | mkd j l => obtain ⟨g2, rfl, g3⟩ := hj; exact ⟨_, ⟨g2, rfl, g3⟩, h1, rfl, k1, z1, h2, h3, h4⟩
    | rd j => obtain ⟨rfl, g2⟩ := hj; exact ⟨_, ⟨rfl, g2⟩, h1, rfl, k1, z1, h2, h3, h4⟩
    | s =>
      obtain ⟨e, g2, g3, g4, g5, g6⟩ := hj
      exact ⟨s2, ⟨e, g2, g3, g4, g5, g6⟩, h1, rfl, k1, z1, h2, by rw [g6]; exact h3, fun L2 hL => h4 L2 (g4.trans hL)⟩
    | st j =>
      obtain ⟨e, k', vs, g2, g3, rfl⟩ := hj
      have hne : j ≠ i := fun e => by subst e; simp [mayB, Kd.makes, Kd.looks, neB] at hm
      exact ⟨_, ⟨e, k', vs, g2, g3, rfl⟩, h1, rfl, k1, z1, h2, by show (V.set j vs)[i]? = _; rw [List.getElem?_set_ne hne]; exact h3, h4⟩
  | mkd i l =>
    obtain ⟨h1, rfl, k1, z1, kl, zl, h2, h3, h4, h5, h6⟩ := hi
    cases m with
    | tail => exact hj.elim
    | q => obtain ⟨g2, rfl⟩ := hj; exact ⟨_, ⟨g2, rfl⟩, h1, rfl, k1, z1, kl, zl, h2, h3, h4, h5, h6⟩
    | r => obtain ⟨g2, rfl⟩ := hj; exact ⟨_, ⟨g2, rfl⟩, h1, rfl, k1, z1, kl, zl, h2, h3, h4, h5, h6⟩
    | mk j => obtain ⟨g2, rfl, g3⟩ := hj; exact ⟨_, ⟨g2, rfl, g3⟩, h1, rfl, k1, z1, kl, zl, h2, h3, h4, h5, h6⟩
    | mkd j l => obtain ⟨g2, rfl, g3⟩ := hj; exact ⟨_, ⟨g2, rfl, g3⟩, h1, rfl, k1, z1, kl, zl, h2, h3, h4, h5, h6⟩
    | rd j => obtain ⟨rfl, g2⟩ := hj; exact ⟨_, ⟨rfl, g2⟩, h1, rfl, k1, z1, kl, zl, h2, h3, h4, h5, h6⟩
    | s =>
      obtain ⟨e, g2, g3, g4, g5, g6⟩ := hj
      exact ⟨s2, ⟨e, g2, g3, g4, g5, g6⟩, h1, rfl, k1, z1, kl, zl, h2, by rw [g6]; exact h3, h4, by rw [g6]; exact h5, fun y Bs L2 hL hX => h6 y Bs L2 (g4.trans hL) hX⟩
    | st j =>
      obtain ⟨e, k', vs, g2, g3, rfl⟩ := hj
      have hne : j ≠ i := fun e => by subst e; simp [mayB, Kd.makes, Kd.looks, neB] at hm
      have hne2 : j ≠ l := fun e => by subst e; simp [mayB, Kd.makes, Kd.looks, neB] at hm
      exact ⟨_, ⟨e, k', vs, g2, g3, rfl⟩, h1, rfl, k1, z1, kl, zl, h2, by show (V.set j vs)[i]? = _; rw [List.getElem?_set_ne hne]; exact h3, h4, by show (V.set j vs)[l]? = _; rw [List.getElem?_set_ne hne2]; exact h5, h6⟩
  | rd i =>
    obtain ⟨rfl, k1, z1, h2, h3, h4⟩ := hi
    cases m with
    | tail => exact hj.elim
    | q => obtain ⟨g2, rfl⟩ := hj; exact ⟨_, ⟨g2, rfl⟩, rfl, k1, z1, h2, h3, h4⟩
    | r => obtain ⟨g2, rfl⟩ := hj; exact ⟨_, ⟨g2, rfl⟩, rfl, k1, z1, h2, h3, h4⟩
    | mk j => obtain ⟨g2, rfl, g3⟩ := hj; exact ⟨_, ⟨g2, rfl, g3⟩, rfl, k1, z1, h2, h3, h4⟩
    | mkd j l => obtain ⟨g2, rfl, g3⟩ := hj; exact ⟨_, ⟨g2, rfl, g3⟩, rfl, k1, z1, h2, h3, h4⟩
    | rd j => obtain ⟨rfl, g2⟩ := hj; exact ⟨_, ⟨rfl, g2⟩, rfl, k1, z1, h2, h3, h4⟩
    | s =>
      obtain ⟨e, g2, g3, g4, g5, g6⟩ := hj
      exact ⟨s2, ⟨e, g2, g3, g4, g5, g6⟩, rfl, k1, z1, h2, by rw [g6]; exact h3, fun y Bs L2 hL hX => h4 y Bs L2 (g4.trans hL) hX⟩
    | st j =>
      obtain ⟨e, k', vs, g2, g3, rfl⟩ := hj
      have hne : j ≠ i := fun e => by subst e; simp [mayB, Kd.makes, Kd.looks, neB] at hm
      exact ⟨_, ⟨e, k', vs, g2, g3, rfl⟩, rfl, k1, z1, h2, by rw [List.getElem?_set_ne hne]; exact h3, h4⟩
  | st i =>
    obtain ⟨h1, k1, vs1, h2, h3, rfl⟩ := hi
    cases m with
    | tail => exact hj.elim
    | q => obtain ⟨g2, rfl⟩ := hj; exact ⟨(L, V), ⟨g2, rfl⟩, h1, k1, vs1, h2, h3, rfl⟩
    | r => obtain ⟨g2, rfl⟩ := hj; exact ⟨(L, V), ⟨g2, rfl⟩, h1, k1, vs1, h2, h3, rfl⟩
    | mk j =>
      obtain ⟨g2, rfl, k', z, g3, g4, g5⟩ := hj
      have hne : i ≠ j := fun e => by subst e; simp [mayB, Kd.makes, Kd.looks, neB] at hm
      exact ⟨(L, V), ⟨g2, rfl, k', z, g3, by rw [← g4]; show V[j]? = (V.set i vs1)[j]?; rw [List.getElem?_set_ne hne], g5⟩, h1, k1, vs1, h2, h3, rfl⟩
    | mkd j l =>
      obtain ⟨g2, rfl, k', z, kl, zl, g3, g4, g5, g6, g7⟩ := hj
      have hne : i ≠ j := fun e => by subst e; simp [mayB, Kd.makes, Kd.looks, neB] at hm
      have hne2 : i ≠ l := fun e => by subst e; simp [mayB, Kd.makes, Kd.looks, neB] at hm
      exact ⟨(L, V), ⟨g2, rfl, k', z, kl, zl, g3, by rw [← g4]; show V[j]? = (V.set i vs1)[j]?; rw [List.getElem?_set_ne hne], g5, by rw [← g6]; show V[l]? = (V.set i vs1)[l]?; rw [List.getElem?_set_ne hne2], g7⟩, h1, k1, vs1, h2, h3, rfl⟩
    | s =>
      obtain ⟨e, g2, g3, g4, g5, g6⟩ := hj
      refine ⟨(s2.1, V), ⟨e, g2, g3, g4, g5, rfl⟩, h1, k1, vs1, h2, h3, ?_⟩
      have : s2.2 = V.set i vs1 := g6
      rw [← this]
    | st j =>
      obtain ⟨e, k', vs, g2, g3, rfl⟩ := hj
      have hne : i ≠ j := fun e => by subst e; simp [mayB, Kd.makes, Kd.looks, neB] at hm
      exact ⟨(L, V.set j vs), ⟨e, k', vs, g2, g3, rfl⟩, h1, k1, vs1, h2, h3, by show (L, (V.set i vs1).set j vs) = (L, (V.set j vs).set i vs1); rw [List.set_comm _ _ hne]⟩
    | rd j =>
      obtain ⟨rfl, k', z, g3, g4, g5⟩ := hj
      have hne : i ≠ j := fun e => by subst e; simp [mayB, Kd.makes, Kd.looks, neB] at hm
      exact ⟨(L, V), ⟨rfl, k', z, g3, by rw [← g4]; show V[j]? = (V.set i vs1)[j]?; rw [List.getElem?_set_ne hne], g5⟩, h1, k1, vs1, h2, h3, rfl⟩

def Closed (md : Region.Mode) (ops : Array Oper) (done : Array Bool) : Prop := ∀ j oj, ops[j]? = some oj → done.getD j false = true → ∀ e ∈ oj.after, Region.binds md e = true → done.getD e.on false = true
/-- what operation j waits for, be it through others: bit i for operation i, M being the numbers of those ahead of it -/
def maskOf (md : Region.Mode) (M : List Nat) (j : Nat) : List Edge → Nat
  | [] => 0
  | e :: l => if Region.binds md e && Nat.blt e.on j then 2 ^ e.on ||| (M.getD e.on 0 ||| maskOf md M j l) else maskOf md M j l
theorem maskOf_bit {M : List Nat} {j i : Nat} : ∀ l, (maskOf md M j l).testBit i = true → ∃ e ∈ l, Region.binds md e = true ∧ e.on < j ∧ (e.on = i ∨ (M.getD e.on 0).testBit i = true)
  | [], h => by simp [maskOf] at h
  | e :: l, h => by
    unfold maskOf at h
    by_cases hb : (Region.binds md e && Nat.blt e.on j) = true
    · rw [if_pos hb] at h
      simp only [Bool.and_eq_true, Nat.blt_eq] at hb
      rw [Nat.testBit_or, Nat.testBit_or, Bool.or_eq_true, Bool.or_eq_true] at h
      rcases h with h | h | h
      · rw [Nat.testBit_two_pow] at h
        exact ⟨e, by simp, hb.1, hb.2, .inl (by simpa using h)⟩
      · exact ⟨e, by simp, hb.1, hb.2, .inr h⟩
      · obtain ⟨e', he, h⟩ := maskOf_bit l h
        exact ⟨e', by simp [he], h⟩
    · rw [if_neg hb] at h
      obtain ⟨e', he, h⟩ := maskOf_bit l h
      exact ⟨e', by simp [he], h⟩
def masksB (md : Region.Mode) (ops : Array Oper) (M : List Nat) : Bool := (List.range ops.size).all fun j => match ops[j]? with
  | some oj => M.getD j 0 == maskOf md M j oj.after.toList
  | none => true
theorem masks_done {M : List Nat} (hM : masksB md ops M = true) {done : Array Bool} (hc : Closed md ops done) {i : Nat} : ∀ (j : Nat) (oj : Oper), ops[j]? = some oj → (∀ e ∈ oj.after, Region.binds md e = true → done.getD e.on false = true) → (M.getD j 0).testBit i = true → done.getD i false = true := by
  intro j
  induction j using Nat.strongRecOn with
  | _ j ih =>
    intro oj ho hall h
    have := List.all_eq_true.1 hM j (List.mem_range.2 (Array.getElem?_eq_some_iff.1 ho).1)
    rw [ho] at this
    simp only [beq_iff_eq] at this
    rw [this] at h
    obtain ⟨e, he, hb, hlt, h⟩ := maskOf_bit _ h
    have hd := hall e (by simpa using he) hb
    rcases h with rfl | h
    · exact hd
    · have hs : e.on < ops.size := Nat.lt_trans hlt (Array.getElem?_eq_some_iff.1 ho).1
      have hoe : ops[e.on]? = some ops[e.on] := by simp [hs]
      exact ih e.on hlt _ hoe (hc e.on _ hoe hd) h
theorem Closed.set {done : Array Bool} (hc : Closed md ops done) {i : Nat} (hi : i ∈ Region.ready md ops done) : Closed md ops (done.setIfInBounds i true) := by
  intro j oj hj hd e he hb
  obtain ⟨_, oi, hoi, hall⟩ := mem_ready.1 hi
  by_cases hij : i = j
  · subst hij
    obtain rfl : oj = oi := Option.some.inj (hj.symm.trans hoi)
    exact getD_set_true (hall e he hb)
  · rw [getD_set_ne false hij] at hd
    exact getD_set_true (hc j oj hj hd e he hb)

theorem anyC_first {kd : Nat → Kd} {ix : List Nat} {R : Act → St → Prop} {U : Nat → Array Bool → Act → St → Prop} {i : Nat} {oi : Oper} {M : List Nat} (hM : masksB md ops M = true) (hi : ops[i]? = some oi) (hsel : ∀ (j : Nat) (o : Oper) cs b, ops[j]? = some o → o.op ≠ .select cs b) (f : Nat) :
    ∀ (done : Array Bool) (a : Act) (s : St) (v : Value) (s1 : St), Closed md ops done →
      (∀ j oj, ops[j]? = some oj → j ≠ i → done.getD j true = false → (M.getD j 0).testBit i = false → oi.apart ops oj = true ∧ mayB (kd i) (kd j) = true) →
      i ∈ Region.ready md ops done → StepK P ops w0 S ms (kd i) oi a s v s1 →
      anyC P md ops w0 S ms kd ix R U f (done.setIfInBounds i true) (putK (kd i) a oi.dst v) s1 → anyC P md ops w0 S ms kd ix R U (f + 1) done a s := by
  induction f with
  | zero =>
    intro done a s v s1 _ _ hr hy H
    refine ⟨List.ne_nil_of_mem hr, .inr fun j hj => ?_⟩
    by_cases hji : j = i
    · subst hji; exact ⟨oi, hi, v, s1, hy, H⟩
    · have := ready_mono hj hji
      rw [H.1] at this; cases this
  | succ f ih =>
    intro done a s v s1 hc hfree hr hy H
    have hun := (mem_ready.1 hr).1
    refine ⟨List.ne_nil_of_mem hr, .inr fun j hj => ?_⟩
    by_cases hji : j = i
    · subst hji; exact ⟨oi, hi, v, s1, hy, H⟩
    · obtain ⟨hjun, oj', hoj', hall⟩ := mem_ready.1 hj
      have hnot : (M.getD j 0).testBit i = false := by
        cases hd : (M.getD j 0).testBit i with
        | false => rfl
        | true =>
          have := masks_done hM hc j oj' hoj' hall hd
          rw [getD_false_both hun] at this; cases this
      obtain ⟨hap, hm⟩ := hfree j oj' hoj' hji hjun hnot
      obtain ⟨h1, h2, h3⟩ := Oper.apart_spec hap
      rcases H.2 with ⟨hcut, _, _⟩ | H2
      · have := List.all_eq_true.1 hcut j (List.mem_range.2 (Array.getElem?_eq_some_iff.1 hoj').1)
        rw [getD_set_ne true (Ne.symm hji), hjun, Bool.false_or] at this
        cases hkj : kd j with
        | tail => rw [hkj] at hm; cases hki : kd i <;> rw [hki] at hm <;> cases hm
        | _ => rw [hkj] at this; cases this
      obtain ⟨oj, hoj, u, s2, hsj, hK⟩ := H2 j (ready_mono hj hji)
      obtain rfl : oj' = oj := Option.some.inj (hoj'.symm.trans hoj)
      obtain ⟨s3, hj3, hi3⟩ := StepK.swap hm hy ((StepK.eqK (hsel j oj' · · hoj) h1).1 hsj)
      refine ⟨oj', hoj, u, s3, hj3, ih _ _ s3 v s2 (hc.set hj) (fun k ok hk hki hun' hno => hfree k ok hk hki ?_ hno) (ready_mono hr (Ne.symm hji)) ((StepK.eqK (hsel i oi · · hi) h3).2 hi3) ?_⟩
      · by_cases hjk : j = k
        · subst hjk; exact hjun
        · rw [getD_set_ne true hjk] at hun'; exact hun'
      · rw [Array.setIfInBounds_comm _ _ hji, ← putK_comm v u h2]; exact hK

/-- the order in which the operations are written is one that they may have, and each may be taken first -/
def lexK (md : Region.Mode) (ops : Array Oper) (kd : Nat → Kd) (ix : List Nat) (M : List Nat) (tl : Nat → Nat → Array Bool → Bool) : Nat → Nat → Array Bool → Bool
  | 0, _, done => (Region.ready md ops done).isEmpty && madeB ix done
  | f + 1, k, done => match kd k with
    | .tail => cutB ops kd done && madeB ix done && !(Region.ready md ops done).isEmpty && tl (f + 1) k done
    | _ => (Region.ready md ops done).contains k && ((List.range ops.size).all fun j => j == k || done.getD j true || (M.getD j 0).testBit k || match ops[k]?, ops[j]? with
      | some ok, some oj => ok.apart ops oj && mayB (kd k) (kd j)
      | _, _ => false) && lexK md ops kd ix M tl f (k + 1) (done.setIfInBounds k true)

theorem anyC_lex {kd : Nat → Kd} {ix : List Nat} {R : Act → St → Prop} {T : List Oper → Act → St → Prop} {U : Nat → Array Bool → Act → St → Prop} {M : List Nat} {tl : Nat → Nat → Array Bool → Bool} (hM : masksB md ops M = true) (hsel : Region.noSelect ops = true)
    (hU : ∀ l k done a s, Closed md ops done → (∀ j, l[j]? = ops[k + j]?) → tl l.length k done = true → T l a s → U l.length done a s) : ∀ (l : List Oper) (ks : List Kd) (k : Nat) (done : Array Bool) (a : Act) (s : St), Closed md ops done →
    (∀ j, l[j]? = ops[k + j]?) → (∀ j x, ks[j]? = some x → x = kd (k + j)) →
    lexK md ops kd ix M tl l.length k done = true → lx P ops w0 S ms R T ks l a s → anyC P md ops w0 S ms kd ix R U l.length done a s
  | [], _, _, _, _, _, _, _, _, hB, h => by
    simp only [List.length_nil, lexK, Bool.and_eq_true] at hB
    exact ⟨by simpa using hB.1, hB.2, by simpa [lx] using h⟩
  | o :: l, [], _, _, _, _, _, _, _, _, h => h.elim
  | o :: l, x :: ks, k, done, a, s, hc, hl, hk, hB, h => by
    have h0 : ops[k]? = some o := by simpa using (hl 0).symm
    have hx : x = kd k := by simpa using hk 0 x (by simp)
    have step : ∀ (v : Value) (s' : St), (Region.ready md ops done).contains k = true → ((List.range ops.size).all fun j => j == k || done.getD j true || (M.getD j 0).testBit k || match ops[k]?, ops[j]? with
        | some ok, some oj => ok.apart ops oj && mayB (kd k) (kd j)
        | _, _ => false) = true → lexK md ops kd ix M tl l.length (k + 1) (done.setIfInBounds k true) = true →
        StepK P ops w0 S ms (kd k) o a s v s' → lx P ops w0 S ms R T ks l (putK (kd k) a o.dst v) s' → anyC P md ops w0 S ms kd ix R U (l.length + 1) done a s := by
      intro v s' hr hf hB' hs hn
      have hr' : k ∈ Region.ready md ops done := by simpa using hr
      refine anyC_first hM h0 (Region.noSelect_spec hsel) l.length done a s v s' hc (fun j oj hj hne hun hno => ?_) hr' hs
        (anyC_lex hM hsel hU l ks (k + 1) _ _ _ (hc.set hr') (fun j => by have := hl (j + 1); simpa [Nat.add_assoc, Nat.add_comm 1 j] using this) (fun j y hy => by have := hk (j + 1) y (by simpa using hy); simpa [Nat.add_assoc, Nat.add_comm 1 j] using this) hB' hn)
      have := List.all_eq_true.1 hf j (List.mem_range.2 (Array.getElem?_eq_some_iff.1 hj).1)
      simp only [Bool.or_eq_true, beq_iff_eq, hne, false_or, hun, Bool.false_eq_true, hno, h0, hj, Bool.and_eq_true] at this
      exact this
    simp only [List.length_cons, lexK] at hB
    subst hx
    cases hkd : kd k with
    | tail =>
      rw [hkd] at hB h
      simp only [Bool.and_eq_true] at hB
      exact ⟨by have := hB.1.2; intro e; rw [e] at this; simp at this, .inl ⟨hB.1.1.1, hB.1.1.2, hU (o :: l) k done a s hc hl hB.2 h⟩⟩
    | _ =>
      rw [hkd] at hB h
      simp only [Bool.and_eq_true] at hB
      obtain ⟨v, s', hs, hn⟩ := h
      exact step v s' hB.1.1 (by rw [hkd]; exact hB.1.2) hB.2 (by rw [hkd]; exact hs) (by rw [hkd]; exact hn)

/-- a region whose tail is in order -/
def regionB (ops : Array Oper) (ks : List Kd) (D ix M : List Nat) : Bool :=
  Region.noSelect ops && allB .any ops D ix (fun j => ks.getD j .tail) && masksB .any ops M && lexK .any ops (fun j => ks.getD j .tail) ix M (seqB .any ops) ops.size 0 (Array.replicate ops.size false)
/-- a region whose tail is in any order again -/
def regionB2 (ops : Array Oper) (ks ks2 : List Kd) (D ix M D2 ix2 : List Nat) : Bool :=
  Region.noSelect ops && allB .any ops D ix (fun j => ks.getD j .tail) && masksB .any ops M && allB .any ops D2 ix2 (fun j => ks2.getD j .tail) &&
    lexK .any ops (fun j => ks.getD j .tail) ix M (fun f k done => (ix2.all fun i => !done.getD i false) && lexK .any ops (fun j => ks2.getD j .tail) ix2 M (fun _ _ _ => false) f k done) ops.size 0 (Array.replicate ops.size false)

/-- what is left to show when all makers have been at work -/
def Full : List Mk → List (List Value) → Act → List Blk → (Act → List Blk → Prop) → Prop
  | k :: ms, z :: V, a, L, K => ∀ v Bs, k.X z v Bs → Full ms V (a.put (some k.d) v) (Bs ++ L) K
  | _, _, a, L, K => K a L
theorem Full.use {K : Act → List Blk → Prop} : ∀ {ms : List Mk} {V : List (List Value)} {vs : List (Option Value)} {Ns : List (List Blk)} {a : Act} {L : List Blk}, Made ms V vs Ns → (∀ v ∈ vs, v.isSome = true) → Full ms V a L K → ∃ L', (L ++ Ns.flatten).Perm L' ∧ K (puts a ms vs) L'
  | _, _, _, _, a, L, .nil, _, h => ⟨L, by simp, by simpa [Full, puts] using h⟩
  | _, _, _, _, a, L, .no _, hs, _ => by have := hs none (by simp); cases this
  | _, _, _, _, a, L, .yes hx hm, hs, h => by
    obtain ⟨L', hp, hk⟩ := Full.use hm (fun v hv => hs v (by simp [hv])) (h _ _ hx)
    refine ⟨L', List.Perm.trans ?_ hp, by simpa [puts] using hk⟩
    rw [List.flatten_cons, ← List.append_assoc]
    exact List.perm_append_comm.append_right _
theorem none_made : ∀ (ms : List Mk) (V : List (List Value)), V.length = ms.length → Made ms V (List.replicate ms.length none) (List.replicate ms.length [])
  | [], V, hV => by obtain rfl : V = [] := List.eq_nil_of_length_eq_zero hV; exact Made.nil
  | k :: ms, [], hV => by simp at hV
  | k :: ms, z :: V, hV => .no (none_made ms V (by simpa using hV))
theorem none_puts : ∀ (ms : List Mk) (n : Nat) (a : Act), puts a ms (List.replicate n none) = a
  | [], n, a => by simp [puts]
  | k :: ms, 0, a => by simp [puts]
  | k :: ms, n + 1, a => by rw [List.replicate_succ, puts]; exact none_puts ms n a
theorem none_done (n j : Nat) : (Array.replicate n false).getD j false = false := by
  rcases Nat.lt_or_ge j n with h | h
  · simp [h]
  · simp [h]
theorem region_AW {a0 : Act} (hW : Cl w0 L W) {l : List Oper} {kd : Nat → Kd} {M ix : List Nat} {S : List Nat} {ms : List Mk} {V : List (List Value)} {R : Act → St → Prop} {T : List Oper → Act → St → Prop} {U : Nat → Array Bool → Act → St → Prop} {tl : Nat → Nat → Array Bool → Bool} {ks : List Kd}
    (hsel : Region.noSelect l.toArray = true) (hall : allB .any l.toArray (ms.map Mk.d) ix kd = true) (hM : masksB .any l.toArray M = true) (hlex : lexK .any l.toArray kd ix M tl l.toArray.size 0 (Array.replicate l.toArray.size false) = true) (hk : ∀ j x, ks[j]? = some x → x = kd j) (hV : V.length = ms.length) (hd : ∀ k ∈ ms, k.d < a0.tmps.size)
    (hU : ∀ l' k done a s, Closed .any l.toArray done → (∀ j, l'[j]? = l.toArray[k + j]?) → tl l'.length k done = true → T l' a s → U l'.length done a s)
    (hR : ∀ a s vs Ns w, Made ms s.2 vs Ns → (∀ v ∈ vs, v.isSome = true) → Cl w0 (s.1 ++ Ns.flatten) w → R a s → Q .normal (puts a ms vs) w)
    (hT : ∀ f done a s vs Ns w, Made ms s.2 vs Ns → (∀ v ∈ vs, v.isSome = true) → Cl w0 (s.1 ++ Ns.flatten) w → a.tmps.size = a0.tmps.size → U f done a s → AW r m P .any l.toArray Q f done (puts a ms vs) w)
    (h : lx P l.toArray w0 S ms R T ks l a0 (L, V)) : AW r m P .any l.toArray Q l.toArray.size (Array.replicate l.toArray.size false) a0 W := by
  have h1 := anyC_lex (P := P) (w0 := w0) (S := S) (md := .any) (kd := kd) (ix := ix) hM hsel hU l ks 0 (Array.replicate l.toArray.size false) a0 (L, V) (fun j oj _ hd => by rw [none_done] at hd; cases hd) (fun j => by simp) (fun j x hx => by rw [Nat.zero_add]; exact hk j x hx) (by simpa using hlex) h
  have h2 := anyC_any (P := P) (r := r) (m := m) (Q := Q) (allB_spec hall) (Region.noSelect_spec hsel) hR hT l.length (Array.replicate l.toArray.size false) a0 (L, V) _ _ W (none_made ms V hV) (fun q i hq => by
      constructor
      · rintro ⟨v, hv⟩
        rw [List.getElem?_replicate] at hv
        split at hv
        · injection hv with hv; cases hv
        · cases hv
      · intro hd
        rw [none_done] at hd; cases hd) hd rfl (by
      have : (List.replicate ms.length ([] : List Blk)).flatten = [] := by simp
      rw [this, List.append_nil]
      exact hW) h1
  rw [none_puts] at h2
  simpa using h2
theorem wp_region_lx (hW : Cl w0 L W) {id : Nat} {l : List Oper} (S : List Nat) (ks : List Kd) (ms : List Mk) (V : List (List Value)) (ix M : List Nat) (hm : P.follows .mixedOrders = true) (hB : regionB l.toArray ks (ms.map Mk.d) ix M = true)
    (hV : V.length = ms.length) (hd : ∀ k ∈ ms, k.d < a.tmps.size)
    (h : lx P l.toArray w0 S ms (fun a' s' => Full ms s'.2 a' s'.1 fun a' L' => ∀ w', Cl w0 L' w' → Q .normal a' w') (fun l' a' s' => Full ms s'.2 a' s'.1 fun a' L' => ∀ w', Cl w0 L' w' → LW r m P l.toArray Q l' a' w') ks l a (L, V)) :
    CW r m P (Code.region id l.toArray true) Q a W := by
  simp only [regionB, Bool.and_eq_true] at hB
  obtain ⟨⟨⟨hsel, hall⟩, hM⟩, hlex⟩ := hB
  have H : AW r m P .any l.toArray Q l.toArray.size (Array.replicate l.toArray.size false) a W.drew :=
    region_AW hW.drew (U := fun f done a s => ∃ l' k, l'.length = f ∧ (∀ j, l'[j]? = l.toArray[k + j]?) ∧ seqB .any l.toArray f k done = true ∧ Full ms s.2 a s.1 fun a' L' => ∀ w', Cl w0 L' w' → LW r m P l.toArray Q l' a' w')
      hsel hall hM hlex (fun j x hx => by simp [hx]) hV hd (fun l' k done a s _ hl ht hT => ⟨l', k, rfl, hl, ht, hT⟩)
      (fun a s vs Ns w hM hs hC hR => by obtain ⟨L', hp, hk⟩ := Full.use hM hs hR; exact hk w (hC.perm hp))
      (fun f done a s vs Ns w hM hs hC _ ⟨l', k, hf, hl, ht, hT⟩ => by
        obtain ⟨L', hp, hk⟩ := Full.use hM hs hT
        subst hf
        exact AW_seq l' k done _ w hl ht (hk w (hC.perm hp))) h
  cases r with
  | none => exact wp_region_any hm H
  | some k => exact wpIn_region_any hm H
theorem wp_region_lx2 (hW : Cl w0 L W) {id : Nat} {l : List Oper} (S : List Nat) (ks : List Kd) (ms : List Mk) (V : List (List Value)) (ix M S2 : List Nat) (ks2 : List Kd) (ms2 : List Mk) (V2 : List (List Value)) (ix2 : List Nat) (hm : P.follows .mixedOrders = true) (hB : regionB2 l.toArray ks ks2 (ms.map Mk.d) ix M (ms2.map Mk.d) ix2 = true)
    (hV : V.length = ms.length) (hV2 : V2.length = ms2.length) (hd2 : ∀ k ∈ ms2, k.d < a.tmps.size) (hd : ∀ k ∈ ms, k.d < a.tmps.size)
    (h : lx P l.toArray w0 S ms (fun a' s' => Full ms s'.2 a' s'.1 fun a' L' => ∀ w', Cl w0 L' w' → Q .normal a' w')
      (fun l' a' s' => Full ms s'.2 a' s'.1 fun a' L' => lx P l.toArray w0 S2 ms2 (fun a' s' => Full ms2 s'.2 a' s'.1 fun a' L' => ∀ w', Cl w0 L' w' → Q .normal a' w') (fun _ _ _ => False) (ks2.drop (l.length - l'.length)) l' a' (L', V2)) ks l a (L, V)) :
    CW r m P (Code.region id l.toArray true) Q a W := by
  simp only [regionB2, Bool.and_eq_true] at hB
  obtain ⟨⟨⟨⟨hsel, hall⟩, hM⟩, hall2⟩, hlex⟩ := hB
  have H : AW r m P .any l.toArray Q l.toArray.size (Array.replicate l.toArray.size false) a W.drew :=
    region_AW hW.drew (U := fun f done a s => ∃ l' k, l'.length = f ∧ (∀ j, l'[j]? = l.toArray[k + j]?) ∧ Closed .any l.toArray done ∧ ((ix2.all fun i => !done.getD i false) && lexK .any l.toArray (fun j => ks2.getD j .tail) ix2 M (fun _ _ _ => false) f k done) = true ∧
        Full ms s.2 a s.1 fun a' L' => lx P l.toArray w0 S2 ms2 (fun a' s' => Full ms2 s'.2 a' s'.1 fun a' L' => ∀ w', Cl w0 L' w' → Q .normal a' w') (fun _ _ _ => False) (ks2.drop (l.length - l'.length)) l' a' (L', V2))
      hsel hall hM hlex (fun j x hx => by simp [hx]) hV hd (fun l' k done a s hc hl ht hT => ⟨l', k, rfl, hl, hc, ht, hT⟩)
      (fun a s vs Ns w hM hs hC hR => by obtain ⟨L', hp, hk⟩ := Full.use hM hs hR; exact hk w (hC.perm hp))
      (fun f done a s vs Ns w hMd hs hC hsz ⟨l', k, hf, hl, hc, ht, hT⟩ => by
        simp only [Bool.and_eq_true] at ht
        obtain ⟨hix, ht⟩ := ht
        obtain ⟨L', hp, hk⟩ := Full.use hMd hs hT
        subst hf
        have hlen : l'.length = l.length - k := by
          apply Nat.le_antisymm
          · rcases Nat.lt_or_ge (l.length - k) l'.length with h | h
            · have h1 := hl (l.length - k)
              rw [List.getElem?_eq_getElem h] at h1
              have h2 := (Array.getElem?_eq_some_iff.1 h1.symm).1
              simp at h2; omega
            · exact h
          · rcases Nat.lt_or_ge l'.length (l.length - k) with h | h
            · have h1 := hl l'.length
              rw [List.getElem?_eq_none (Nat.le_refl _)] at h1
              have h2 := Array.getElem?_eq_none_iff.1 h1.symm
              simp at h2; omega
            · exact h
        have hks : ks2.drop (l.length - l'.length) = ks2.drop k ∨ l' = [] := by
          rcases Nat.lt_or_ge l.length k with hk0 | hk0
          · exact .inr (List.eq_nil_of_length_eq_zero (by omega))
          · exact .inl (by rw [show l.length - l'.length = k by omega])
        have hk : lx P l.toArray w0 S2 ms2 (fun a' s' => Full ms2 s'.2 a' s'.1 fun a' L' => ∀ w', Cl w0 L' w' → Q .normal a' w') (fun _ _ _ => False) (ks2.drop k) l' (puts a ms vs) (L', V2) := by
          rcases hks with e | e
          · rw [← e]; exact hk
          · subst e; simpa [lx] using hk
        have hpsz : ∀ (ms : List Mk) (vs : List (Option Value)) (a : Act), (puts a ms vs).tmps.size = a.tmps.size := by
          intro ms
          induction ms with
          | nil => intro vs a; simp [puts]
          | cons k ms ih => intro vs a; cases vs with
            | nil => simp [puts]
            | cons v vs => cases v with
              | none => rw [puts]; exact ih vs a
              | some v => rw [puts, ih, put_size]
        have h1 := anyC_lex (P := P) (w0 := w0) (S := S2) (ms := ms2) (md := .any) (kd := fun j => ks2.getD j .tail) (ix := ix2) (U := fun _ _ _ _ => False) hM hsel (fun _ _ _ _ _ _ _ h _ => by cases h) l' (ks2.drop k) k done (puts a ms vs) (L', V2) hc hl (fun j x hx => by rw [List.getElem?_drop] at hx; simp [hx]) ht hk
        have h2 := anyC_any (N := (puts a ms vs).tmps.size) (P := P) (r := r) (m := m) (Q := Q) (ms := ms2) (allB_spec hall2) (Region.noSelect_spec hsel)
          (fun a s vs Ns w hM hs hC hR => by obtain ⟨L', hp, hk⟩ := Full.use hM hs hR; exact hk w (hC.perm hp)) (fun _ _ _ _ _ _ _ _ _ _ _ h => h.elim) l'.length done (puts a ms vs) (L', V2) _ _ w (none_made ms2 V2 hV2) (fun q i hq => by
            constructor
            · rintro ⟨v, hv⟩
              rw [List.getElem?_replicate] at hv
              split at hv
              · injection hv with hv; cases hv
              · cases hv
            · intro hd
              have := List.all_eq_true.1 hix i (List.mem_of_getElem? hq)
              rw [hd] at this; cases this) (fun k hk => by rw [hpsz, hsz]; exact hd2 k hk) rfl (by
            have : (List.replicate ms2.length ([] : List Blk)).flatten = [] := by simp
            rw [this, List.append_nil]
            exact hC.perm hp) h1
        rw [none_puts] at h2
        exact h2) h
  cases r with
  | none => exact wp_region_any hm H
  | some k => exact wpIn_region_any hm H
end
end Go.Proofs.YtoegpalacppllaaGreat

/- A walk over frames that are lists and blocks that are known whole: code, regions, calls, loops, results. No function of the program is in sight here. -/
namespace Go.Proofs.YtoegpalacppllaaGreat
open Go.RowKit

section
variable {P : Program} {ops : Array Oper} {Q : Exit → Act → World → Prop} {bs : List Value} {us : List (Nat × Value)} {ds : List Deferred} {w0 : Base} {W : World} {rest : List Oper} {o : Oper} {L : List Blk} {d : Nat} {v : Value} {r : Option (Option Nat)} {m : Nat}

/-! ### operations in a list -/
theorem wanted_none (hg : o.guard = none) {a : Act} : Region.wanted o (yielded ops a.tmps) = true := by simp [Region.wanted, hg]
theorem l_valG (hr : Runs P bs us o v) (hw : Region.wanted o (yielded ops (fr bs us ds).tmps) = true) (hd : o.dst = some d) (h : LW r m P ops Q rest (fr bs ((d, v) :: us) ds) W) : LW r m P ops Q (o :: rest) (fr bs us ds) W :=
  LW.val hw (by rw [eval_ev]; exact hr W) (by rw [hd, put_st]; exact h)
theorem l_val (hr : Runs P bs us o v) (hg : o.guard = none) (hd : o.dst = some d) (h : LW r m P ops Q rest (fr bs ((d, v) :: us) ds) W) : LW r m P ops Q (o :: rest) (fr bs us ds) W :=
  l_valG hr (wanted_none hg) hd h
/-- the truth of what was found last -/
theorem l_split {b : Bool} (h1 : b = true → LW r m P ops Q rest (fr bs ((d, .bool true) :: us) ds) W) (h2 : b = false → LW r m P ops Q rest (fr bs ((d, .bool false) :: us) ds) W) : LW r m P ops Q rest (fr bs ((d, .bool b) :: us) ds) W := by
  cases b
  · exact h2 rfl
  · exact h1 rfl
/-- an operation that is passed over -/
theorem l_not (hw : Region.wanted o (yielded ops (fr bs us ds).tmps) = false) (hd : o.dst = some d) (h : LW r m P ops Q rest (fr bs ((d, undef) :: us) ds) W) : LW r m P ops Q (o :: rest) (fr bs us ds) W :=
  LW.not hw (by rw [hd, put_st]; exact h)
theorem l_run {W' : World} (hg : o.guard = none) (h : (execOp (ev bs us) o).run P W = .ok (.value v) W') (hd : o.dst = some d) (hn : LW r m P ops Q rest (fr bs ((d, v) :: us) ds) W') : LW r m P ops Q (o :: rest) (fr bs us ds) W :=
  LW.val (wanted_none hg) (by rw [eval_ev]; exact h) (by rw [hd, put_st]; exact hn)

theorem run_loadP_at {t : TypeId} {n : Nat} (ht : TyA P t n) {x : Operand} {g i : Nat} {cs vs : List Value} {ty : TypeId} (p : Nat) (ho : o.op = .load t x) (hx : ev bs us x = .pointer (some ⟨g, i, none⟩)) (hp : L[p]? = some ⟨g, cs, ty⟩) (hn : i + n ≤ cs.length) (hv : (cs.drop i).take n = vs) (w : World) (hw : Cl w0 L w) :
    (execOp (ev bs us) o).run P w = .ok (.value (.agg vs.toArray)) w := by
  have := run_load_agg ht w (hw.at p hp) hn
  rw [hv] at this
  unfold execOp
  simp only [ho, hx, Instr.loadAt, Instr.sureAddr, Sem.run_bind, Sem.run_pure, Result.andThen_ok, this]
theorem run_loadC_at {t : TypeId} (ht : TyC P t) {x : Operand} {g i : Nat} {cs : List Value} {ty : TypeId} (p : Nat) (ho : o.op = .load t x) (hx : ev bs us x = .pointer (some ⟨g, i, none⟩)) (hp : L[p]? = some ⟨g, cs, ty⟩) (hv : cs[i]? = some v) (w : World) (hw : Cl w0 L w) :
    (execOp (ev bs us) o).run P w = .ok (.value v) w := by
  have := run_load_cell ht w (hw.at p hp) hv
  unfold execOp
  simp only [ho, hx, Instr.loadAt, Instr.sureAddr, Sem.run_bind, Sem.run_pure, Result.andThen_ok, this]
theorem take_all {cs : List Value} {n : Nat} (hn : cs.length = n) : (cs.drop 0).take n = cs := by subst hn; simp
theorem run_storeA_at {t : TypeId} {n : Nat} (ht : TyA P t n) {x y : Operand} {g : Nat} {cs vs : List Value} {ty : TypeId} (p : Nat) (ho : o.op = .store t x y) (hx : ev bs us x = .pointer (some ⟨g, 0, none⟩)) (hy : ev bs us y = .agg vs.toArray) (hp : L[p]? = some ⟨g, cs, ty⟩) (hc : cs.length = n) (hn : vs.length = n) (h1 : ∀ v ∈ vs, v.oneCell' = true) (w : World) (hW : Cl w0 L w) :
    (execOp (ev bs us) o).run P w = .ok .skip (w.setRow g vs.toArray) ∧ Cl w0 (L.set p ⟨g, vs, ty⟩) (w.setRow g vs.toArray) := by
  have hs := run_store_agg ht w (hW.at p hp) hn (i := 0) (by simp only; omega) h1
  have e : cs.drop (0 + n) = [] := by rw [List.drop_eq_nil_iff]; omega
  have e2 : cs.take 0 ++ vs ++ cs.drop (0 + n) = vs := by rw [e]; simp
  rw [e2] at hs
  refine ⟨?_, hW.setRow p hp vs⟩
  unfold execOp
  simp only [ho, hx, hy, Instr.storeAt, Instr.sureAddr, Sem.run_bind, Sem.run_pure, Result.andThen_ok, hs]
theorem run_storeC_at {t : TypeId} (ht : TyC P t) {x y : Operand} {g i : Nat} {cs : List Value} {ty : TypeId} (p : Nat) (ho : o.op = .store t x y) (hx : ev bs us x = .pointer (some ⟨g, i, none⟩)) (hy : ev bs us y = v) (hp : L[p]? = some ⟨g, cs, ty⟩) (hi : i < cs.length) (h1 : v.oneCell' = true) (w : World) (hW : Cl w0 L w) :
    (execOp (ev bs us) o).run P w = .ok .skip (w.setRow g (cs.set i v).toArray) ∧ Cl w0 (L.set p ⟨g, cs.set i v, ty⟩) (w.setRow g (cs.set i v).toArray) := by
  have hs := run_store_cell ht w (hW.at p hp) hi h1
  refine ⟨?_, hW.setRow p hp _⟩
  unfold execOp
  simp only [ho, hx, hy, Instr.storeAt, Instr.sureAddr, Sem.run_bind, Sem.run_pure, Result.andThen_ok, hs]

theorem l_loadP (hW : Cl w0 L W) (p : Nat) {t : TypeId} {n : Nat} (ht : TyA P t n) {x : Operand} {g i : Nat} {cs vs : List Value} {ty : TypeId} (hg : o.guard = none) (ho : o.op = .load t x) (hx : ev bs us x = .pointer (some ⟨g, i, none⟩)) (hd : o.dst = some d)
    (hp : L[p]? = some ⟨g, cs, ty⟩) (hn : i + n ≤ cs.length) (hv : (cs.drop i).take n = vs) (h : LW r m P ops Q rest (fr bs ((d, .agg vs.toArray) :: us) ds) W) : LW r m P ops Q (o :: rest) (fr bs us ds) W :=
  l_run hg (run_loadP_at ht p ho hx hp hn hv W hW) hd h
theorem l_loadA (hW : Cl w0 L W) (p : Nat) {t : TypeId} {n : Nat} (ht : TyA P t n) {x : Operand} {g : Nat} {cs : List Value} {ty : TypeId} (hg : o.guard = none) (ho : o.op = .load t x) (hx : ev bs us x = .pointer (some ⟨g, 0, none⟩)) (hd : o.dst = some d)
    (hp : L[p]? = some ⟨g, cs, ty⟩) (hn : cs.length = n) (h : LW r m P ops Q rest (fr bs ((d, .agg cs.toArray) :: us) ds) W) : LW r m P ops Q (o :: rest) (fr bs us ds) W :=
  l_loadP hW p ht hg ho hx hd hp (by omega) (take_all hn) h
theorem l_loadC (hW : Cl w0 L W) (p : Nat) {t : TypeId} (ht : TyC P t) {x : Operand} {g i : Nat} {cs : List Value} {ty : TypeId} (hg : o.guard = none) (ho : o.op = .load t x) (hx : ev bs us x = .pointer (some ⟨g, i, none⟩)) (hd : o.dst = some d)
    (hp : L[p]? = some ⟨g, cs, ty⟩) (hv : cs[i]? = some v) (h : LW r m P ops Q rest (fr bs ((d, v) :: us) ds) W) : LW r m P ops Q (o :: rest) (fr bs us ds) W :=
  l_run hg (run_loadC_at ht p ho hx hp hv W hW) hd h
/-- a whole block is written -/
theorem l_storeA (hW : Cl w0 L W) (p : Nat) {t : TypeId} {n : Nat} (ht : TyA P t n) {x y : Operand} {g : Nat} {cs vs : List Value} {ty : TypeId} (hg : o.guard = none) (ho : o.op = .store t x y) (hx : ev bs us x = .pointer (some ⟨g, 0, none⟩)) (hy : ev bs us y = .agg vs.toArray) (hd : o.dst = none)
    (hp : L[p]? = some ⟨g, cs, ty⟩) (hc : cs.length = n) (hn : vs.length = n) (h1 : ∀ v ∈ vs, v.oneCell' = true)
    (h : ∀ W', Cl w0 (L.set p ⟨g, vs, ty⟩) W' → LW r m P ops Q rest (fr bs us ds) W') : LW r m P ops Q (o :: rest) (fr bs us ds) W := by
  obtain ⟨hr, hW'⟩ := run_storeA_at ht p ho hx hy hp hc hn h1 W hW
  exact LW.skip (wanted_none hg) (by rw [eval_ev]; exact hr) (by rw [hd, put_none]; exact h _ hW')
theorem l_storeC (hW : Cl w0 L W) (p : Nat) {t : TypeId} (ht : TyC P t) {x y : Operand} {g i : Nat} {cs : List Value} {ty : TypeId} (hg : o.guard = none) (ho : o.op = .store t x y) (hx : ev bs us x = .pointer (some ⟨g, i, none⟩)) (hy : ev bs us y = v) (hd : o.dst = none)
    (hp : L[p]? = some ⟨g, cs, ty⟩) (hi : i < cs.length) (h1 : v.oneCell' = true)
    (h : ∀ W', Cl w0 (L.set p ⟨g, cs.set i v, ty⟩) W' → LW r m P ops Q rest (fr bs us ds) W') : LW r m P ops Q (o :: rest) (fr bs us ds) W := by
  obtain ⟨hr, hW'⟩ := run_storeC_at ht p ho hx hy hp hi h1 W hW
  exact LW.skip (wanted_none hg) (by rw [eval_ev]; exact hr) (by rw [hd, put_none]; exact h _ hW')

theorem l_alloc (hW : Cl w0 L W) {t : TypeId} {z : List Value} (hz : TyZ P t (.agg z.toArray)) (hg : o.guard = none) (ho : o.op = .alloc t) (hd : o.dst = some d)
    (h : ∀ g W', Cl w0 (⟨g, z, t⟩ :: L) W' → LW r m P ops Q rest (fr bs ((d, .pointer (some ⟨g, 0, none⟩)) :: us) ds) W') : LW r m P ops Q (o :: rest) (fr bs us ds) W := by
  refine l_run (W' := W.alloc (.cells z.toArray t)) hg ?_ hd (h _ _ (hW.alloc z t))
  unfold execOp
  simp only [ho, Instr.alloc, newVar, newRow, Value.cells, Sem.run_bind, Sem.run_pure, hz W, run_newObj, Result.andThen_ok]
  rfl
theorem l_allocC (hW : Cl w0 L W) {t : TypeId} {z : Value} (hz : TyZ P t z) (h1 : z.oneCell' = true) (hg : o.guard = none) (ho : o.op = .alloc t) (hd : o.dst = some d)
    (h : ∀ g W', Cl w0 (⟨g, [z], t⟩ :: L) W' → LW r m P ops Q rest (fr bs ((d, .pointer (some ⟨g, 0, none⟩)) :: us) ds) W') : LW r m P ops Q (o :: rest) (fr bs us ds) W := by
  refine l_run (W' := W.alloc (.cells [z].toArray t)) hg ?_ hd (h _ _ (hW.alloc [z] t))
  have e : z.cells = [z].toArray := by cases z <;> first | rfl | simp [Value.oneCell'] at h1
  unfold execOp
  simp only [ho, Instr.alloc, newVar, newRow, e, Sem.run_bind, Sem.run_pure, hz W, run_newObj, Result.andThen_ok]
  rfl
theorem l_box (hW : Cl w0 L W) {t : TypeId} {x : Operand} {cs : List Value} (hg : o.guard = none) (ho : o.op = .box t x) (hx : ev bs us x = .agg cs.toArray) (hd : o.dst = some d)
    (h : ∀ g W', Cl w0 (⟨g, cs, t⟩ :: L) W' → LW r m P ops Q rest (fr bs ((d, .pointer (some ⟨g, 0, none⟩)) :: us) ds) W') : LW r m P ops Q (o :: rest) (fr bs us ds) W := by
  refine l_run (W' := W.alloc (.cells cs.toArray t)) hg ?_ hd (h _ _ (hW.alloc cs t))
  unfold execOp
  simp only [ho, hx, Instr.box, newVar, newRow, Value.cells, Sem.run_bind, Sem.run_pure, run_newObj, Result.andThen_ok]
  rfl
theorem l_boxC (hW : Cl w0 L W) {t : TypeId} {x : Operand} (hg : o.guard = none) (ho : o.op = .box t x) (hx : ev bs us x = v) (h1 : v.oneCell' = true) (hd : o.dst = some d)
    (h : ∀ g W', Cl w0 (⟨g, [v], t⟩ :: L) W' → LW r m P ops Q rest (fr bs ((d, .pointer (some ⟨g, 0, none⟩)) :: us) ds) W') : LW r m P ops Q (o :: rest) (fr bs us ds) W := by
  refine l_run (W' := W.alloc (.cells [v].toArray t)) hg ?_ hd (h _ _ (hW.alloc [v] t))
  have e : v.cells = [v].toArray := by cases v <;> first | rfl | simp [Value.oneCell'] at h1
  unfold execOp
  simp only [ho, hx, Instr.box, newVar, newRow, e, Sem.run_bind, Sem.run_pure, run_newObj, Result.andThen_ok]
  rfl

theorem run_call {f : FuncId} {xs : Array Operand} {ts : Array TypeId} {args : List Value} (he : Enters P f) (ho : o.op = .call { callee := .value (.func f), args := xs, argTypes := ts }) (ha : xs.toList.map (ev bs us) = args) (w : World) :
    (execOp (ev bs us) o).run P w = .ok (.enter f args.toArray) w := by
  have e : xs.map (ev bs us) = args.toArray := by subst ha; apply Array.ext'; simp only [Array.toList_map]
  unfold execOp
  have e2 : (#[] : Array Value) ++ args.toArray ++ #[] = args.toArray := by simp
  simp only [ho, resolve, e, ev, Deferred.ofValue, Sem.run_bind, Sem.run_pure, Result.andThen_ok, invoke, e2]
  exact he _ w
/-- a call of a function value -/
theorem run_callV {f : FuncId} {x : Operand} {xs : Array Operand} {ts : Array TypeId} {args cap : List Value} (he : Enters P f) (ho : o.op = .call { callee := .value x, args := xs, argTypes := ts }) (hx : ev bs us x = .func (.func f) #[] cap.toArray) (ha : xs.toList.map (ev bs us) = args) (w : World) :
    (execOp (ev bs us) o).run P w = .ok (.enter f (args ++ cap).toArray) w := by
  have e : xs.map (ev bs us) = args.toArray := by subst ha; apply Array.ext'; simp only [Array.toList_map]
  unfold execOp
  have e2 : (#[] : Array Value) ++ args.toArray ++ cap.toArray = (args ++ cap).toArray := by simp
  simp only [ho, resolve, e, hx, Deferred.ofValue, Sem.run_bind, Sem.run_pure, Result.andThen_ok, invoke, e2]
  exact he _ w
theorem l_enter {f : FuncId} {args : Array Value} (hg : o.guard = none) (hr : ∀ w, (execOp (ev bs us) o).run P w = .ok (.enter f args) w) (hd : o.dst = some d)
    (h : Calls P f args W (After fun v w => LW r m P ops Q rest (fr bs ((d, v) :: us) ds) w)) : LW r m P ops Q (o :: rest) (fr bs us ds) W :=
  LW.call (wanted_none hg) (by rw [eval_ev]; exact hr W) (h.mono fun _ w ⟨v, he, hv⟩ => ⟨v, he, by show LW r m P ops Q rest ((fr bs us ds).put o.dst v) w; rw [hd, put_st]; exact hv⟩)
theorem l_call (hW : Cl w0 L W) {f : FuncId} {xs : Array Operand} {ts : Array TypeId} {args : List Value} (hgv : Gives P f args.toArray v) (he : Enters P f) (hg : o.guard = none) (ho : o.op = .call { callee := .value (.func f), args := xs, argTypes := ts }) (ha : xs.toList.map (ev bs us) = args) (hd : o.dst = some d)
    (h : ∀ W', Cl w0 L W' → LW r m P ops Q rest (fr bs ((d, v) :: us) ds) W') : LW r m P ops Q (o :: rest) (fr bs us ds) W :=
  l_enter hg (run_call he ho ha) hd ((hgv W).mono fun _ w ⟨he, hb⟩ => ⟨v, he, h w (hW.past hb)⟩)
theorem l_callV (hW : Cl w0 L W) {f : FuncId} {x : Operand} {xs : Array Operand} {ts : Array TypeId} {args cap : List Value} (hgv : Gives P f (args ++ cap).toArray v) (he : Enters P f) (hg : o.guard = none) (ho : o.op = .call { callee := .value x, args := xs, argTypes := ts }) (hx : ev bs us x = .func (.func f) #[] cap.toArray) (ha : xs.toList.map (ev bs us) = args) (hd : o.dst = some d)
    (h : ∀ W', Cl w0 L W' → LW r m P ops Q rest (fr bs ((d, v) :: us) ds) W') : LW r m P ops Q (o :: rest) (fr bs us ds) W :=
  l_enter hg (run_callV he ho hx ha) hd ((hgv W).mono fun _ w ⟨he, hb⟩ => ⟨v, he, h w (hW.past hb)⟩)

/-! ### operations in a region that draws its order -/
section
variable {S : List Nat} {ks : List Kd} {ms : List Mk} {V : List (List Value)} {R : Act → St → Prop} {T : List Oper → Act → St → Prop}
theorem yields_run {C : World → Prop} {a : Act} (hw : Region.wanted o (yielded ops a.tmps) = true) (h : ∀ w, C w → (execOp a.eval o).run P w = .ok (.value v) w) : YieldsIn P ops C o v a :=
  .inl ⟨hw, fun w hC => by unfold Oper.quietAt; rw [h w hC]; exact ⟨rfl, rfl⟩⟩
theorem y_val (hr : Runs P bs us o v) (hw : Region.wanted o (yielded ops (fr bs us ds).tmps) = true) (hd : o.dst = some d) (h : lx P ops w0 S ms R T ks rest (fr bs ((d, v) :: us) ds) (L, V)) : lx P ops w0 S ms R T (.q :: ks) (o :: rest) (fr bs us ds) (L, V) :=
  ⟨v, (L, V), ⟨fun _ _ => yields_run hw fun w _ => by rw [eval_ev]; exact hr w, rfl⟩, by simp only [putK, hd, put_st]; exact h⟩
theorem y_not (hw : Region.wanted o (yielded ops (fr bs us ds).tmps) = false) (hd : o.dst = some d) (h : lx P ops w0 S ms R T ks rest (fr bs ((d, undef) :: us) ds) (L, V)) : lx P ops w0 S ms R T (.q :: ks) (o :: rest) (fr bs us ds) (L, V) :=
  ⟨undef, (L, V), ⟨fun _ _ => .inr ⟨hw, rfl⟩, rfl⟩, by simp only [putK, hd, put_st]; exact h⟩

theorem y_split {b : Bool} (h1 : b = true → lx P ops w0 S ms R T ks rest (fr bs ((d, .bool true) :: us) ds) (L, V)) (h2 : b = false → lx P ops w0 S ms R T ks rest (fr bs ((d, .bool false) :: us) ds) (L, V)) : lx P ops w0 S ms R T ks rest (fr bs ((d, .bool b) :: us) ds) (L, V) := by
  cases b
  · exact h2 rfl
  · exact h1 rfl
theorem y_loadP (p : Nat) {t : TypeId} {n : Nat} (ht : TyA P t n) {x : Operand} {g i : Nat} {cs vs : List Value} {ty : TypeId} (hw : Region.wanted o (yielded ops (fr bs us ds).tmps) = true) (ho : o.op = .load t x) (hx : ev bs us x = .pointer (some ⟨g, i, none⟩)) (hd : o.dst = some d)
    (hp : L[p]? = some ⟨g, cs, ty⟩) (hn : i + n ≤ cs.length) (hv : (cs.drop i).take n = vs) (hS : p ∉ S) (h : lx P ops w0 S ms R T ks rest (fr bs ((d, .agg vs.toArray) :: us) ds) (L, V)) : lx P ops w0 S ms R T (.q :: ks) (o :: rest) (fr bs us ds) (L, V) :=
  ⟨_, (L, V), ⟨fun _ hs => yields_run hw fun w hC => by rw [eval_ev]; exact run_loadP_at ht p ho hx (hs p _ hS hp) hn hv w hC, rfl⟩, by simp only [putK, hd, put_st]; exact h⟩
theorem y_loadP1 (p : Nat) {t : TypeId} {n : Nat} (ht : TyA P t n) {x : Operand} {g i : Nat} {cs vs : List Value} {ty : TypeId} (hw : Region.wanted o (yielded ops (fr bs us ds).tmps) = true) (ho : o.op = .load t x) (hx : ev bs us x = .pointer (some ⟨g, i, none⟩)) (hd : o.dst = some d)
    (hp : L[p]? = some ⟨g, cs, ty⟩) (hn : i + n ≤ cs.length) (hv : (cs.drop i).take n = vs) (h : lx P ops w0 S ms R T ks rest (fr bs ((d, .agg vs.toArray) :: us) ds) (L, V)) : lx P ops w0 S ms R T (.r :: ks) (o :: rest) (fr bs us ds) (L, V) :=
  ⟨_, (L, V), ⟨fun N => yields_run hw fun w hC => by rw [eval_ev]; exact run_loadP_at ht p ho hx (Sim.more [] L N p _ (by simp) hp) hn hv w hC, rfl⟩, by simp only [putK, hd, put_st]; exact h⟩
theorem y_loadA (p : Nat) {t : TypeId} {n : Nat} (ht : TyA P t n) {x : Operand} {g : Nat} {cs : List Value} {ty : TypeId} (hw : Region.wanted o (yielded ops (fr bs us ds).tmps) = true) (ho : o.op = .load t x) (hx : ev bs us x = .pointer (some ⟨g, 0, none⟩)) (hd : o.dst = some d)
    (hp : L[p]? = some ⟨g, cs, ty⟩) (hn : cs.length = n) (hS : p ∉ S) (h : lx P ops w0 S ms R T ks rest (fr bs ((d, .agg cs.toArray) :: us) ds) (L, V)) : lx P ops w0 S ms R T (.q :: ks) (o :: rest) (fr bs us ds) (L, V) :=
  y_loadP p ht hw ho hx hd hp (by omega) (take_all hn) hS h
theorem y_loadA1 (p : Nat) {t : TypeId} {n : Nat} (ht : TyA P t n) {x : Operand} {g : Nat} {cs : List Value} {ty : TypeId} (hw : Region.wanted o (yielded ops (fr bs us ds).tmps) = true) (ho : o.op = .load t x) (hx : ev bs us x = .pointer (some ⟨g, 0, none⟩)) (hd : o.dst = some d)
    (hp : L[p]? = some ⟨g, cs, ty⟩) (hn : cs.length = n) (h : lx P ops w0 S ms R T ks rest (fr bs ((d, .agg cs.toArray) :: us) ds) (L, V)) : lx P ops w0 S ms R T (.r :: ks) (o :: rest) (fr bs us ds) (L, V) :=
  y_loadP1 p ht hw ho hx hd hp (by omega) (take_all hn) h
theorem y_loadC (p : Nat) {t : TypeId} (ht : TyC P t) {x : Operand} {g i : Nat} {cs : List Value} {ty : TypeId} (hw : Region.wanted o (yielded ops (fr bs us ds).tmps) = true) (ho : o.op = .load t x) (hx : ev bs us x = .pointer (some ⟨g, i, none⟩)) (hd : o.dst = some d)
    (hp : L[p]? = some ⟨g, cs, ty⟩) (hv : cs[i]? = some v) (hS : p ∉ S) (h : lx P ops w0 S ms R T ks rest (fr bs ((d, v) :: us) ds) (L, V)) : lx P ops w0 S ms R T (.q :: ks) (o :: rest) (fr bs us ds) (L, V) :=
  ⟨_, (L, V), ⟨fun _ hs => yields_run hw fun w hC => by rw [eval_ev]; exact run_loadC_at ht p ho hx (hs p _ hS hp) hv w hC, rfl⟩, by simp only [putK, hd, put_st]; exact h⟩
theorem y_loadC1 (p : Nat) {t : TypeId} (ht : TyC P t) {x : Operand} {g i : Nat} {cs : List Value} {ty : TypeId} (hw : Region.wanted o (yielded ops (fr bs us ds).tmps) = true) (ho : o.op = .load t x) (hx : ev bs us x = .pointer (some ⟨g, i, none⟩)) (hd : o.dst = some d)
    (hp : L[p]? = some ⟨g, cs, ty⟩) (hv : cs[i]? = some v) (h : lx P ops w0 S ms R T ks rest (fr bs ((d, v) :: us) ds) (L, V)) : lx P ops w0 S ms R T (.r :: ks) (o :: rest) (fr bs us ds) (L, V) :=
  ⟨_, (L, V), ⟨fun N => yields_run hw fun w hC => by rw [eval_ev]; exact run_loadC_at ht p ho hx (Sim.more [] L N p _ (by simp) hp) hv w hC, rfl⟩, by simp only [putK, hd, put_st]; exact h⟩

theorem yields_call {a : Act} {f : FuncId} {args : Array Value} (hg : Gives P f args v) (hw : Region.wanted o (yielded ops a.tmps) = true) (hr : ∀ w, (execOp a.eval o).run P w = .ok (.enter f args) w) : YieldsIn P ops (Cl w0 L) o v a :=
  .inl ⟨hw, fun w hW => by
    unfold Oper.quietAt
    rw [hr w]
    exact ⟨rfl, (hg w).mono fun e w' ⟨he, hb⟩ => ⟨he, hW.past hb⟩⟩⟩
theorem y_call {f : FuncId} {xs : Array Operand} {ts : Array TypeId} {args : List Value} (hgv : Gives P f args.toArray v) (he : Enters P f) (hw : Region.wanted o (yielded ops (fr bs us ds).tmps) = true) (ho : o.op = .call { callee := .value (.func f), args := xs, argTypes := ts }) (ha : xs.toList.map (ev bs us) = args) (hd : o.dst = some d)
    (h : lx P ops w0 S ms R T ks rest (fr bs ((d, v) :: us) ds) (L, V)) : lx P ops w0 S ms R T (.q :: ks) (o :: rest) (fr bs us ds) (L, V) :=
  ⟨v, (L, V), ⟨fun _ _ => yields_call hgv hw (by rw [eval_ev]; exact run_call he ho ha), rfl⟩, by simp only [putK, hd, put_st]; exact h⟩
theorem y_storeA (p : Nat) {t : TypeId} {n : Nat} (ht : TyA P t n) {x y : Operand} {g : Nat} {cs vs : List Value} {ty : TypeId} (hw : Region.wanted o (yielded ops (fr bs us ds).tmps) = true) (ho : o.op = .store t x y) (hx : ev bs us x = .pointer (some ⟨g, 0, none⟩)) (hy : ev bs us y = .agg vs.toArray) (hd : o.dst = none)
    (hp : L[p]? = some ⟨g, cs, ty⟩) (hc : cs.length = n) (hn : vs.length = n) (h1 : ∀ v ∈ vs, v.oneCell' = true) (hS : p ∈ S)
    (h : lx P ops w0 S ms R T ks rest (fr bs us ds) (L.set p ⟨g, vs, ty⟩, V)) : lx P ops w0 S ms R T (.s :: ks) (o :: rest) (fr bs us ds) (L, V) :=
  ⟨undef, (L.set p ⟨g, vs, ty⟩, V), ⟨rfl, hw, fun N w hW => by
    have hp' := Sim.more [] L N p _ (by simp) hp
    have e : (L ++ N).set p ⟨g, vs, ty⟩ = L.set p ⟨g, vs, ty⟩ ++ N := List.set_append_left _ _ (List.getElem?_eq_some_iff.1 hp).1
    obtain ⟨h2, h3⟩ := run_storeA_at ht p ho hx hy hp' hc hn h1 w hW
    rw [e] at h3
    exact ⟨_, by rw [eval_ev]; exact h2, h3⟩, Sim.set L p _ hS, Sim.unset L p _ hS, rfl⟩, by simp only [putK, hd, put_none]; exact h⟩
theorem y_storeC (p : Nat) {t : TypeId} (ht : TyC P t) {x y : Operand} {g i : Nat} {cs : List Value} {ty : TypeId} (hw : Region.wanted o (yielded ops (fr bs us ds).tmps) = true) (ho : o.op = .store t x y) (hx : ev bs us x = .pointer (some ⟨g, i, none⟩)) (hy : ev bs us y = v) (hd : o.dst = none)
    (hp : L[p]? = some ⟨g, cs, ty⟩) (hi : i < cs.length) (h1 : v.oneCell' = true) (hS : p ∈ S)
    (h : lx P ops w0 S ms R T ks rest (fr bs us ds) (L.set p ⟨g, cs.set i v, ty⟩, V)) : lx P ops w0 S ms R T (.s :: ks) (o :: rest) (fr bs us ds) (L, V) :=
  ⟨undef, (L.set p ⟨g, cs.set i v, ty⟩, V), ⟨rfl, hw, fun N w hW => by
    have hp' := Sim.more [] L N p _ (by simp) hp
    have e : (L ++ N).set p ⟨g, cs.set i v, ty⟩ = L.set p ⟨g, cs.set i v, ty⟩ ++ N := List.set_append_left _ _ (List.getElem?_eq_some_iff.1 hp).1
    obtain ⟨h2, h3⟩ := run_storeC_at ht p ho hx hy hp' hi h1 w hW
    rw [e] at h3
    exact ⟨_, by rw [eval_ev]; exact h2, h3⟩, Sim.set L p _ hS, Sim.unset L p _ hS, rfl⟩, by simp only [putK, hd, put_none]; exact h⟩
theorem y_end {a : Act} {s : St} (h : R a s) : lx P ops w0 S ms R T [] [] a s := h
theorem y_tail {a : Act} {s : St} (h : T (o :: rest) a s) : lx P ops w0 S ms R T (.tail :: ks) (o :: rest) a s := h
theorem y_made {X : List Value → Value → List Blk → Prop} {z : List Value} {K : Act → List Blk → Prop} (h : ∀ v Bs, X z v Bs → Full ms V (fr bs ((d, v) :: us) ds) (Bs ++ L) K) : Full (⟨d, X⟩ :: ms) (z :: V) (fr bs us ds) L K := fun v Bs hx => by
  have := h v Bs hx
  rw [← put_st] at this
  exact this

theorem cl_end {L : List Blk} {g : Nat} {cs : List Value} {t : TypeId} {w : World} (h : Cl w0 (⟨g, cs, t⟩ :: L) w) : Cl w0 (L ++ [⟨g, cs, t⟩]) w := h.perm (List.perm_append_singleton _ _).symm
end

/-! ### regions -/
variable {a : Act}
theorem c_reg {id : Nat} {os : List Oper} (h : LW r m P os.toArray Q os a W) : CW r m P (Code.region id os.toArray false) Q a W := CW.region h
theorem c_regY (hW : Cl w0 L W) {id : Nat} {os : List Oper} (S : List Nat) (ks : List Kd) (M : List Nat) (hm : P.follows .mixedOrders = true) (hB : regionB os.toArray ks [] [] M = true)
    (h : lx P os.toArray w0 S [] (fun a' s' => Full [] s'.2 a' s'.1 fun a' L' => ∀ w', Cl w0 L' w' → Q .normal a' w') (fun l' a' s' => Full [] s'.2 a' s'.1 fun a' L' => ∀ w', Cl w0 L' w' → LW r m P os.toArray Q l' a' w') ks os a (L, [])) : CW r m P (Code.region id os.toArray true) Q a W :=
  wp_region_lx hW S ks [] [] [] M hm hB rfl (by simp) h
/-- a region with makers -/
theorem c_regM (hW : Cl w0 L W) {id : Nat} {os : List Oper} (S : List Nat) (ks : List Kd) (ms : List Mk) (V : List (List Value)) (ix M : List Nat) (hm : P.follows .mixedOrders = true) (hB : regionB os.toArray ks (ms.map Mk.d) ix M = true) (hV : V.length = ms.length) (hd : (ms.all fun k => Nat.blt k.d bs.length) = true)
    (h : lx P os.toArray w0 S ms (fun a' s' => Full ms s'.2 a' s'.1 fun a' L' => ∀ w', Cl w0 L' w' → Q .normal a' w') (fun l' a' s' => Full ms s'.2 a' s'.1 fun a' L' => ∀ w', Cl w0 L' w' → LW r m P os.toArray Q l' a' w') ks os (fr bs us ds) (L, V)) : CW r m P (Code.region id os.toArray true) Q (fr bs us ds) W :=
  wp_region_lx hW S ks ms V ix M hm hB hV (fun k hk => by
    have := List.all_eq_true.1 hd k hk
    rw [Nat.blt_eq] at this
    simpa [fr, toL_len] using this) h
/-- a region with makers, whose tail is in any order again -/
theorem c_regC (hW : Cl w0 L W) {id : Nat} {os : List Oper} (S : List Nat) (ks : List Kd) (ms : List Mk) (V : List (List Value)) (ix M S2 : List Nat) (ks2 : List Kd) (ms2 : List Mk) (V2 : List (List Value)) (ix2 : List Nat) (hm : P.follows .mixedOrders = true) (hB : regionB2 os.toArray ks ks2 (ms.map Mk.d) ix M (ms2.map Mk.d) ix2 = true) (hV : V.length = ms.length) (hV2 : V2.length = ms2.length) (hd : (ms.all fun k => Nat.blt k.d bs.length) = true) (hd2 : (ms2.all fun k => Nat.blt k.d bs.length) = true)
    (h : lx P os.toArray w0 S ms (fun a' s' => Full ms s'.2 a' s'.1 fun a' L' => ∀ w', Cl w0 L' w' → Q .normal a' w')
      (fun l' a' s' => Full ms s'.2 a' s'.1 fun a' L' => lx P os.toArray w0 S2 ms2 (fun a' s' => Full ms2 s'.2 a' s'.1 fun a' L' => ∀ w', Cl w0 L' w' → Q .normal a' w') (fun _ _ _ => False) (ks2.drop (os.length - l'.length)) l' a' (L', V2)) ks os (fr bs us ds) (L, V)) : CW r m P (Code.region id os.toArray true) Q (fr bs us ds) W :=
  wp_region_lx2 hW S ks ms V ix M S2 ks2 ms2 V2 ix2 hm hB hV hV2 (fun k hk => by
    have := List.all_eq_true.1 hd2 k hk
    rw [Nat.blt_eq] at this
    simpa [fr, toL_len] using this) (fun k hk => by
    have := List.all_eq_true.1 hd k hk
    rw [Nat.blt_eq] at this
    simpa [fr, toL_len] using this) h
theorem l_end (h : Q .normal a W) : LW r m P ops Q [] a W := LW.nil h

/-! ### code -/
theorem c_seq {x y : Code} (h : CW r m P x (Exit.then (CW r m P y Q) Q) a W) : CW r m P (Code.seq x y) Q a W := CW.seq h
theorem c_block {id : Nat} {c : Code} (h : CW r m P c (Exit.inBlock id Q) a W) : CW r m P (Code.block id c) Q a W := CW.block h
theorem c_skip (h : Q .normal a W) : CW r m P Code.skip Q a W := CW.skip h
theorem c_exit {id : Nat} (h : Q (.exit id) a W) : CW r m P (Code.exit id) Q a W := CW.exit h
theorem c_ret (h : Q .ret a W) : CW r m P Code.ret Q a W := CW.ret h
theorem c_true {c : Operand} {x y : Code} (hc : ev bs us c = .bool true) (h : CW r m P x Q (fr bs us ds) W) : CW r m P (Code.cond c x y) Q (fr bs us ds) W := CW.condT (by rw [eval_ev]; exact hc) h
theorem c_false {c : Operand} {x y : Code} (hc : ev bs us c = .bool false) (h : CW r m P y Q (fr bs us ds) W) : CW r m P (Code.cond c x y) Q (fr bs us ds) W := CW.condF (by rw [eval_ev]; exact hc) h
theorem n_then {N : Act → World → Prop} (h : N a W) : Exit.then N Q .normal a W := h
theorem n_block {id : Nat} (h : Q .normal a W) : Exit.inBlock id Q .normal a W := h
theorem x_then {N : Act → World → Prop} {i : Nat} (h : Q (.exit i) a W) : Exit.then N Q (.exit i) a W := h
theorem x_hit {id : Nat} (h : Q .normal a W) : Exit.inBlock id Q (.exit id) a W := by simpa [Exit.inBlock] using h
theorem x_miss {id i : Nat} (hi : i ≠ id) (h : Q (.exit i) a W) : Exit.inBlock id Q (.exit i) a W := by simpa [Exit.inBlock, hi] using h
theorem r_then {N : Act → World → Prop} (h : Q .ret a W) : Exit.then N Q .ret a W := h
theorem r_block {id : Nat} (h : Q .ret a W) : Exit.inBlock id Q .ret a W := h

/-- a loop: F: the frame as a function of a ghost and of slots of no account; B: the blocks -/
theorem c_loop {c : Code} {α : Type} (F : α → (Nat → Value) → List Value) (B : α → List Blk) (H : α → Prop) (μ : α → Nat) (x0 : α) (hl : toL bs us = F x0 (look bs us)) (hW : Cl w0 (B x0) W) (h0 : H x0)
    (round : ∀ x j W, H x → Cl w0 (B x) W → CW r m P c (Exit.then (fun a' W' => ∃ x' j', a' = fr (F x' j') [] ds ∧ Cl w0 (B x') W' ∧ H x' ∧ μ x' < μ x) Q) (fr (F x j) [] ds) W) : CW r m P (Code.loop c) Q (fr bs us ds) W := by
  refine CW.loop (fun n a W => ∃ x j, a = fr (F x j) [] ds ∧ Cl w0 (B x) W ∧ H x ∧ μ x = n) (μ x0) ⟨x0, look bs us, by rw [← hl]; rfl, hW, h0, rfl⟩ ?_
  rintro n a W ⟨x, j, rfl, hB, hx, rfl⟩
  refine CW.mono (round x j W hx hB) ?_
  intro e a W h
  cases e with
  | normal =>
    obtain ⟨x', j', ha, hB', hx', hm⟩ := h
    exact ⟨μ x', hm, x', j', ha, hB', hx', rfl⟩
  | exit id => exact h
  | goto t => exact h
  | ret => exact h
  | panic ch => exact h
  | outgrown => exact h

/-- a round's end -/
theorem loop_next {α : Type} {F : α → (Nat → Value) → List Value} {B : α → List Blk} {H : α → Prop} {μ : α → Nat} {mm : Nat} (x' : α) (hl : toL bs us = F x' (look bs us)) (hW : Cl w0 (B x') W) (hH : H x') (hm : μ x' < mm) :
    ∃ x' j', fr bs us ds = fr (F x' j') [] ds ∧ Cl w0 (B x') W ∧ H x' ∧ μ x' < mm := ⟨x', look bs us, by rw [← hl]; rfl, hW, hH, hm⟩

theorem Cl.to {L' : List Blk} (h : Cl w0 L W) (e : L = L') : Cl w0 L' W := e ▸ h
/-- the newest blocks are forgotten -/
theorem Cl.drop (h : Cl w0 L W) (n : Nat) : Cl w0 (L.drop n) W := h.sub (List.drop_sublist n L)


/-! ### a function -/
theorem gives_of {f : FuncId} {fn : Func} {c : Code} {args : List Value} (hf : P.funcs[f]? = some fn) (hb : fn.body = some c) (hl : args ++ List.replicate (fn.ntmps - args.length) undef = bs)
    (h : ∀ w, Cl (base w) [] w → CW none 0 P c (bodyPost P fn (fun e w' => e = .returned v ∧ Below w.heap.size w w')) (fr bs [] []) w) : Gives P f args.toArray v := fun w => by
  refine calls_of_wp hf hb ?_
  have e : args.toArray ++ Array.replicate (fn.ntmps - args.toArray.size) undef = bs.toArray := by
    rw [← hl]; simp
  rw [e]
  exact h w (Cl.nil w)

variable {fn : Func} {R' : Ending → World → Prop}
theorem res_cell {p : Tmp} {t : TypeId} {n : Nat} {g : Nat} {cs : List Value} {ty : TypeId} (hW : Cl w0 L W) (q : Nat) (ht : TyA P t n) (hr : fn.results = #[.cell p t]) (hp : look bs us p = .pointer (some ⟨g, 0, none⟩)) (hL : L[q]? = some ⟨g, cs, ty⟩) (hn : cs.length = n) :
    (results fn (toL bs us).toArray).run P W = .ok (.agg cs.toArray) W := by
  have h1 := run_load_agg ht W (hW.at q hL) (i := 0) (by simp only; omega)
  have h2 : (toL bs us).toArray.getD p undef = .pointer (some ⟨g, 0, none⟩) := by rw [nth_getD, ← look_nth]; exact hp
  have e : (cs.drop 0).take n = cs := by simp [← hn]
  rw [e] at h1
  rw [Array.getD_eq_getD_getElem?] at h2
  simp at h2
  simp [results, hr, asAddr, h2, h1]
theorem ret_tmp {p : Tmp} (hr : fn.results = #[.tmp p]) (hv : look bs us p = v) (h : R' (.returned v) W) : bodyPost P fn R' .ret (fr bs us []) W :=
  ⟨rfl, v, by rw [← hv, look_nth, ← nth_getD]; exact results_tmp hr _ _ _, h⟩
theorem ret_tmp2 {p q : Tmp} {u : Value} (hr : fn.results = #[.tmp p, .tmp q]) (hv : look bs us p = v) (hu : look bs us q = u) (h : R' (.returned (.tuple #[v, u])) W) : bodyPost P fn R' .ret (fr bs us []) W :=
  ⟨rfl, .tuple #[v, u], by subst hv; subst hu; rw [look_nth, look_nth, ← nth_getD, ← nth_getD]; exact results_tmp2 hr _ _ _, h⟩
theorem ret_none (hr : fn.results = #[]) (h : R' (.returned (.tuple #[])) W) : bodyPost P fn R' .ret (fr bs us []) W :=
  ⟨rfl, _, results_none hr _ _ _, h⟩
theorem end_none (hr : fn.results = #[]) (h : R' (.returned (.tuple #[])) W) : bodyPost P fn R' .normal (fr bs us []) W :=
  ⟨rfl, _, results_none hr _ _ _, h⟩
theorem ret_cell {p : Tmp} {t : TypeId} {n : Nat} {g : Nat} {cs : List Value} {ty : TypeId} (hW : Cl w0 L W) (q : Nat) (ht : TyA P t n) (hr : fn.results = #[.cell p t]) (hp : look bs us p = .pointer (some ⟨g, 0, none⟩)) (hL : L[q]? = some ⟨g, cs, ty⟩) (hn : cs.length = n)
    (h : R' (.returned (.agg cs.toArray)) W) : bodyPost P fn R' .ret (fr bs us []) W :=
  ⟨rfl, _, res_cell hW q ht hr hp hL hn, h⟩
theorem ret_cell_tmp {p r : Tmp} {t : TypeId} {n : Nat} {g : Nat} {cs : List Value} {ty : TypeId} (hW : Cl w0 L W) (q : Nat) (ht : TyA P t n) (hr : fn.results = #[.cell p t, .tmp r]) (hp : look bs us p = .pointer (some ⟨g, 0, none⟩)) (hL : L[q]? = some ⟨g, cs, ty⟩) (hn : cs.length = n) (hv : look bs us r = v)
    (h : R' (.returned (.tuple #[.agg cs.toArray, v])) W) : bodyPost P fn R' .ret (fr bs us []) W := by
  refine ⟨rfl, _, ?_, h⟩
  have h1 := run_load_agg ht W (hW.at q hL) (i := 0) (by simp only; omega)
  have h2 : (toL bs us).toArray.getD p undef = .pointer (some ⟨g, 0, none⟩) := by rw [nth_getD, ← look_nth]; exact hp
  have h3 : (toL bs us).toArray.getD r undef = v := by rw [nth_getD, ← look_nth]; exact hv
  have e : (cs.drop 0).take n = cs := by simp [← hn]
  rw [e] at h1
  show (results fn (toL bs us).toArray).run P W = _
  rw [Array.getD_eq_getD_getElem?] at h2 h3
  simp at h2 h3
  simp [results, hr, asAddr, h1, h2, h3]
end
end Go.Proofs.YtoegpalacppllaaGreat

/- Slices: those that the call itself makes and appends to, and those that it only reads. No function of the program is in sight here. -/
namespace Go.Proofs.YtoegpalacppllaaGreat
open Go.RowKit

section
variable {P : Program}

/-- the facts on an element's type that append asks -/
structure TyE (P : Program) (t e : TypeId) (sz bytes : Nat) : Prop where
  u : P.underlying t = some (.slice e)
  info : ∃ i z, P.info? e = some i ∧ i.zero = some z ∧ i.size = sz ∧ i.bytes = bytes ∧ z.cells.size = sz
  pos : 0 < sz

/-- a slice value that owns its row: nil, or at the head of a row of the call's own, of which nothing else is known; Bs: that row, as a list -/
def OwnSl (e : TypeId) (sz : Nat) (a : Option Addr) (n c : Nat) (xs : List Value) (Bs : List Blk) : Prop :=
  xs.length = n * sz ∧ ((a = none ∧ n = 0 ∧ c = 0 ∧ Bs = []) ∨
    ∃ g cur, a = some ⟨g, 0, none⟩ ∧ Bs = [⟨g, cur, e⟩] ∧ n ≤ c ∧ c ≤ maxLen ∧ cur.length = c * sz ∧ cur.take (n * sz) = xs)

theorem OwnSl.nil (e : TypeId) (sz : Nat) : OwnSl e sz none 0 0 [] [] := ⟨by simp, .inl ⟨rfl, rfl, rfl, rfl⟩⟩
theorem OwnSl.full {e : TypeId} {sz g n : Nat} {vs : List Value} (h : vs.length = n * sz) (hn : n ≤ maxLen) : OwnSl e sz (some ⟨g, 0, none⟩) n n vs [⟨g, vs, e⟩] :=
  ⟨h, .inr ⟨g, vs, rfl, rfl, Nat.le_refl _, hn, h, by rw [← h]; simp⟩⟩

/-- blocks of a callee, beside one's own -/
theorem Cl.beside {w0 : Base} {W W' : World} {L Bs : List Blk} (h : Cl w0 L W) (hb : Cl (base W) Bs W') : Cl w0 (L ++ Bs) W' := by
  have h' := h.past hb.below
  refine ⟨h'.below, ?_, ?_, ?_, h'.oth⟩
  · intro x hx
    rcases List.mem_append.1 hx with hx | hx
    · exact h'.holds x hx
    · exact hb.holds x hx
  · intro x hx
    rcases List.mem_append.1 hx with hx | hx
    · exact h'.own x hx
    · exact Nat.le_trans h.below.size (hb.own x hx)
  · refine List.pairwise_append.2 ⟨h'.apart, hb.apart, fun x hx y hy => ?_⟩
    have h1 := h.lt hx
    have h2 : W.heap.size ≤ y.id := hb.own y hy
    omega

theorem cells_of {w : World} {g : Nat} {cs : List Value} {t : TypeId} {fr : Nat × Nat} (hg : w.heap[g]? = some (.cells cs.toArray t fr)) (i j : Nat) : w.cell? ((⟨g, i, none⟩ : Addr).add j) = cs[i + j]? := by
  rw [Addr.add_lit, cell_at hg]

theorem own_append {w0 : Base} {W : World} {t e : TypeId} {sz bytes : Nat} (hE : TyE P t e sz bytes) {a : Option Addr} {n c : Nat} {xs : List Value} {L Bs : List Blk} (hO : OwnSl e sz a n c xs Bs) (hW : Cl w0 (L ++ Bs) W) (ty : TypeId)
    {ad : Addr} {m c2 : Nat} {news : List Value} (hl : news.length = m * sz) (hnews : ∀ j u, news[j]? = some u → W.cell? (ad.add j) = some u) (h1 : ∀ u ∈ news, u.oneCell' = true) (b1 : n + m ≤ maxLen) (b2 : (n + m) * bytes ≤ 140737488355328) :
    ∃ a' c' Bs' W', (Builtin.append_ #[t, t] ty #[.slice a n c, .slice (some ad) m c2]).run P W = .ok (.slice a' (n + m) c') W' ∧ OwnSl e sz a' (n + m) c' (xs ++ news) Bs' ∧ Cl w0 (L ++ Bs') W' := by
  obtain ⟨i, z, hi, hz, hsz, hby, hzs⟩ := hE.info
  obtain ⟨hlen, hO⟩ := hO
  have hlen2 : (xs ++ news).length = (n + m) * sz := by rw [List.length_append, hlen, hl, Nat.add_mul]
  have hWL : Cl w0 L W := hW.sub (List.sublist_append_left L Bs)
  -- what a new row looks like
  have fresh : ∀ (v' : Value) (W' : World), W'.ownsRow W.heap.size e sz v' (n + m) (xs ++ news) → W.grownBy W' none → v' ≠ .slice none 0 0 →
      ∃ a' c' Bs', v' = .slice a' (n + m) c' ∧ OwnSl e sz a' (n + m) c' (xs ++ news) Bs' ∧ Cl w0 (L ++ Bs') W' := by
    intro v' W' hr hg hne
    rcases hr.2 with ⟨h, _⟩ | ⟨g, cap, cur, hv, hbg, hcell, hnc, hcm, hcs, htake⟩
    · exact absurd h hne
    · refine ⟨some ⟨g, 0, none⟩, cap, [⟨g, cur.toList, e⟩], hv, ⟨hlen2, .inr ⟨g, cur.toList, rfl, rfl, hnc, hcm, by simpa using hcs, htake⟩⟩, ?_⟩
      refine hWL.beside ⟨⟨hg.os, hg.tape, hg.output, hg.size, fun k hk => hg.block k hk (by simp)⟩, ?_, ?_, by simp, fun k o hk _ => (hg.block k (Array.getElem?_eq_some_iff.1 hk).1 (by simp)).trans hk⟩
      · intro x hx
        obtain rfl : x = ⟨g, cur.toList, e⟩ := by simpa using hx
        simpa using hcell
      · intro x hx
        obtain rfl : x = ⟨g, cur.toList, e⟩ := by simpa using hx
        exact hbg
  rcases hO with ⟨rfl, rfl, rfl, rfl⟩ | ⟨g, cur, rfl, rfl, hnc, hcm, hcl, htake⟩
  · have hx : xs = [] := List.eq_nil_of_length_eq_zero (by simpa using hlen)
    subst hx
    by_cases hm : m = 0
    · subst hm
      have hn : news = [] := List.eq_nil_of_length_eq_zero (by simpa using hl)
      subst hn
      refine ⟨none, 0, [], W, ?_, OwnSl.nil e sz, hW⟩
      simp [Builtin.append_, run_underlying hE.u, sizeOf, typeInfo, hi, Builtin.lenOf, Builtin.firstCells, loadCells, loadCellsFrom]
    · obtain ⟨v', W', hrun, hr, hg, hnil⟩ := run_append_own (P := P) W W.heap.size t ty e i z sz bytes hE.u hi hz hsz hby hzs hE.pos (.slice none 0 0) 0 [] (World.ownsRow_nil W _ e sz) ad m c2 news hl hnews h1 b1 b2 (Nat.le_refl _)
      obtain ⟨a', c', Bs', rfl, h3, h4⟩ := fresh v' W' hr (by simpa [Value.ownBlock] using hg) (fun h => by have := hnil.1 h; omega)
      exact ⟨a', c', Bs', W', hrun, h3, h4⟩
  · have hgW : W.heap[g]? = some (.cells cur.toArray e (0, 0)) := hW.holds ⟨g, cur, e⟩ (by simp)
    by_cases hroom : n + m ≤ c
    · subst hsz
      have hfit : n * i.size + news.length ≤ cur.toArray.size := by
        rw [hl, ← Nat.add_mul]; simp only [List.size_toArray]; rw [hcl]; exact Nat.mul_le_mul_right _ hroom
      have hr := run_append_room (P := P) W t ty e i hE.u hi g n c cur.toArray hgW ad m c2 news hl hnews h1 hroom hfit
      have hrow := hW.setRow (x := ⟨g, cur, e⟩) L.length (by simp) (cur.take (n * i.size) ++ news ++ cur.drop (n * i.size + news.length))
      refine ⟨some ⟨g, 0, none⟩, c, [⟨g, cur.take (n * i.size) ++ news ++ cur.drop (n * i.size + news.length), e⟩], _, hr, ⟨hlen2, .inr ⟨g, _, rfl, rfl, hroom, hcm, ?_, ?_⟩⟩, ?_⟩
      · have hfit' : n * i.size + news.length ≤ cur.length := by simpa using hfit
        simp only [List.length_append, List.length_take, List.length_drop]; omega
      · rw [htake]; exact List.take_left' hlen2
      · simpa [List.set_append_right] using hrow
    · have hlo : xs.length = n * sz := hlen
      have holds : ∀ j u, xs[j]? = some u → W.cell? ((⟨g, 0, none⟩ : Addr).add j) = some u := by
        intro j u hu
        rw [cells_of hgW]
        rw [← htake, List.getElem?_take] at hu
        split at hu
        · simpa using hu
        · cases hu
      obtain ⟨v', W', hrun, hr, hg⟩ := run_append_arg_grows (P := P) W t ty e i z sz bytes hE.u hi hz hsz hby hzs hE.pos ⟨g, 0, none⟩ n c xs hlo holds ad m c2 news hl hnews (by omega) b1 b2
      obtain ⟨a', c', Bs', rfl, h3, h4⟩ := fresh v' W' hr hg (fun h => by
        rcases hr.2 with ⟨_, h0⟩ | ⟨g, cap, _, hv, _⟩
        · omega
        · rw [hv] at h; cases h)
      exact ⟨a', c', Bs', W', hrun, h3, h4⟩

theorem own_append_none {w0 : Base} {W : World} {t e : TypeId} {sz bytes : Nat} (hE : TyE P t e sz bytes) {a : Option Addr} {n c : Nat} {xs : List Value} {L Bs : List Blk} (hO : OwnSl e sz a n c xs Bs) (hW : Cl w0 (L ++ Bs) W) (ty : TypeId) :
    (Builtin.append_ #[t, t] ty #[.slice a n c, .slice none 0 0]).run P W = .ok (.slice a n c) W := by
  obtain ⟨i, z, hi, hz, hsz, hby, hzs⟩ := hE.info
  refine run_append_owned_none (P := P) W w0.w.heap.size t ty e i sz hE.u hi (.slice a n c) n xs ⟨hO.1, ?_⟩
  rcases hO.2 with ⟨rfl, rfl, rfl, rfl⟩ | ⟨g, cur, rfl, rfl, hnc, hcm, hcl, htake⟩
  · exact .inl ⟨rfl, rfl⟩
  · exact .inr ⟨g, c, cur.toArray, rfl, hW.own ⟨g, cur, e⟩ (by simp), hW.holds ⟨g, cur, e⟩ (by simp), hnc, hcm, by simpa using hcl, htake⟩

/-- a slice of one-cell elements that reads as this list -/
def Rd (w : World) (a : Option Addr) (xs : List Value) : Prop := ∀ j u, xs[j]? = some u → ∃ b i, a = some ⟨b, i, none⟩ ∧ w.cell? ⟨b, i + j, none⟩ = some u

theorem cell_past {w W : World} (hb : Below w.heap.size w W) {a : Addr} {v : Value} (h : w.cell? a = some v) : W.cell? a = some v :=
  (hb.cell (block_lt_of_cell h)).trans h
theorem Rd.past {w W : World} {a : Option Addr} {xs : List Value} (h : Rd w a xs) (hb : Below w.heap.size w W) : Rd W a xs := fun j u hu => by
  obtain ⟨b, i, ha, hc⟩ := h j u hu
  exact ⟨b, i, ha, cell_past hb hc⟩
theorem Rd.nil (w : World) (a : Option Addr) : Rd w a [] := fun j u hu => by simp at hu
theorem Rd.some {w : World} {a : Option Addr} {xs : List Value} (h : Rd w a xs) (hn : 0 < xs.length) : ∃ b i, a = some ⟨b, i, none⟩ ∧ ∀ j u, xs[j]? = some u → w.cell? ⟨b, i + j, none⟩ = some u := by
  obtain ⟨b, i, ha, _⟩ := h 0 xs[0] (by simp [hn])
  refine ⟨b, i, ha, fun j u hu => ?_⟩
  obtain ⟨b', i', ha', hc⟩ := h j u hu
  rw [ha] at ha'
  simp only [Option.some.injEq, Addr.mk.injEq, and_true] at ha'
  obtain ⟨rfl, rfl⟩ := ha'
  exact hc
/-- a part of a block that is known -/
theorem Cl.rd {w0 : Base} {W : World} {L : List Blk} (h : Cl w0 L W) (p : Nat) {g : Nat} {cs vs : List Value} {ty : TypeId} (hp : L[p]? = some ⟨g, cs, ty⟩) (i n : Nat) (hv : (cs.drop i).take n = vs) : Rd W (some ⟨g, i, none⟩) vs := fun j u hu => by
  refine ⟨g, i, rfl, ?_⟩
  rw [cell_at (h.at p hp)]
  subst hv
  rw [List.getElem?_take] at hu
  split at hu
  · rwa [List.getElem?_drop] at hu
  · cases hu
theorem OwnSl.rd {w0 : Base} {W : World} {e : TypeId} {a : Option Addr} {n c : Nat} {xs : List Value} {L Bs : List Blk} (hO : OwnSl e 1 a n c xs Bs) (hW : Cl w0 (L ++ Bs) W) : Rd W a xs := by
  rcases hO.2 with ⟨rfl, rfl, rfl, rfl⟩ | ⟨g, cur, rfl, rfl, hnc, hcm, hcl, htake⟩
  · have : xs = [] := List.eq_nil_of_length_eq_zero (by simpa using hO.1)
    subst this; exact Rd.nil _ _
  · exact hW.rd (g := g) (cs := cur) (ty := e) L.length (by simp) 0 (n * 1) (by simpa using htake)

/-- what a call hands back, beside memory of its own -/
def GivesX (P : Program) (f : FuncId) (args : Array Value) (Pre : World → Prop) (X : Value → List Blk → Prop) : Prop :=
  ∀ w, Pre w → Calls P f args w fun e w' => ∃ v Bs, e = .returned v ∧ X v Bs ∧ Cl (base w) Bs w'
/-- a call that only reads what lay there, and hands back this value -/
def GivesR (P : Program) (f : FuncId) (args : Array Value) (Pre : World → Prop) (v : Value) : Prop :=
  ∀ w, Pre w → Calls P f args w fun e w' => e = .returned v ∧ Below w.heap.size w w'
/-- a slice in new memory -/
def NewSl (e : TypeId) (sz n : Nat) (xs : List Value) (v : Value) (Bs : List Blk) : Prop := ∃ a c, v = .slice a n c ∧ OwnSl e sz a n c xs Bs

variable {ops : Array Oper} {Q : Exit → Act → World → Prop} {bs : List Value} {us : List (Nat × Value)} {ds : List Deferred} {w0 : Base} {W : World} {rest : List Oper} {o : Oper} {L Bs : List Blk} {d : Nat} {v : Value} {r : Option (Option Nat)} {m : Nat}

theorem run_append_op {s x : Operand} {t : TypeId} {u y : Value} {W' : World} (ho : o.op = .call { callee := .builtin .append, args := #[s, x], argTypes := #[t, t] }) (hs : ev bs us s = u) (hx : ev bs us x = y)
    (h : (Builtin.append_ #[t, t] o.type #[u, y]).run P W = .ok v W') : (execOp (ev bs us) o).run P W = .ok (.value v) W' := by
  unfold execOp
  simp [ho, resolve, invoke, builtin, hs, hx, h]

theorem l_append {t e : TypeId} {sz bytes : Nat} (hE : TyE P t e sz bytes) {a : Option Addr} {n c : Nat} {xs : List Value} (hO : OwnSl e sz a n c xs Bs) (hW : Cl w0 (L ++ Bs) W)
    {s x : Operand} {ad : Addr} {k c2 : Nat} {news : List Value} {N : Nat} (hN : n + k = N) (hg : o.guard = none) (ho : o.op = .call { callee := .builtin .append, args := #[s, x], argTypes := #[t, t] }) (hs : ev bs us s = .slice a n c) (hx : ev bs us x = .slice (some ad) k c2) (hd : o.dst = some d)
    (hl : news.length = k * sz) (hnews : ∀ j u, news[j]? = some u → W.cell? (ad.add j) = some u) (h1 : ∀ u ∈ news, u.oneCell' = true) (b1 : N ≤ maxLen) (b2 : N * bytes ≤ 140737488355328)
    (h : ∀ a' c' Bs' W', OwnSl e sz a' N c' (xs ++ news) Bs' → Cl w0 (L ++ Bs') W' → LW r m P ops Q rest (fr bs ((d, .slice a' N c') :: us) ds) W') : LW r m P ops Q (o :: rest) (fr bs us ds) W := by
  subst hN
  obtain ⟨a', c', Bs', W', hrun, h3, h4⟩ := own_append hE hO hW o.type hl hnews h1 b1 b2
  exact l_run hg (run_append_op ho hs hx hrun) hd (h a' c' Bs' W' h3 h4)
/-- what is appended is a whole block of the call's own -/
theorem l_appendB {t e : TypeId} {sz bytes : Nat} (hE : TyE P t e sz bytes) {a : Option Addr} {n c : Nat} {xs : List Value} (hO : OwnSl e sz a n c xs Bs) (hW : Cl w0 (L ++ Bs) W) (p : Nat)
    {s x : Operand} {g k c2 : Nat} {news : List Value} {ty : TypeId} {N : Nat} (hN : n + k = N) (hg : o.guard = none) (ho : o.op = .call { callee := .builtin .append, args := #[s, x], argTypes := #[t, t] }) (hs : ev bs us s = .slice a n c) (hx : ev bs us x = .slice (some ⟨g, 0, none⟩) k c2) (hd : o.dst = some d)
    (hp : (L ++ Bs)[p]? = some ⟨g, news, ty⟩) (hl : news.length = k * sz) (h1 : ∀ u ∈ news, u.oneCell' = true) (b1 : N ≤ maxLen) (b2 : N * bytes ≤ 140737488355328)
    (h : ∀ a' c' Bs' W', OwnSl e sz a' N c' (xs ++ news) Bs' → Cl w0 (L ++ Bs') W' → LW r m P ops Q rest (fr bs ((d, .slice a' N c') :: us) ds) W') : LW r m P ops Q (o :: rest) (fr bs us ds) W :=
  l_append hE hO hW hN hg ho hs hx hd hl (fun j u hu => by rw [cells_of (hW.at p hp)]; simpa using hu) h1 b1 b2 h
/-- what is appended is read (one-cell elements) -/
theorem l_appendR {t e : TypeId} {bytes : Nat} (hE : TyE P t e 1 bytes) {a : Option Addr} {n c : Nat} {xs : List Value} (hO : OwnSl e 1 a n c xs Bs) (hW : Cl w0 (L ++ Bs) W)
    {s x : Operand} {ax : Option Addr} {k c2 : Nat} {news : List Value} (hr : Rd W ax news) {N : Nat} (hN : n + k = N) (hg : o.guard = none) (ho : o.op = .call { callee := .builtin .append, args := #[s, x], argTypes := #[t, t] }) (hs : ev bs us s = .slice a n c) (hx : ev bs us x = .slice ax k c2) (hd : o.dst = some d)
    (hl : news.length = k) (hnil : ax = none → k = 0 ∧ c2 = 0) (h1 : ∀ u ∈ news, u.oneCell' = true) (b1 : N ≤ maxLen) (b2 : N * bytes ≤ 140737488355328)
    (h : ∀ a' c' Bs' W', OwnSl e 1 a' N c' (xs ++ news) Bs' → Cl w0 (L ++ Bs') W' → LW r m P ops Q rest (fr bs ((d, .slice a' N c') :: us) ds) W') : LW r m P ops Q (o :: rest) (fr bs us ds) W := by
  subst hN
  cases ax with
  | none =>
    obtain ⟨rfl, rfl⟩ := hnil rfl
    have hn : news = [] := List.eq_nil_of_length_eq_zero hl
    subst hn
    refine l_run hg (run_append_op ho hs hx (own_append_none hE hO hW o.type)) hd ?_
    have := h a c Bs W (by simpa using hO) hW
    simpa using this
  | some q =>
    refine l_append hE hO hW rfl hg ho hs hx hd (by omega) (fun j u hu => ?_) h1 b1 b2 h
    obtain ⟨b, i, ha, hc⟩ := hr j u hu
    simp only [Option.some.injEq] at ha
    subst ha
    rw [Addr.add_lit]; exact hc

theorem OwnSl.nilOf {e : TypeId} {sz : Nat} {a : Option Addr} {n c : Nat} {xs : List Value} (h : OwnSl e sz a n c xs Bs) : a = none → n = 0 ∧ c = 0 := fun e => by
  rcases h.2 with ⟨_, h1, h2, _⟩ | ⟨g, cur, ha, _⟩
  · exact ⟨h1, h2⟩
  · rw [e] at ha; cases ha
theorem OwnSl.spot {e : TypeId} {sz : Nat} {a : Option Addr} {n c : Nat} {xs : List Value} (h : OwnSl e sz a n c xs Bs) : ∀ q, a = some q → q.spot = none := fun q e => by
  rcases h.2 with ⟨ha, _⟩ | ⟨g, cur, ha, _⟩
  · rw [e] at ha; cases ha
  · rw [e] at ha; cases ha; rfl
theorem OwnSl.row {e : TypeId} {sz : Nat} {a : Option Addr} {n c : Nat} {xs : List Value} (h : OwnSl e sz a n c xs Bs) (hn : 0 < n) : ∃ g cur, a = some ⟨g, 0, none⟩ ∧ Bs = [⟨g, cur, e⟩] ∧ n ≤ c ∧ cur.length = c * sz ∧ cur.take (n * sz) = xs := by
  rcases h.2 with ⟨_, h1, h2, _⟩ | ⟨g, cur, ha, hb, h1, _, h2, h3⟩
  · omega
  · exact ⟨g, cur, ha, hb, h1, h2, h3⟩

theorem OwnSl.cells {w0 : Base} {W : World} {e : TypeId} {a : Option Addr} {n c : Nat} {xs : List Value} {L Bs : List Blk} (hO : OwnSl e 1 a n c xs Bs) (hn : 0 < n) (hW : Cl w0 (L ++ Bs) W) : ∃ g, a = some ⟨g, 0, none⟩ ∧ ∀ j u, xs[j]? = some u → W.cell? ⟨g, 0 + j, none⟩ = some u := by
  obtain ⟨g, cur, rfl, rfl, _, _, ht⟩ := hO.row hn
  refine ⟨g, rfl, fun j u hu => ?_⟩
  obtain ⟨b, i, ha, hc⟩ := hO.rd hW j u hu
  simp only [Option.some.injEq, Addr.mk.injEq, and_true] at ha
  obtain ⟨rfl, rfl⟩ := ha
  exact hc

theorem take_get {cur xs : List Value} {n i : Nat} (ht : cur.take n = xs) (h : xs[i]? = some v) : cur[i]? = some v := by
  subst ht
  rw [List.getElem?_take] at h
  split at h
  · exact h
  · cases h

/-- one less than a number -/
def im1 : Nat → Int
  | 0 => -1
  | n + 1 => n
theorem im1_dec {n : Nat} (h : n < 4294967296) : IntKind.i64.wrap ((n : Int) - 1) = im1 n := by
  cases n with
  | zero => rfl
  | succ m =>
    rw [show ((m + 1 : Nat) : Int) - 1 = (m : Int) by omega]
    exact wrap64_nat m (by omega)

/-- a call that hands back memory of its own -/
theorem l_callX (hW : Cl w0 L W) {f : FuncId} {xs : Array Operand} {ts : Array TypeId} {args : List Value} {Pre : World → Prop} {X : Value → List Blk → Prop} (hgv : GivesX P f args.toArray Pre X) (he : Enters P f) (hp : Pre W) (hg : o.guard = none) (ho : o.op = .call { callee := .value (.func f), args := xs, argTypes := ts }) (ha : xs.toList.map (ev bs us) = args) (hd : o.dst = some d)
    (h : ∀ v Bs W', X v Bs → Cl w0 (L ++ Bs) W' → LW r m P ops Q rest (fr bs ((d, v) :: us) ds) W') : LW r m P ops Q (o :: rest) (fr bs us ds) W :=
  l_enter hg (run_call he ho ha) hd ((hgv W hp).mono fun _ w ⟨v, Bs, he, hx, hc⟩ => ⟨v, he, h v Bs w hx (hW.beside hc)⟩)
theorem l_callR (hW : Cl w0 L W) {f : FuncId} {xs : Array Operand} {ts : Array TypeId} {args : List Value} {Pre : World → Prop} (hgv : GivesR P f args.toArray Pre v) (he : Enters P f) (hp : Pre W) (hg : o.guard = none) (ho : o.op = .call { callee := .value (.func f), args := xs, argTypes := ts }) (ha : xs.toList.map (ev bs us) = args) (hd : o.dst = some d)
    (h : ∀ W', Cl w0 L W' → LW r m P ops Q rest (fr bs ((d, v) :: us) ds) W') : LW r m P ops Q (o :: rest) (fr bs us ds) W :=
  l_enter hg (run_call he ho ha) hd ((hgv W hp).mono fun _ w ⟨he, hb⟩ => ⟨v, he, h w (hW.past hb)⟩)
/-- a call that hands back memory of its own, among operations that change places -/
theorem y_callX (i : Nat) {S : List Nat} {ks : List Kd} {ms : List Mk} {V : List (List Value)} {R : Act → St → Prop} {T : List Oper → Act → St → Prop} {f : FuncId} {xs : Array Operand} {ts : Array TypeId} {args : List Value} {Pre : World → Prop} {X : Value → List Blk → Prop} (hgv : GivesX P f args.toArray Pre X) (he : Enters P f)
    (hk : ms[i]? = some ⟨d, fun _ => X⟩) {z : List Value} (hV : V[i]? = some z) (hp : ∀ L2 w, Sim S L L2 → Cl w0 L2 w → Pre w) (ho : o.op = .call { callee := .value (.func f), args := xs, argTypes := ts }) (ha : xs.toList.map (ev bs us) = args)
    (h : lx P ops w0 S ms R T ks rest (fr bs us ds) (L, V)) : lx P ops w0 S ms R T (.mk i :: ks) (o :: rest) (fr bs us ds) (L, V) := by
  refine ⟨undef, (L, V), ⟨rfl, rfl, _, z, hk, hV, fun L2 hs w hC => .inr ⟨f, args.toArray, ?_, ?_⟩⟩, h⟩
  · rw [eval_ev]; exact run_call he ho ha w
  · exact (hgv w (hp L2 w hs hC)).mono fun e w' ⟨v, Bs, he, hx, hc⟩ => ⟨v, he, Bs, hx, hC.beside hc⟩

/-- a call that looks at what a maker has made -/
theorem y_callRd (i : Nat) {S : List Nat} {ks : List Kd} {ms : List Mk} {V : List (List Value)} {R : Act → St → Prop} {T : List Oper → Act → St → Prop} {f : FuncId} {xs : Array Operand} {ts : Array TypeId} {k : Mk} {z : List Value} (hk : ms[i]? = some k) (hV : V[i]? = some z)
    (hgv : ∀ u Bs, k.X z u Bs → ∃ args Pre, GivesR P f (List.toArray args) Pre v ∧ (∀ M w, Cl w0 (M ++ Bs) w → Pre w) ∧ xs.toList.map (ev bs ((k.d, u) :: us)) = args) (he : Enters P f) (hg : o.guard = none) (ho : o.op = .call { callee := .value (.func f), args := xs, argTypes := ts }) (hd : o.dst = some d)
    (h : lx P ops w0 S ms R T ks rest (fr bs ((d, v) :: us) ds) (L, V)) : lx P ops w0 S ms R T (.rd i :: ks) (o :: rest) (fr bs us ds) (L, V) := by
  refine ⟨v, (L, V), ⟨rfl, k, z, hk, hV, fun u Bs L2 hs hX => .inl ⟨wanted_none hg, fun w hC => ?_⟩⟩, by simp only [putK, hd, put_st]; exact h⟩
  obtain ⟨args, Pre, hG, hP, ha⟩ := hgv u Bs hX
  unfold Oper.quietAt
  rw [put_st, eval_ev, run_call he ho ha w]
  exact ⟨rfl, (hG w (hP L2 w hC)).mono fun e w' ⟨he, hb⟩ => ⟨he, hC.past hb⟩⟩
/-- a load of what lay there before the call -/
theorem l_loadF (hW : Cl w0 L W) {t : TypeId} (ht : TyC P t) {x : Operand} {b i : Nat} (hc : w0.w.cell? ⟨b, i, none⟩ = some v) (hg : o.guard = none) (ho : o.op = .load t x) (hx : ev bs us x = .pointer (some ⟨b, i, none⟩)) (hd : o.dst = some d)
    (h : LW r m P ops Q rest (fr bs ((d, v) :: us) ds) W) : LW r m P ops Q (o :: rest) (fr bs us ds) W := by
  refine l_run hg ?_ hd h
  have hc' := cell_past hW.below hc
  unfold execOp
  simp [ho, hx, Instr.loadAt, Instr.sureAddr, loadVar, ht.agg W, hc']
theorem r_indexAddrSl2 {t e : Nat} {x y : Operand} {g i len c : Nat} {k : IntKind} {n : Nat} (ht : P.underlying t = some (.slice e)) (hz : ∀ w, (sizeOf e).run P w = .ok 1 w) (ho : o.op = .indexAddr t x y)
    (hx : ev bs us x = .slice (some ⟨g, i, none⟩) len c) (hy : ev bs us y = .int k (n : Int)) (hn : n < len) : Runs P bs us o (.pointer (some ⟨g, i + n, none⟩)) := by
  have := r_indexAddrSl ht hz ho hx hy hn
  simpa using this

/-! ### slice expressions -/
/-! ### functions -/
theorem givesR_of {f : FuncId} {fn : Func} {c : Code} {args : List Value} {Pre : World → Prop} (hf : P.funcs[f]? = some fn) (hb : fn.body = some c) (hl : args ++ List.replicate (fn.ntmps - args.length) undef = bs)
    (h : ∀ w, Pre w → Cl (base w) [] w → CW none 0 P c (bodyPost P fn (fun e w' => e = .returned v ∧ Below w.heap.size w w')) (fr bs [] []) w) : GivesR P f args.toArray Pre v := fun w hp => by
  refine calls_of_wp hf hb ?_
  have e : args.toArray ++ Array.replicate (fn.ntmps - args.toArray.size) undef = bs.toArray := by
    rw [← hl]; simp
  rw [e]
  exact h w hp (Cl.nil w)
theorem givesX_of {f : FuncId} {fn : Func} {c : Code} {args : List Value} {Pre : World → Prop} {X : Value → List Blk → Prop} (hf : P.funcs[f]? = some fn) (hb : fn.body = some c) (hl : args ++ List.replicate (fn.ntmps - args.length) undef = bs)
    (h : ∀ w, Pre w → Cl (base w) [] w → CW none 0 P c (bodyPost P fn (fun e w' => ∃ v Bs, e = .returned v ∧ X v Bs ∧ Cl (base w) Bs w')) (fr bs [] []) w) : GivesX P f args.toArray Pre X := fun w hp => by
  refine calls_of_wp hf hb ?_
  have e : args.toArray ++ Array.replicate (fn.ntmps - args.toArray.size) undef = bs.toArray := by
    rw [← hl]; simp
  rw [e]
  exact h w hp (Cl.nil w)
end
end Go.Proofs.YtoegpalacppllaaGreat

/- A range over a function whose iterator yields a known number of times, each time the arguments that are known, to a body that goes on. No function of the program is in sight here. -/
namespace Go.Proofs.YtoegpalacppllaaGreat
open Go.RowKit

section
variable {P : Program} {ops : Array Oper} {Q : Exit → Act → World → Prop} {bs : List Value} {us : List (Nat × Value)} {ds : List Deferred} {b : Base} {W : World} {rest : List Oper} {o : Oper} {L Bx : List Blk} {d : Nat} {v : Value} {m : Nat}

/-- what an iterator does: it yields n times -/
def Iter (P : Program) (gf : Nat) (lb : Array Value) (n : Nat) (enc : Nat → Array Value) (Bx : List Blk) : Prop :=
  ∀ (b : Base) (l : Nat) (Lc : Nat → List Blk) (W : World),
    (∀ (i : Nat) (L : List Blk) (W : World), i < n → Cl b (L ++ (Bx ++ Lc i)) W → YieldAt Fence.wide 0 P l (enc i) W fun e W' => e = .returned (.bool true) ∧ Cl b (L ++ (Bx ++ Lc (i + 1))) W') →
    Cl b (Bx ++ Lc 0) W → CallsIn Fence.wide 0 P gf (#[.func (.yield l) #[] #[]] ++ lb) W fun e W' => (∃ v, e = .returned v) ∧ Cl b (Bx ++ Lc n) W'

theorem run_callY {l : Nat} {x : Operand} {xs : Array Operand} {ts : Array TypeId} {args : List Value} (ho : o.op = .call { callee := .value x, args := xs, argTypes := ts }) (hx : ev bs us x = .func (.yield l) #[] #[]) (ha : xs.toList.map (ev bs us) = args) (w : World) :
    (execOp (ev bs us) o).run P w = (Instr.yield l args.toArray).run P w := by
  have e : xs.map (ev bs us) = args.toArray := by subst ha; apply Array.ext'; simp only [Array.toList_map]
  unfold execOp
  simp only [ho, resolve, e, hx, Deferred.ofValue, Sem.run_bind, Sem.run_pure, Result.andThen_ok, invoke, callFunc]
  simp

theorem l_yield {l : Nat} {x : Operand} {xs : Array Operand} {ts : Array TypeId} {args : List Value} {L' : List Blk} (hY : YieldAt Fence.wide 0 P l args.toArray W fun e W' => e = .returned (.bool true) ∧ Cl b L' W')
    (hg : o.guard = none) (ho : o.op = .call { callee := .value x, args := xs, argTypes := ts }) (hx : ev bs us x = .func (.yield l) #[] #[]) (ha : xs.toList.map (ev bs us) = args) (hd : o.dst = some d)
    (h : ∀ W', Cl b L' W' → LW (some none) 0 P ops Q rest (fr bs ((d, .bool true) :: us) ds) W') : LW (some none) 0 P ops Q (o :: rest) (fr bs us ds) W := by
  refine ⟨wpListIn_step fun K hK => ?_⟩
  rw [if_pos (wanted_none hg)]
  refine ⟨about_ok none, ?_⟩
  obtain ⟨fn, tmps, assign, body, hr, hR⟩ := hY
  have hrun : (execOp (fr bs us ds).eval o).run P W = .ok (.round l fn tmps assign body) W := by rw [eval_ev, run_callY ho hx ha]; exact hr
  have e : o.semAt (RF none).round (fr bs us ds).eval = execOp (fr bs us ds).eval o := Oper.semAt_eq _ _ _ (not_defer hrun (fun d h => by cases h))
  rw [e, hrun, Oper.uponIn_round]
  refine ⟨RF_depth none, RoundIn.mono hR ?_⟩
  rintro e w ⟨rfl, hw⟩
  refine hK _ _ ?_
  rw [hd, put_st]
  exact (h w hw).h

theorem Cl.rebase {W1 : World} (h : Cl b L W) (hb : Below W.heap.size W W1) : Cl ⟨b.w, W1⟩ L W1 :=
  ⟨(h.past hb).below, (h.past hb).holds, h.own, h.apart, fun _ _ h _ => h⟩
theorem Cl.put {l : Nat} {o' : Obj} (h : Cl b L W) (o2 : Obj) (hl : W.heap[l]? = some o') (ho : o'.isCells = false) (hb : b.w.heap.size ≤ l) : Cl ⟨b.w, W.putObj l o2⟩ L (W.putObj l o2) := by
  have hne : ∀ x ∈ L, x.id ≠ l := fun x hx e => by
    have h1 := h.holds x hx
    rw [e, hl] at h1
    injection h1 with h1
    subst h1; cases ho
  refine ⟨h.below.trans ⟨rfl, rfl, rfl, by simp, fun k hk => World.putObj_heap_other (by omega)⟩, fun x hx => ?_, h.own, h.apart, fun _ _ h _ => h⟩
  exact (World.putObj_heap_other (hne x hx)).trans (h.holds x hx)

theorem c_range {g : Operand} {ps : Array Tmp} {assign body : Code} {gf : FuncId} {lb : Array Value} {n : Nat} {enc : Nat → Array Value} (hI : Iter P gf lb n enc Bx) (en : Enters P gf) (hg : ev bs us g = .func (.func gf) #[] lb) (hps : ∀ i, (enc i).size = ps.size)
    (Lc : Nat → List Blk) (hW : Cl b (Bx ++ Lc 0) W) (A : Nat → Act)
    (E : Nat → List Value) (hE : ∀ i, ({ tmps := (ps.zip (enc i)).foldl (fun t (p, v) => t.setIfInBounds p v) (fr bs us ds).tmps, defers := [] } : Act) = fr (E i) [] [])
    (hassign : ∀ (l i : Nat) (W : World), CW (some (some l)) 0 P assign (Exit.then (fun a W' => a = A i ∧ W' = W) (fun _ _ _ => False)) (fr (E i) [] []) W)
    (hbody : ∀ (l : Nat) (r : World) (i : Nat) (L : List Blk) (W : World), i < n → Cl ⟨b.w, r⟩ ((Bx ++ Lc i) ++ L) W → CW (some (some l)) 0 P body (fun e _ W' => e = .normal ∧ Cl ⟨b.w, r⟩ ((Bx ++ Lc (i + 1)) ++ L) W') (A i) W)
    (hdone : ∀ (D : Nat) (r W' : World), b.w.heap.size ≤ D → Cl ⟨b.w, r⟩ (Bx ++ Lc n) W' → r.heap[D]? = some (.deferred (some [])) → Q .normal (fr bs us ({ target := .collected D, args := #[] } :: ds)) W') :
    CW (some none) 0 P (Code.rangeFunc g ps assign body) Q (fr bs us ds) W := by
  refine wpIn_rangeFunc ?_
  intro fn hfn
  obtain ⟨rec, hrec⟩ : ∃ rec : LoopState → Option Code → Loop, rec = fun st pe => { state := st, pending := pe, fn, tmps := (fr bs us ds).tmps, params := ps, assign, body, defers := W.heap.size } := ⟨_, rfl⟩
  obtain ⟨W1, hW1⟩ : ∃ W1, (W.alloc (.deferred (some []))).alloc (.loop (rec .ready none)) = W1 := ⟨_, rfl⟩
  have hL1 : W1.heap[W.heap.size + 1]? = some (.loop (rec .ready none)) := by
    rw [← hW1]; have := World.alloc_heap_new (W.alloc (.deferred (some []))) (.loop (rec .ready none)); rwa [World.size_alloc] at this
  have hK1 : W1.heap[W.heap.size]? = some (.deferred (some [])) := by
    rw [← hW1]; exact (Below.heap_alloc _ _ _ (by simp)).trans (World.alloc_heap_new W _)
  have hb1 : Below W.heap.size W W1 := by
    rw [← hW1]; exact ((Below.refl _ W).alloc (Nat.le_refl _) _).alloc (by simp) _
  have hC1 := hW.rebase hb1
  have hsz := hW.below.size
  refine ⟨W.heap.size + 1, [{ target := .collected W.heap.size, args := #[] }], W1, { target := .fn (.func gf) lb, args := #[.func (.yield (W.heap.size + 1)) #[] #[]] }, W1, gf,
    #[.func (.yield (W.heap.size + 1)) #[] #[]] ++ lb, W1, ?_, ?_, fun _ _ => trivial, ?_, fun h => RF_depth none h, ?_⟩
  · rw [← hW1, hrec]; exact run_enterLoop_outer _ _ _ _ _
  · rw [eval_ev]; simp only [resolve, hg]
    simp [go_sem]
    rfl
  · simp [invoke, go_sem, en _ W1]
  · refine (hI ⟨b.w, W1⟩ (W.heap.size + 1) Lc W1 ?_ hC1).mono ?_
    · intro i L W2 hi hcl
      have hl := hcl.oth _ _ hL1 rfl
      have hy := run_yield (P := P) (args := enc i) hl (by rw [hrec]; exact hps i)
      rw [hrec] at hy
      refine ⟨fn, _, assign, body, hy, roundIn_of_wpIn hfn ((hE i) ▸ wpIn_mono (hassign (W.heap.size + 1) i W2) ?_)⟩
      intro e a W3 he
      cases e with
      | normal =>
        obtain ⟨rfl, rfl⟩ := he
        refine ⟨_, run_beginRound hl (by rw [hrec]), ?_⟩
        have hlt : W.heap.size + 1 < W3.heap.size := (Array.getElem?_eq_some_iff.1 hl).1
        have hl2 : (W3.putObj (W.heap.size + 1) (.loop { rec .ready none with state := .busy })).heap[W.heap.size + 1]? = some (.loop { rec .ready none with state := .busy }) := World.putObj_heap_same hlt
        refine wpIn_mono (hbody (W.heap.size + 1) _ i L _ hi ((hcl.put _ hl rfl (by show b.w.heap.size ≤ _; omega)).perm List.perm_append_comm)) ?_
        rintro e a W4 ⟨rfl, h4⟩
        have hl4 := h4.oth _ _ hl2 rfl
        refine ⟨_, _, run_endRound none hl4, rfl, ?_⟩
        have h5 := (h4.perm List.perm_append_comm).put (.loop (rec .ready none)) hl4 rfl (by show b.w.heap.size ≤ _; omega)
        have er : ({ rec .ready none with state := .busy } : Loop) = rec .busy none := by rw [hrec]
        have hpo : (W4.putObj (W.heap.size + 1) (.loop { ({ rec .ready none with state := .busy } : Loop) with state := if (none : Option Code).isNone then .ready else .done, pending := none })) = W4.putObj (W.heap.size + 1) (.loop (rec .ready none)) := by rw [hrec]; rfl
        rw [hpo]
        refine ⟨h5.below, h5.holds, h5.own, h5.apart, fun k o hk ho => ?_⟩
        by_cases hkl : k = W.heap.size + 1
        · subst hkl
          have hk' : W1.heap[W.heap.size + 1]? = some o := hk
          rw [hL1] at hk'
          rw [← hk']
          exact World.putObj_heap_same (Array.getElem?_eq_some_iff.1 hl4).1
        · refine (World.putObj_heap_other hkl).trans (h4.oth k o ?_ ho)
          exact (World.putObj_heap_other hkl).trans (hcl.oth k o hk ho)
      | _ => exact he.elim
    · rintro e W3 ⟨⟨v, rfl⟩, h3⟩
      have hl := h3.oth _ _ hL1 rfl
      have hk := h3.oth _ _ hK1 rfl
      refine ⟨_, _, run_endLoop hl (by rw [hrec]; simp), ?_⟩
      have hpe : (rec .ready none).pending = none := by rw [hrec]
      rw [hpe]
      exact hdone W.heap.size _ _ hsz (h3.put _ hl rfl (by show b.w.heap.size ≤ _; omega)) ((World.putObj_heap_other (by omega)).trans hk)

theorem r_closure {f : Fn} {cs : Array Operand} {vs : List Value} (ho : o.op = .makeFunc f #[] cs) (hc : cs.toList.map (ev bs us) = vs) : Runs P bs us o (.func f #[] vs.toArray) :=
  r_makeFunc ho (by simp) (by subst hc; apply Array.ext'; simp only [Array.toList_map])

/-! ### functions that hold such a loop, and iterators -/
variable {fn : Func} {R' : Ending → World → Prop}
theorem postM_of {e : Exit} {a : Act} (h : bodyPost P fn R' e a W) : bodyPostM Fence.wide 0 P fn R' e a W := by
  cases e with
  | normal =>
    obtain ⟨hd, h⟩ := h
    show LeavesInM Fence.wide 0 P fn a.tmps R' a.defers .returning W
    rw [hd]; exact h
  | ret =>
    obtain ⟨hd, h⟩ := h
    show LeavesInM Fence.wide 0 P fn a.tmps R' a.defers .returning W
    rw [hd]; exact h
  | panic ch =>
    obtain ⟨hd, h⟩ := h
    show LeavesInM Fence.wide 0 P fn a.tmps R' a.defers (.panicking ch) W
    rw [hd]; exact h
  | outgrown => exact h
  | exit id => exact h
  | goto t => exact h
theorem r_mark (hW : Cl b L W) {D : Nat} (hb : b.w.heap.size ≤ D) (hD : b.r.heap[D]? = some (.deferred (some []))) (h : ∀ r W', Cl ⟨b.w, r⟩ L W' → bodyPost P fn R' .ret (fr bs us []) W') :
    bodyPostM Fence.wide 0 P fn R' .ret (fr bs us [{ target := .collected D, args := #[] }]) W := by
  have hk := hW.oth _ _ hD rfl
  refine ⟨by simp, .inl ⟨D, _, rfl, run_takeDeferred hk, ?_⟩⟩
  obtain ⟨_, h⟩ := h _ _ (hW.put (.deferred none) hk rfl hb)
  exact h
theorem givesM_of {f : FuncId} {c : Code} {args : List Value} (hf : P.funcs[f]? = some fn) (hb : fn.body = some c) (hl : args ++ List.replicate (fn.ntmps - args.length) undef = bs)
    (h : ∀ w, Cl (base w) [] w → CW (some none) 0 P c (bodyPostM Fence.wide 0 P fn (fun e w' => e = .returned v ∧ Below w.heap.size w w')) (fr bs [] []) w) : Gives P f args.toArray v := fun w => by
  refine callsIn_wide.1 (callsIn_of_wp_marks (n := 0) hf hb trivial ?_)
  have e : args.toArray ++ Array.replicate (fn.ntmps - args.toArray.size) undef = bs.toArray := by
    rw [← hl]; simp
  rw [e]
  exact h w (Cl.nil w)
theorem iter_of {gf : FuncId} {c : Code} {lb : List Value} {n : Nat} {enc : Nat → Array Value} {F : Nat → List Value} (hf : P.funcs[gf]? = some fn) (hb : fn.body = some c) (hl : ∀ l, [Value.func (.yield l) #[] #[]] ++ lb ++ List.replicate (fn.ntmps - (lb.length + 1)) undef = F l)
    (h : ∀ (b : Base) (l : Nat) (Lc : Nat → List Blk) (W : World),
      (∀ (i : Nat) (L : List Blk) (W : World), i < n → Cl b (L ++ (Bx ++ Lc i)) W → YieldAt Fence.wide 0 P l (enc i) W fun e W' => e = .returned (.bool true) ∧ Cl b (L ++ (Bx ++ Lc (i + 1))) W') →
      Cl b (Bx ++ Lc 0) W → CW (some none) 0 P c (bodyPostM Fence.wide 0 P fn (fun e W' => (∃ v, e = .returned v) ∧ Cl b (Bx ++ Lc n) W')) (fr (F l) [] []) W) : Iter P gf lb.toArray n enc Bx := fun b l Lc W hY hW => by
  refine callsIn_of_wp_marks hf hb trivial ?_
  have e : #[Value.func (.yield l) #[] #[]] ++ lb.toArray ++ Array.replicate (fn.ntmps - (#[Value.func (.yield l) #[] #[]] ++ lb.toArray).size) undef = (F l).toArray := by
    rw [← hl]; simp
  rw [e]
  exact h b l Lc W hY hW
end
end Go.Proofs.YtoegpalacppllaaGreat

/- Plain laws of the cipher: what its functions compute, over pairs of 64-bit words, and that encryption and decryption undo each other. No program is in sight here. -/
namespace Go.Proofs.YtoegpalacppllaaGreat.Pl

abbrev W64 := BitVec 64
/-- a key, or a block: its two words -/
abbrev Kw := BitVec 64 × BitVec 64

def rnd (p : Kw) (k : W64) : Kw := ((p.1.rotateRight 8 + p.2) ^^^ k, p.2.rotateLeft 3 ^^^ ((p.1.rotateRight 8 + p.2) ^^^ k))
def bck (p : Kw) (k : W64) : Kw := (((p.1 ^^^ k) - (p.1 ^^^ p.2).rotateRight 3).rotateLeft 8, (p.1 ^^^ p.2).rotateRight 3)

theorem rotR_rotL (x : W64) (n : Nat) (h : n < 64) : (x.rotateLeft n).rotateRight n = x := by
  apply BitVec.eq_of_getLsbD_eq
  intro i hi
  have hn : n % 64 = n := Nat.mod_eq_of_lt h
  rw [BitVec.getLsbD_rotateRight, BitVec.getLsbD_rotateLeft, BitVec.getLsbD_rotateLeft, hn]
  by_cases h1 : i < 64 - n
  · have h2 : ¬ (n + i < n) := by omega
    have h3 : n + i < 64 := by omega
    have e : n + i - n = i := by omega
    simp only [decide_eq_true h1, decide_eq_false h2, decide_eq_true h3, cond_true, cond_false, Bool.true_and, e]
  · have h2 : i - (64 - n) < n := by omega
    have e : 64 - n + (i - (64 - n)) = i := by omega
    simp only [decide_eq_false h1, decide_eq_true h2, decide_eq_true hi, cond_true, cond_false, Bool.true_and, e]

theorem rotL_rotR (x : W64) (n : Nat) (h : n < 64) : (x.rotateRight n).rotateLeft n = x := by
  apply BitVec.eq_of_getLsbD_eq
  intro i hi
  have hn : n % 64 = n := Nat.mod_eq_of_lt h
  rw [BitVec.getLsbD_rotateLeft, BitVec.getLsbD_rotateRight, BitVec.getLsbD_rotateRight, hn]
  by_cases h1 : i < n
  · have h2 : ¬ (64 - n + i < 64 - n) := by omega
    have h3 : 64 - n + i < 64 := by omega
    have e : 64 - n + i - (64 - n) = i := by omega
    simp only [decide_eq_true h1, decide_eq_false h2, decide_eq_true h3, cond_true, cond_false, Bool.true_and, e]
  · have h2 : i - n < 64 - n := by omega
    have e : n + (i - n) = i := by omega
    simp only [decide_eq_false h1, decide_eq_true h2, decide_eq_true hi, cond_true, cond_false, Bool.true_and, e]

theorem xor_self_left (a b : W64) : a ^^^ (a ^^^ b) = b := by rw [← BitVec.xor_assoc, BitVec.xor_self, BitVec.zero_xor]
theorem xor_self_mid (a b : W64) : a ^^^ (b ^^^ a) = b := by rw [BitVec.xor_comm b a, xor_self_left]
theorem xor_self_right (a b : W64) : (a ^^^ b) ^^^ b = a := by rw [BitVec.xor_assoc, BitVec.xor_self, BitVec.xor_zero]

theorem bck_rnd (p : Kw) (k : W64) : bck (rnd p k) k = p := by
  obtain ⟨x, y⟩ := p
  simp only [rnd, bck]
  rw [xor_self_mid, rotR_rotL _ _ (by omega), xor_self_right, BitVec.add_sub_cancel, rotL_rotR _ _ (by omega)]

/-- the state from which the round keys come: its second word is the round key -/
def kst (k : Kw) : Nat → Kw
  | 0 => k
  | i + 1 => rnd (kst k i) (BitVec.ofNat 64 i)
def rk (k : Kw) (i : Nat) : W64 := (kst k i).2
def encTo (k b : Kw) : Nat → Kw
  | 0 => b
  | i + 1 => rnd (encTo k b i) (rk k i)
def enc (k b : Kw) : Kw := encTo k b 32
def decTo (k b : Kw) : Nat → Kw
  | 0 => b
  | i + 1 => bck (decTo k b i) (rk k (31 - i))
def dec (k b : Kw) : Kw := decTo k b 32

theorem decTo_enc (k b : Kw) : ∀ i, i ≤ 32 → decTo k (enc k b) i = encTo k b (32 - i)
  | 0, _ => rfl
  | i + 1, h => by
    have e : 32 - i = (32 - (i + 1)) + 1 := by omega
    have e2 : 32 - (i + 1) = 31 - i := by omega
    rw [decTo, decTo_enc k b i (by omega), e, encTo, e2, bck_rnd]
theorem dec_enc (k b : Kw) : dec k (enc k b) = b := decTo_enc k b 32 (Nat.le_refl _)

/-- byte i of a block, for i below 16 -/
def byt (k : Kw) (i : Nat) : BitVec 8 := if i < 8 then (k.1 >>> (56 - 8 * i)).setWidth 8 else (k.2 >>> (56 - 8 * (i - 8))).setWidth 8

/-- the first i bytes of eight, the highest first -/
def packTo (f : Nat → BitVec 8) : Nat → W64
  | 0 => 0
  | i + 1 => (packTo f i <<< 8) ||| (f i).setWidth 64
def packK (f : Nat → BitVec 8) : Kw := (packTo f 8, packTo (fun i => f (8 + i)) 8)

theorem packTo_byte (x : W64) : ∀ i, i ≤ 8 → packTo (fun i => (x >>> (56 - 8 * i)).setWidth 8) i = x >>> (64 - 8 * i)
  | 0, _ => by
    apply BitVec.eq_of_getLsbD_eq; intro j hj
    simp [packTo]
  | i + 1, h => by
    rw [packTo, packTo_byte x i (by omega)]
    apply BitVec.eq_of_getLsbD_eq; intro j hj
    simp only [BitVec.getLsbD_or, BitVec.getLsbD_shiftLeft, BitVec.getLsbD_ushiftRight, BitVec.getLsbD_setWidth]
    by_cases h8 : j < 8
    · simp [h8, hj]
      congr 1; omega
    · simp [h8, hj]
      congr 1; omega

theorem packK_byt (k : Kw) : packK (byt k) = k := by
  obtain ⟨x, y⟩ := k
  have h1 : ∀ (f g : Nat → BitVec 8) (n : Nat), (∀ i, i < n → f i = g i) → packTo f n = packTo g n := by
    intro f g n
    induction n with
    | zero => intro _; rfl
    | succ n ih => intro h; rw [packTo, packTo, ih (fun i hi => h i (by omega)), h n (by omega)]
  unfold packK
  rw [h1 (byt (x, y)) (fun i => (x >>> (56 - 8 * i)).setWidth 8) 8 (fun i hi => by show (if i < 8 then _ else _) = _; rw [if_pos hi]),
    h1 (fun i => byt (x, y) (8 + i)) (fun i => (y >>> (56 - 8 * i)).setWidth 8) 8 (fun i hi => by show (if 8 + i < 8 then _ else _) = _; rw [if_neg (by omega)]; congr 3; omega),
    packTo_byte x 8 (by omega), packTo_byte y 8 (by omega)]
  simp

theorem byte_packTo (f : Nat → BitVec 8) : ∀ n, n ≤ 8 → ∀ i, i < n → (packTo f n >>> (8 * (n - 1 - i))).setWidth 8 = f i
  | 0, _, i, hi => by omega
  | n + 1, h, i, hi => by
    apply BitVec.eq_of_getLsbD_eq; intro j hj
    rw [packTo]
    simp only [BitVec.getLsbD_or, BitVec.getLsbD_shiftLeft, BitVec.getLsbD_ushiftRight, BitVec.getLsbD_setWidth]
    by_cases hin : i = n
    · subst hin
      simp [hj]; omega
    · have ih := byte_packTo f n (by omega) i (by omega)
      have ihj := congrArg (fun v => v.getLsbD j) ih
      simp only [BitVec.getLsbD_ushiftRight, BitVec.getLsbD_setWidth] at ihj
      have h1 : ¬ (8 * (n + 1 - 1 - i) + j < 8) := by omega
      have h2 : 8 * (n + 1 - 1 - i) + j < 64 := by omega
      have h3 : 8 * (n + 1 - 1 - i) + j - 8 = 8 * (n - 1 - i) + j := by omega
      have h4 : (f n).getLsbD (8 * (n + 1 - 1 - i) + j) = false := by apply BitVec.getLsbD_of_ge; omega
      rw [h3, h4]
      simp only [decide_eq_true h2, decide_eq_false h1, decide_eq_true hj, Bool.true_and, Bool.not_false, Bool.and_false, Bool.or_false]
      simpa only [decide_eq_true hj, Bool.true_and] using ihj

theorem byt_packK (f : Nat → BitVec 8) (i : Nat) (h : i < 16) : byt (packK f) i = f i := by
  unfold byt packK
  by_cases h8 : i < 8
  · simp only [h8, if_true]
    have := byte_packTo f 8 (by omega) i h8
    have e : 8 * (8 - 1 - i) = 56 - 8 * i := by omega
    rw [e] at this; exact this
  · simp only [h8, if_false]
    have := byte_packTo (fun i => f (8 + i)) 8 (by omega) (i - 8) (by omega)
    have e : 8 * (8 - 1 - (i - 8)) = 56 - 8 * (i - 8) := by omega
    rw [e] at this; rw [this]; congr 1; omega

theorem ext_byt {a b : Kw} (h : ∀ i, i < 16 → byt a i = byt b i) : a = b := by
  rw [← packK_byt a, ← packK_byt b]
  have h1 : ∀ (f g : Nat → BitVec 8) (n : Nat), (∀ i, i < n → f i = g i) → packTo f n = packTo g n := by
    intro f g n
    induction n with
    | zero => intro _; rfl
    | succ n ih => intro h; rw [packTo, packTo, ih (fun i hi => h i (by omega)), h n (by omega)]
  unfold packK
  rw [h1 _ (byt b) 8 (fun i hi => h i (by omega)), h1 (fun i => byt a (8 + i)) (fun i => byt b (8 + i)) 8 (fun i hi => h (8 + i) (by omega))]

/-- the block of a tag, a counter and a number -/
def blk (tag : BitVec 8) (c n : W64) : Kw := ((tag.setWidth 64 <<< 56) ||| c, n)
def derive (k : Kw) (tag : BitVec 8) (n : W64) : Kw := enc k (blk tag 0 n)
/-- the first i bytes of a word -/
def tp (x : W64) (i : Nat) : W64 := x >>> (64 - 8 * i)
theorem tp_zero (x : W64) : tp x 0 = 0 := by
  unfold tp; apply BitVec.eq_of_getLsbD_eq; intro j hj; simp
theorem tp_eight (x : W64) : tp x 8 = x := by unfold tp; simp
theorem tp_step (x : W64) (i : Nat) (h : i < 8) : (tp x i <<< 8) ||| ((x >>> (56 - 8 * i)).setWidth 8).setWidth 64 = tp x (i + 1) := by
  unfold tp
  apply BitVec.eq_of_getLsbD_eq; intro j hj
  simp only [BitVec.getLsbD_or, BitVec.getLsbD_shiftLeft, BitVec.getLsbD_ushiftRight, BitVec.getLsbD_setWidth]
  by_cases h8 : j < 8
  · simp [h8, hj]; congr 1; omega
  · simp [h8, hj]; congr 1; omega
theorem tp_succ1 (k : Kw) (i : Nat) (h : i < 8) : (tp k.1 i <<< 8) ||| (byt k i).setWidth 64 = tp k.1 (i + 1) := by
  rw [← tp_step k.1 i h]; unfold byt; rw [if_pos h]
theorem tp_succ2 (k : Kw) (i : Nat) (h : i < 8) : (tp k.2 i <<< 8) ||| (byt k (8 + i)).setWidth 64 = tp k.2 (i + 1) := by
  have e : 8 + i - 8 = i := by omega
  rw [← tp_step k.2 i h]; unfold byt; rw [if_neg (by omega), e]

/-- the bytes of a block that have been written when i of each word are -/
def bstf (p : Kw) (i j : Nat) : BitVec 8 := if j % 8 < i then byt p j else 0

/-! ### the reference's own ways -/
/-- what is left of a number when its last bytes are gone -/
def dn (n : W64) : Nat → W64
  | 0 => n
  | i + 1 => dn n i / 256#64
/-! ### blocks of tags, numbers -/
def number (k : Kw) (n most : W64) : W64 := if most = 0#64 then 0#64 else (derive k 3 n).1 % most

end Go.Proofs.YtoegpalacppllaaGreat.Pl

/- How keys and pairs of words stand in memory. -/
namespace Go.Proofs.YtoegpalacppllaaGreat
open Pl

abbrev B8 (x : BitVec 8) : Value := .int .u8 (x.toNat : Int)
abbrev U64 (x : BitVec 64) : Value := .int .u64 (x.toNat : Int)
abbrev I (n : Nat) : Value := .int .i64 (n : Int)

/-- the cells of a key -/
def kcf (f : Nat → BitVec 8) : List Value := (List.range 16).map fun i => B8 (f i)
def kc (k : Kw) : List Value := kcf (byt k)
def keyV (k : Kw) : Value := .agg (kc k).toArray
def pairV (p : Kw) : Value := .agg [U64 p.1, U64 p.2].toArray

theorem kcf_len (f : Nat → BitVec 8) : (kcf f).length = 16 := by simp [kcf]
theorem kc_len (k : Kw) : (kc k).length = 16 := kcf_len _
theorem kcf_get (f : Nat → BitVec 8) (i : Nat) (h : i < 16) : (kcf f)[i]? = some (B8 (f i)) := by
  simp [kcf, h]
theorem kc_get (k : Kw) (i : Nat) (h : i < 16) : (kc k)[i]? = some (B8 (byt k i)) := kcf_get _ i h
theorem kcf_one (f : Nat → BitVec 8) : ∀ v ∈ kcf f, v.oneCell' = true := by
  intro v hv
  obtain ⟨i, _, rfl⟩ := List.mem_map.1 hv
  rfl
theorem kc_one (k : Kw) : ∀ v ∈ kc k, v.oneCell' = true := by
  intro v hv
  obtain ⟨i, _, rfl⟩ := List.mem_map.1 hv
  rfl
theorem kcf_congr {f g : Nat → BitVec 8} (h : ∀ i, i < 16 → f i = g i) : kcf f = kcf g := by
  unfold kcf
  apply List.map_congr_left
  intro i hi
  rw [h i (List.mem_range.1 hi)]
theorem kcf_set (f : Nat → BitVec 8) (i : Nat) (x : BitVec 8) : (kcf f).set i (B8 x) = kcf (fun j => if j = i then x else f j) := by
  apply List.ext_getElem?
  intro j
  rw [List.getElem?_set, kcf_len]
  by_cases hj : j < 16
  · rw [kcf_get _ j hj, kcf_get _ j hj]
    by_cases hij : i = j
    · subst hij; simp [hj]
    · have : ¬ j = i := fun e => hij e.symm
      simp [hij, this]
  · have h1 : (kcf f)[j]? = none := by rw [List.getElem?_eq_none]; rw [kcf_len]; omega
    have h2 : (kcf (fun j => if j = i then x else f j))[j]? = none := by rw [List.getElem?_eq_none]; rw [kcf_len]; omega
    rw [h1, h2]
    split
    · split
      · omega
      · rfl
    · rfl
theorem kcf_packK (f : Nat → BitVec 8) : kcf f = kc (packK f) := kcf_congr fun i hi => (byt_packK f i hi).symm
theorem kcf_zero : kcf (fun _ => 0) = List.replicate 16 (.int .u8 0) := by rfl
theorem bst_zero (p : Kw) : kcf (bstf p 0) = List.replicate 16 (.int .u8 0) := by
  rw [← kcf_zero]; exact kcf_congr fun i _ => by simp [bstf]
theorem bst_eight (p : Kw) : kcf (bstf p 8) = kc p := kcf_congr fun i _ => by
  have : i % 8 < 8 := Nat.mod_lt _ (by decide)
  simp [bstf, this]
theorem bst_step (p : Kw) (i : Nat) (h : i < 8) : ((kcf (bstf p i)).set i (B8 ((p.1 >>> (56 - 8 * i)).setWidth 8))).set (8 + i) (B8 ((p.2 >>> (56 - 8 * i)).setWidth 8)) = kcf (bstf p (i + 1)) := by
  rw [kcf_set, kcf_set]
  refine kcf_congr fun j hj => ?_
  unfold bstf
  by_cases h1 : j = 8 + i
  · subst h1
    have e1 : (8 + i) % 8 < i + 1 := by omega
    have e2 : 8 + i - 8 = i := by omega
    rw [if_pos rfl, if_pos e1]
    unfold byt
    rw [if_neg (by omega), e2]
  · rw [if_neg h1]
    by_cases h2 : j = i
    · subst h2
      have e1 : j % 8 < j + 1 := by omega
      rw [if_pos rfl, if_pos e1]
      unfold byt
      rw [if_pos h]
    · rw [if_neg h2]
      by_cases h3 : j % 8 < i
      · rw [if_pos h3, if_pos (by omega)]
      · rw [if_neg h3, if_neg (by omega)]
/-- bytes, as cells -/
def bl (l : List (BitVec 8)) : List Value := l.map fun x => B8 x
/-- the first n bytes, then zeroes -/
def upto (f : Nat → BitVec 8) (n j : Nat) : BitVec 8 := if j < n then f j else 0
/-- 32 words of which the first n are there -/
def wu (f : Nat → W64) (n : Nat) : List Value := (List.range 32).map fun j => if j < n then U64 (f j) else .int .u64 0
theorem wu_len (f : Nat → W64) (n : Nat) : (wu f n).length = 32 := by simp [wu]
theorem wu_zero (f : Nat → W64) : wu f 0 = List.replicate 32 (.int .u64 0) := by rfl
theorem wu_get (f : Nat → W64) {j : Nat} (h : j < 32) : (wu f 32)[j]? = some (U64 (f j)) := by simp [wu, h]
theorem wu_set (f : Nat → W64) (i : Nat) : (wu f i).set i (U64 (f i)) = wu f (i + 1) := by
  apply List.ext_getElem?
  intro j
  rw [List.getElem?_set, wu_len]
  by_cases hj : j < 32
  · by_cases hij : i = j
    · subst hij; simp [wu, hj]
    · rw [if_neg hij]
      simp only [wu, List.getElem?_map, List.getElem?_range hj, Option.map_some, Option.some.injEq]
      by_cases h2 : j < i
      · rw [if_pos h2, if_pos (by omega)]
      · rw [if_neg h2, if_neg (by omega)]
  · have h1 : (wu f i)[j]? = none := by rw [List.getElem?_eq_none]; rw [wu_len]; omega
    have h2 : (wu f (i + 1))[j]? = none := by rw [List.getElem?_eq_none]; rw [wu_len]; omega
    rw [h1, h2]
    split
    · split
      · omega
      · rfl
    · rfl
end Go.Proofs.YtoegpalacppllaaGreat

/- Equality of keys, as the language makes it. -/
namespace Go.Proofs.YtoegpalacppllaaGreat
open Go.RowKit Pl

section
variable {P : Program}
/-- what an array of 16 bytes asks -/
structure TyK (P : Program) (t e : TypeId) : Prop where
  u : P.underlying t = some (.array 16 e)
  b : P.underlying e = some (.int .u8)
  info : ∃ i, P.info? e = some i
  one : P.cellsOf e = 1
  agg : ∀ w, (isAgg e).run P w = .ok false w
  plain : P.eqGuardType P.depth t = false

theorem run_part1 {e : TypeId} (ha : ∀ w, (isAgg e).run P w = .ok false w) {xs : Array Value} {off : Nat} {v : Value} (hx : xs[off]? = some v) (w : World) : (part e xs off).run P w = .ok v w := by
  simp [part, ha w, hx]
theorem run_eqB8 {e : TypeId} (hb : P.underlying e = some (.int .u8)) (d : Nat) (x y : BitVec 8) (w : World) : (Op.equalIn (d + 1) e (B8 x) (B8 y)).run P w = .ok (decide (x = y)) w := by
  have h : ((x.toNat : Int) == (y.toNat : Int)) = decide (x = y) := by
    rw [show ((x.toNat : Int) == (y.toNat : Int)) = decide ((x.toNat : Int) = (y.toNat : Int)) from rfl]
    apply decide_eq_decide.2
    exact ⟨fun e => BitVec.eq_of_toNat_eq (by omega), fun e => by rw [e]⟩
  simp [Op.equalIn, run_underlying hb, h]
theorem run_eqItems8 {t e : TypeId} (h : TyK P t e) (a b : Kw) (d : Nat) (w : World) : ∀ is : List Nat, (∀ i ∈ is, i < 16) → (Op.eqItems (d + 1) e 1 (kc a).toArray (kc b).toArray is).run P w = .ok (decide (∀ i ∈ is, byt a i = byt b i)) w
  | [], _ => by simp [Op.eqItems]
  | i :: is, hi => by
    have h16 : i < 16 := hi i (by simp)
    have pa : (part e (kc a).toArray (i * 1)).run P w = .ok (B8 (byt a i)) w := run_part1 h.agg (by simpa using kc_get a i h16) w
    have pb : (part e (kc b).toArray (i * 1)).run P w = .ok (B8 (byt b i)) w := run_part1 h.agg (by simpa using kc_get b i h16) w
    have ih := run_eqItems8 h a b d w is fun j hj => hi j (by simp [hj])
    simp only [Op.eqItems, Sem.run_bind, pa, pb, Result.andThen_ok, run_eqB8 h.b]
    by_cases hx : byt a i = byt b i
    · simp [hx, ih]
    · simp [hx]
theorem run_eqlK {t e : TypeId} (h : TyK P t e) (a b : Kw) (w : World) : (binOp .eql t (keyV a) (keyV b)).run P w = .ok (.bool (decide (a = b))) w := by
  obtain ⟨i, hi⟩ := h.info
  have h1 := run_eqItems8 h a b 9998 w (List.range 16) (fun i hi => List.mem_range.1 hi)
  have h2 := run_equalIn_array w 9999 (kc a).toArray (kc b).toArray h.u hi
  rw [h.one, h1] at h2
  have h3 : decide (∀ i ∈ List.range 16, byt a i = byt b i) = decide (a = b) := decide_eq_decide.2 ⟨fun h => ext_byt fun i hi => h i (List.mem_range.2 hi), fun h i _ => by rw [h]⟩
  unfold keyV
  rw [run_eql_struct, h2, h3]
  rfl
theorem run_neqK {t e : TypeId} (h : TyK P t e) (a b : Kw) (w : World) : (binOp .neq t (keyV a) (keyV b)).run P w = .ok (.bool (decide (a ≠ b))) w := by
  obtain ⟨i, hi⟩ := h.info
  have h1 := run_eqItems8 h a b 9998 w (List.range 16) (fun i hi => List.mem_range.1 hi)
  have h2 := run_equalIn_array w 9999 (kc a).toArray (kc b).toArray h.u hi
  rw [h.one, h1] at h2
  have h3 : decide (∀ i ∈ List.range 16, byt a i = byt b i) = decide (a = b) := decide_eq_decide.2 ⟨fun h => ext_byt fun i hi => h i (List.mem_range.2 hi), fun h i _ => by rw [h]⟩
  unfold keyV
  rw [run_neq_struct, h2, h3]
  simp

variable {bs : List Value} {us : List (Nat × Value)} {o : Oper}
theorem r_eqlK {t e t' : Nat} {p q : Operand} (h : TyK P t e) (a b : Kw) {c : Bool} (ho : o.op = .binOp .eql t p q t') (hx : ev bs us p = keyV a) (hy : ev bs us q = keyV b) (hc : decide (a = b) = c) : Runs P bs us o (.bool c) := fun w => by
  subst hc
  unfold execOp
  simp only [ho, hx, hy, keyV, Sem.run_bind, run_eqGuard_agg _ _ _ _ _ _ _ h.plain, Result.andThen_ok]
  have := run_eqlK h a b w
  unfold keyV at this
  simp [this]
theorem r_neqK {t e t' : Nat} {p q : Operand} (h : TyK P t e) (a b : Kw) {c : Bool} (ho : o.op = .binOp .neq t p q t') (hx : ev bs us p = keyV a) (hy : ev bs us q = keyV b) (hc : decide (a ≠ b) = c) : Runs P bs us o (.bool c) := fun w => by
  subst hc
  unfold execOp
  simp only [ho, hx, hy, keyV, Sem.run_bind, run_eqGuard_agg _ _ _ _ _ _ _ h.plain, Result.andThen_ok]
  have := run_neqK h a b w
  unfold keyV at this
  simp [this]
end
end Go.Proofs.YtoegpalacppllaaGreat

/- More operations: fields and elements of values, strings, slices that are made, copied, turned into strings. No function of the program is in sight here. -/
namespace Go.Proofs.YtoegpalacppllaaGreat
open Go.RowKit Pl

section
variable {P : Program} {ops : Array Oper} {Q : Exit → Act → World → Prop} {bs : List Value} {us : List (Nat × Value)} {ds : List Deferred} {w0 : Base} {W : World} {rest : List Oper} {o : Oper} {L Bs : List Blk} {d : Nat} {v : Value} {r : Option (Option Nat)} {m : Nat}

/-! ### parts of values -/
theorem r_fieldC {t f : Nat} {x : Operand} {fs : Array Field} {F : Field} {cs : List Value} (hs : P.underlying t = some (.struct fs)) (hF : fs[f]? = some F) (hT : TyC P F.type) (ho : o.op = .field t x f) (hx : ev bs us x = .agg cs.toArray) (hv : cs[F.offset]? = some v) : Runs P bs us o v := fun w => by
  unfold execOp
  simp [ho, hx, Instr.field, run_underlying hs, hF, part, hT.agg w, asAgg, hv]
/-! ### strings -/
/-! ### slices -/
theorem splice_setCells {g : Nat} {cs news : List Value} {ty : TypeId} {i : Nat} (hg : W.heap[g]? = some (.cells cs.toArray ty (0, 0))) (hi : i + news.length ≤ cs.length) (h1 : ∀ v ∈ news, v.oneCell' = true) :
    (storeCells ⟨g, i, none⟩ news).run P W = .ok () (W.setRow g (cs.take i ++ news ++ cs.drop (i + news.length)).toArray) := by
  have := run_storeCells_at (P := P) g i ty news 0 cs.toArray W hg (by simp; omega) h1
  simpa using this
/-- a slice that is written out: what the operation does is a closed fact -/
theorem run_bslF {t e : TypeId} {n : Nat} {parts : Array (Nat × Operand)} {ps : List (Nat × Value)} {cs : List Value} (hb : ∀ w, (Instr.buildSlice t n ps.toArray).run P w = .ok (.slice (some ⟨w.heap.size, 0, none⟩) n n) (w.alloc (.cells cs.toArray e))) (ho : o.op = .buildSlice t n parts) (hp : parts.toList.map (fun p => (p.1, ev bs us p.2)) = ps) (w : World) :
    (execOp (ev bs us) o).run P w = .ok (.value (.slice (some ⟨w.heap.size, 0, none⟩) n n)) (w.alloc (.cells cs.toArray e)) := by
  have e : parts.map (fun (i, x) => (i, ev bs us x)) = ps.toArray := by subst hp; apply Array.ext'; simp only [Array.toList_map]
  unfold execOp
  simp only [ho, e, Sem.run_bind, hb, Result.andThen_ok, Sem.run_pure]
theorem l_buildSliceF (hW : Cl w0 L W) {t e : TypeId} {n : Nat} {parts : Array (Nat × Operand)} {ps : List (Nat × Value)} {cs : List Value} (hb : ∀ w, (Instr.buildSlice t n ps.toArray).run P w = .ok (.slice (some ⟨w.heap.size, 0, none⟩) n n) (w.alloc (.cells cs.toArray e))) (hg : o.guard = none) (ho : o.op = .buildSlice t n parts) (hp : parts.toList.map (fun p => (p.1, ev bs us p.2)) = ps) (hd : o.dst = some d)
    (h : ∀ g W', Cl w0 (⟨g, cs, e⟩ :: L) W' → LW r m P ops Q rest (fr bs ((d, .slice (some ⟨g, 0, none⟩) n n) :: us) ds) W') : LW r m P ops Q (o :: rest) (fr bs us ds) W :=
  l_run hg (run_bslF hb ho hp W) hd (h _ _ (hW.alloc cs e))
/-- .. among operations that change places; the cells stand where makers' variables do -/
def bslX (e : TypeId) (n : Nat) (cs : List Value) (v : Value) (Bs : List Blk) : Prop := ∃ g, v = .slice (some ⟨g, 0, none⟩) n n ∧ Bs = [⟨g, cs, e⟩]
theorem y_buildSliceF (i : Nat) {S : List Nat} {ks : List Kd} {ms : List Mk} {V : List (List Value)} {R : Act → St → Prop} {T : List Oper → Act → St → Prop} {t e : TypeId} {n : Nat} {parts : Array (Nat × Operand)} {ps : List (Nat × Value)} {cs : List Value} (hb : ∀ w, (Instr.buildSlice t n ps.toArray).run P w = .ok (.slice (some ⟨w.heap.size, 0, none⟩) n n) (w.alloc (.cells cs.toArray e)))
    (hk : ms[i]? = some ⟨d, bslX e n⟩) (ho : o.op = .buildSlice t n parts) (hp : parts.toList.map (fun p => (p.1, ev bs us p.2)) = ps) (hV : V[i]? = some cs)
    (h : lx P ops w0 S ms R T ks rest (fr bs us ds) (L, V)) : lx P ops w0 S ms R T (.mk i :: ks) (o :: rest) (fr bs us ds) (L, V) :=
  ⟨undef, (L, V), ⟨rfl, rfl, _, cs, hk, hV, fun L2 _ w hw => .inl ⟨_, _, _, by rw [eval_ev]; exact run_bslF hb ho hp w, ⟨w.heap.size, rfl, rfl⟩, cl_end (hw.alloc cs e)⟩⟩, h⟩
end
end Go.Proofs.YtoegpalacppllaaGreat

/- Plain laws of streams, digests, MACs and texts. No program is in sight here. -/
namespace Go.Proofs.YtoegpalacppllaaGreat.Pl

abbrev Bs8 := List (BitVec 8)
def gb (l : Bs8) (j : Nat) : BitVec 8 := l.getD j 0#8
/-! ### texts -/
def digs : Bs8 := [48#8, 49#8, 50#8, 51#8, 52#8, 53#8, 54#8, 55#8, 56#8, 57#8, 97#8, 98#8, 99#8, 100#8, 101#8, 102#8]
/-- the value of a digit, or 16 -/
def dval (b : BitVec 8) : Nat := digs.findIdx (· == b)
def fits (l : Bs8) (n : Nat) : Prop := ∀ q, q < n → dval (gb l q) < 16
def keyOf (l : Bs8) : Kw := packK fun i => BitVec.ofNat 8 (16 * dval (gb l (2 * i)) + dval (gb l (2 * i + 1)))
instance (l : Bs8) (n : Nat) : Decidable (fits l n) := by unfold fits; infer_instance
/-! ### what the program does with the length -/
end Go.Proofs.YtoegpalacppllaaGreat.Pl

/- How blocks at work, portions and texts stand in memory; more on calls and slices. No function of the program is in sight here. -/
namespace Go.Proofs.YtoegpalacppllaaGreat
open Go.RowKit Pl

section
variable {P : Program} {ops : Array Oper} {Q : Exit → Act → World → Prop} {bs : List Value} {us : List (Nat × Value)} {ds : List Deferred} {w0 : Base} {W : World} {rest : List Oper} {o : Oper} {L Bs : List Blk} {d : Nat} {v : Value} {r : Option (Option Nat)} {m : Nat}

/-- a call of a function value that only reads -/
theorem l_callVR (hW : Cl w0 L W) {f : FuncId} {x : Operand} {xs : Array Operand} {ts : Array TypeId} {args cap : List Value} {Pre : World → Prop} (hgv : GivesR P f (args ++ cap).toArray Pre v) (he : Enters P f) (hp : Pre W) (hg : o.guard = none) (ho : o.op = .call { callee := .value x, args := xs, argTypes := ts }) (hx : ev bs us x = .func (.func f) #[] cap.toArray) (ha : xs.toList.map (ev bs us) = args) (hd : o.dst = some d)
    (h : ∀ W', Cl w0 L W' → LW r m P ops Q rest (fr bs ((d, v) :: us) ds) W') : LW r m P ops Q (o :: rest) (fr bs us ds) W :=
  l_enter hg (run_callV he ho hx ha) hd ((hgv W hp).mono fun _ w ⟨he, hb⟩ => ⟨v, he, h w (hW.past hb)⟩)
/-- a load of a variable of n cells that lay there before the call -/
theorem run_loadFA_at {t : TypeId} {n : Nat} (ht : TyA P t n) {x : Operand} {g : Nat} {cs : List Value} {ty : TypeId} {fz : Nat × Nat} (hh : w0.w.heap[g]? = some (.cells cs.toArray ty fz)) (hn : cs.length = n) (ho : o.op = .load t x) (hx : ev bs us x = .pointer (some ⟨g, 0, none⟩)) (w : World) (hw : Cl w0 L w) :
    (execOp (ev bs us) o).run P w = .ok (.value (.agg cs.toArray)) w := by
  have hlt : g < w0.w.heap.size := (Array.getElem?_eq_some_iff.1 hh).1
  have := run_load_agg ht w ((hw.below.block g hlt).trans hh) (i := 0) (by omega)
  rw [take_all hn] at this
  unfold execOp
  simp only [ho, hx, Instr.loadAt, Instr.sureAddr, Sem.run_bind, Sem.run_pure, Result.andThen_ok, this]
theorem l_loadFA (hW : Cl w0 L W) {t : TypeId} {n : Nat} (ht : TyA P t n) {x : Operand} {g : Nat} {cs : List Value} {ty : TypeId} {fz : Nat × Nat} (hh : w0.w.heap[g]? = some (.cells cs.toArray ty fz)) (hn : cs.length = n) (hg : o.guard = none) (ho : o.op = .load t x) (hx : ev bs us x = .pointer (some ⟨g, 0, none⟩)) (hd : o.dst = some d)
    (h : LW r m P ops Q rest (fr bs ((d, .agg cs.toArray) :: us) ds) W) : LW r m P ops Q (o :: rest) (fr bs us ds) W :=
  l_run hg (run_loadFA_at ht hh hn ho hx W hW) hd h
end

theorem r_shr_i64N {t t' : Nat} {p q : Operand} {n s : Nat} {k' : IntKind} {bs : List Value} {us : List (Nat × Value)} {o : Oper} {P : Program} (ho : o.op = .binOp .shr t p q t') (hx : ev bs us p = .int .i64 (n : Int)) (hy : ev bs us q = .int k' (s : Int)) (hs : s < 64) : Runs P bs us o (.int .i64 ((n / 2 ^ s : Nat) : Int)) :=
  run_sh ho hx hy fun w => by
    have h0 : ¬ ((s : Int) < 0) := by omega
    have hm : min (Int.toNat (s : Int)) 64 = s := by simp; omega
    simp only [binOp, Op.shift, h0, if_false, IntKind.bits, hm, Sem.run_pure]
    congr 3
    rw [Int.fdiv_eq_ediv_of_nonneg _ (Int.le_of_lt (Int.pow_pos (by decide)))]
    simp
theorem OwnSl.le {e : TypeId} {sz : Nat} {a : Option Addr} {n c : Nat} {xs : List Value} {Bs : List Blk} (h : OwnSl e sz a n c xs Bs) : n ≤ c := by
  rcases h.2 with ⟨_, h1, h2, _⟩ | ⟨g, cur, _, _, h1, _⟩
  · omega
  · exact h1
/-! ### blocks at work -/
end Go.Proofs.YtoegpalacppllaaGreat

/- More results, more slices. No function of the program is in sight here. -/
namespace Go.Proofs.YtoegpalacppllaaGreat
open Go.RowKit Pl

section
variable {P : Program} {bs : List Value} {us : List (Nat × Value)} {w0 : Base} {W : World} {L : List Blk} {v : Value} {fn : Func} {R' : Ending → World → Prop}
theorem run_equalBool (d : Nat) {t : TypeId} (ht : P.underlying t = some .bool) (a b : Bool) (w : World) : (Op.equalIn (d + 1) t (.bool a) (.bool b)).run P w = .ok (a == b) w := by
  simp [Op.equalIn, run_underlying ht]
/-- the first part of a slice that may be nil -/
theorem r_sliceTo {o : Oper} {t e h n c : Nat} {a : Option Addr} {k : IntKind} {x y : Operand} (ht : P.underlying t = some (.slice e)) (hz : ∀ w, (sizeOf e).run P w = .ok 1 w) (ho : o.op = .slice t x none (some y) none)
    (hx : ev bs us x = .slice a n c) (hy : ev bs us y = .int k (h : Int)) (hn : h ≤ c) (hnil : a = none → c = 0) : Runs P bs us o (.slice a h c) := by
  cases a with
  | none =>
    have := hnil rfl
    subst this
    obtain rfl : h = 0 := by omega
    intro w
    unfold execOp
    simp [ho, hx, hy, Instr.sliceAt, Instr.slice, asIntOf, run_underlying ht, hz, Instr.sliceBounds, Instr.sliceBound]
  | some q =>
    intro w
    have h0 : q.add 0 = q := by unfold Addr.add; cases q; simp
    unfold execOp
    simp [ho, hx, hy, Instr.sliceAt, Instr.slice, asIntOf, run_underlying ht, hz, h0, Instr.sliceBounds, Instr.sliceBound, hn]
theorem Sim.at {S : List Nat} {L L2 : List Blk} (h : Sim S L L2) {w0 : Base} {w : World} (hC : Cl w0 L2 w) (p : Nat) {g : Nat} {cs vs : List Value} {ty : TypeId} (hS : p ∉ S) (hp : L[p]? = some ⟨g, cs, ty⟩) (i n : Nat) (hv : (cs.drop i).take n = vs) : Rd w (some ⟨g, i, none⟩) vs :=
  hC.rd p (h p _ hS hp) i n hv
section
variable {ops : Array Oper} {Q : Exit → Act → World → Prop} {ds : List Deferred} {rest : List Oper} {o : Oper} {d : Nat} {r : Option (Option Nat)} {m : Nat}
/-! operations under a guard that lets them run -/
theorem l_runG {W' : World} (hg : Region.wanted o (yielded ops (fr bs us ds).tmps) = true) (h : (execOp (ev bs us) o).run P W = .ok (.value v) W') (hd : o.dst = some d) (hn : LW r m P ops Q rest (fr bs ((d, v) :: us) ds) W') : LW r m P ops Q (o :: rest) (fr bs us ds) W :=
  LW.val hg (by rw [eval_ev]; exact h) (by rw [hd, put_st]; exact hn)
theorem l_loadPG (hW : Cl w0 L W) (p : Nat) {t : TypeId} {n : Nat} (ht : TyA P t n) {x : Operand} {g i : Nat} {cs vs : List Value} {ty : TypeId} (hg : Region.wanted o (yielded ops (fr bs us ds).tmps) = true) (ho : o.op = .load t x) (hx : ev bs us x = .pointer (some ⟨g, i, none⟩)) (hd : o.dst = some d)
    (hp : L[p]? = some ⟨g, cs, ty⟩) (hn : i + n ≤ cs.length) (hv : (cs.drop i).take n = vs) (h : LW r m P ops Q rest (fr bs ((d, .agg vs.toArray) :: us) ds) W) : LW r m P ops Q (o :: rest) (fr bs us ds) W :=
  l_runG hg (run_loadP_at ht p ho hx hp hn hv W hW) hd h
theorem l_loadAG (hW : Cl w0 L W) (p : Nat) {t : TypeId} {n : Nat} (ht : TyA P t n) {x : Operand} {g : Nat} {cs : List Value} {ty : TypeId} (hg : Region.wanted o (yielded ops (fr bs us ds).tmps) = true) (ho : o.op = .load t x) (hx : ev bs us x = .pointer (some ⟨g, 0, none⟩)) (hd : o.dst = some d)
    (hp : L[p]? = some ⟨g, cs, ty⟩) (hn : cs.length = n) (h : LW r m P ops Q rest (fr bs ((d, .agg cs.toArray) :: us) ds) W) : LW r m P ops Q (o :: rest) (fr bs us ds) W :=
  l_loadPG hW p ht hg ho hx hd hp (by omega) (take_all hn) h
theorem l_loadCG (hW : Cl w0 L W) (p : Nat) {t : TypeId} (ht : TyC P t) {x : Operand} {g i : Nat} {cs : List Value} {ty : TypeId} (hg : Region.wanted o (yielded ops (fr bs us ds).tmps) = true) (ho : o.op = .load t x) (hx : ev bs us x = .pointer (some ⟨g, i, none⟩)) (hd : o.dst = some d)
    (hp : L[p]? = some ⟨g, cs, ty⟩) (hv : cs[i]? = some v) (h : LW r m P ops Q rest (fr bs ((d, v) :: us) ds) W) : LW r m P ops Q (o :: rest) (fr bs us ds) W :=
  l_runG hg (run_loadC_at ht p ho hx hp hv W hW) hd h
theorem l_callRG (hW : Cl w0 L W) {f : FuncId} {xs : Array Operand} {ts : Array TypeId} {args : List Value} {Pre : World → Prop} (hgv : GivesR P f args.toArray Pre v) (he : Enters P f) (hp : Pre W) (hg : Region.wanted o (yielded ops (fr bs us ds).tmps) = true) (ho : o.op = .call { callee := .value (.func f), args := xs, argTypes := ts }) (ha : xs.toList.map (ev bs us) = args) (hd : o.dst = some d)
    (h : ∀ W', Cl w0 L W' → LW r m P ops Q rest (fr bs ((d, v) :: us) ds) W') : LW r m P ops Q (o :: rest) (fr bs us ds) W :=
  LW.call hg (by rw [eval_ev]; exact run_call he ho ha W) ((hgv W hp).mono fun _ w ⟨he, hb⟩ => ⟨v, he, by show LW r m P ops Q rest ((fr bs us ds).put o.dst v) w; rw [hd, put_st]; exact h w (hW.past hb)⟩)
theorem l_callG (hW : Cl w0 L W) {f : FuncId} {xs : Array Operand} {ts : Array TypeId} {args : List Value} (hgv : Gives P f args.toArray v) (he : Enters P f) (hg : Region.wanted o (yielded ops (fr bs us ds).tmps) = true) (ho : o.op = .call { callee := .value (.func f), args := xs, argTypes := ts }) (ha : xs.toList.map (ev bs us) = args) (hd : o.dst = some d)
    (h : ∀ W', Cl w0 L W' → LW r m P ops Q rest (fr bs ((d, v) :: us) ds) W') : LW r m P ops Q (o :: rest) (fr bs us ds) W :=
  l_callRG hW (Pre := fun _ => True) (fun w _ => hgv w) he trivial hg ho ha hd h
end
end
end Go.Proofs.YtoegpalacppllaaGreat

/- How lists of numbers, and lists of such lists, stand in memory. No function of the program is in sight here. -/
namespace Go.Proofs.YtoegpalacppllaaGreat
open Go.RowKit

/-- a slice -/
structure Sl where
  a : Option Addr
  n : Nat
  c : Nat
abbrev Sl.v (s : Sl) : Value := .slice s.a s.n s.c
abbrev Sl.no : Sl := ⟨none, 0, 0⟩
abbrev IV (x : Int) : Value := .int .i64 x
/-- numbers, as cells -/
def il (l : List Int) : List Value := l.map fun x => IV x
theorem il_len (l : List Int) : (il l).length = l.length := by simp [il]
theorem il_one (l : List Int) : ∀ v ∈ il l, v.oneCell' = true := by
  intro v hv
  obtain ⟨x, _, rfl⟩ := List.mem_map.1 hv
  rfl
theorem il_append (l m : List Int) : il (l ++ m) = il l ++ il m := by simp [il]
theorem il_get {l : List Int} {j : Nat} (h : j < l.length) : (il l)[j]? = some (IV (l.getD j 0)) := by simp [il, h]
theorem il_take (l : List Int) (n : Nat) : il (l.take n) = (il l).take n := by simp [il]
theorem il_drop (l : List Int) (n : Nat) : il (l.drop n) = (il l).drop n := by simp [il]
/-- what every slice is like -/
structure Sl.Ok (s : Sl) : Prop where
  le : s.n ≤ s.c
  nil : s.a = none → s.c = 0
theorem Sl.Ok.no : Sl.no.Ok := ⟨Nat.le_refl _, fun _ => rfl⟩
theorem Sl.Ok.nil0 {s : Sl} (h : s.Ok) (e : s.a = none) : s.n = 0 := by have := h.le; have := h.nil e; omega

/-- a slice that reads as these cells -/
structure RdC (w : World) (s : Sl) (n : Nat) (xs : List Value) : Prop where
  ok : s.Ok
  n : s.n = n
  rd : Rd w s.a xs
/-- .. as these numbers -/
def RdI (w : World) (s : Sl) (l : List Int) : Prop := RdC w s l.length (il l)
/-- .. as these slices of numbers, k to an element -/
structure RdLs (w : World) (s : Sl) (k : Nat) (ls : List (List Int)) : Prop where
  ex : ∃ ss : List Sl, RdC w s s.n (ss.map Sl.v) ∧ s.n * k = ls.length ∧ ss.length = ls.length ∧ ∀ (i : Nat) t l, ss[i]? = some t → ls[i]? = some l → RdI w t l

theorem RdC.past {w W : World} {s : Sl} {n : Nat} {xs : List Value} (h : RdC w s n xs) (hb : Below w.heap.size w W) : RdC W s n xs := ⟨h.ok, h.n, h.rd.past hb⟩
theorem RdI.past {w W : World} {s : Sl} {l : List Int} (h : RdI w s l) (hb : Below w.heap.size w W) : RdI W s l := RdC.past h hb
theorem RdLs.past {w W : World} {s : Sl} {k : Nat} {ls : List (List Int)} (h : RdLs w s k ls) (hb : Below w.heap.size w W) : RdLs W s k ls := by
  obtain ⟨ss, h1, h2, h3, h4⟩ := h.ex
  exact ⟨ss, h1.past hb, h2, h3, fun i t l h5 h6 => (h4 i t l h5 h6).past hb⟩
theorem RdI.no (w : World) : RdI w Sl.no [] := ⟨Sl.Ok.no, rfl, Rd.nil _ _⟩
theorem RdI.len {w : World} {s : Sl} {l : List Int} (h : RdI w s l) : s.n = l.length := h.n
theorem RdI.cap {w : World} {s : Sl} {l : List Int} (h : RdI w s l) : l.length ≤ s.c := by have := h.ok.le; rw [← h.n]; exact this
/-- where an element lies -/
theorem RdC.ptr {w : World} {s : Sl} {n : Nat} {xs : List Value} (h : RdC w s n xs) (hx : 0 < xs.length) : ∃ b i, s.a = some ⟨b, i, none⟩ ∧ ∀ j u, xs[j]? = some u → w.cell? ⟨b, i + j, none⟩ = some u := h.rd.some hx
theorem RdI.ptr {w : World} {s : Sl} {l : List Int} (h : RdI w s l) (hx : 0 < l.length) : ∃ b i, s.a = some ⟨b, i, none⟩ ∧ ∀ j, j < l.length → w.cell? ⟨b, i + j, none⟩ = some (IV (l.getD j 0)) := by
  obtain ⟨b, i, h1, h2⟩ := RdC.ptr h (by rw [il_len]; exact hx)
  exact ⟨b, i, h1, fun j hj => h2 j _ (il_get hj)⟩
/-- in any world in which these blocks lie -/
def Rep (N : List Blk) (φ : World → Prop) : Prop := ∀ b W, Cl b N W → φ W
theorem Rep.at {N : List Blk} {φ : World → Prop} (h : Rep N φ) {b : Base} {L : List Blk} {W : World} (hW : Cl b L W) (hs : List.Sublist N L) : φ W := h b W (hW.sub hs)
theorem Rep.sub {N N' : List Blk} {φ : World → Prop} (h : Rep N φ) (hs : List.Sublist N N') : Rep N' φ := fun b W hW => h b W (hW.sub hs)
theorem Rep.mono {N : List Blk} {φ ψ : World → Prop} (h : Rep N φ) (hi : ∀ W, φ W → ψ W) : Rep N ψ := fun b W hW => hi W (h b W hW)
/-- a slice of the call's own, as what reads as numbers -/
theorem OwnSl.rep {e : TypeId} {a : Option Addr} {n c : Nat} {l : List Int} {Bs : List Blk} (hO : OwnSl e 1 a n c (il l) Bs) : Rep Bs fun W => RdI W ⟨a, n, c⟩ l := fun b W hW => by
  have hn : n = l.length := by have := hO.1; rw [il_len] at this; omega
  refine ⟨⟨?_, fun h => (hO.nilOf h).2⟩, hn, ?_⟩
  · rcases hO.2 with ⟨_, h1, h2, _⟩ | ⟨g, cur, _, _, h1, _⟩
    · simp [h1]
    · exact h1
  · exact OwnSl.rd (L := []) hO (by simpa using hW)
theorem NewSl.rep {e : TypeId} {n : Nat} {l : List Int} {v : Value} {Bs : List Blk} (h : NewSl e 1 n (il l) v Bs) : ∃ s : Sl, v = s.v ∧ s.n = l.length ∧ Rep Bs fun W => RdI W s l := by
  obtain ⟨a, c, rfl, hO⟩ := h
  refine ⟨⟨a, n, c⟩, rfl, ?_, hO.rep⟩
  have := hO.1; rw [il_len] at this; simp only; omega
end Go.Proofs.YtoegpalacppllaaGreat

/- Equality of structs; numbers that may be negative. No function of the program is in sight here. -/
namespace Go.Proofs.YtoegpalacppllaaGreat
open Go.RowKit Pl

section
variable {P : Program}
/-- equality of two values of a type -/
def EqV (P : Program) (d : Nat) (t : TypeId) (u v : Value) (b : Bool) : Prop := ∀ w, (Op.equalIn d t u v).run P w = .ok b w
theorem EqV.int {d : Nat} {t : TypeId} {k k' : IntKind} (h : P.underlying t = some (.int k')) (a b : Int) : EqV P (d + 1) t (.int k a) (.int k b) (decide (a = b)) := fun w => by
  rw [run_equalIn_int w d t k k' a b h]; rfl
theorem EqV.bool {d : Nat} {t : TypeId} (h : P.underlying t = some .bool) (a b : Bool) : EqV P (d + 1) t (.bool a) (.bool b) (decide (a = b)) := fun w => by
  rw [run_equalIn_bool' w d t a b h]
  cases a <;> cases b <;> rfl
theorem EqV.key {d : Nat} {t e : TypeId} (h : TyK P t e) (a b : Kw) : EqV P (d + 2) t (keyV a) (keyV b) (decide (a = b)) := fun w => by
  obtain ⟨i, hi⟩ := h.info
  have h1 := run_eqItems8 h a b d w (List.range 16) (fun i hi => List.mem_range.1 hi)
  have h2 := run_equalIn_array w (d + 1) (kc a).toArray (kc b).toArray h.u hi
  rw [h.one, h1] at h2
  have h3 : decide (∀ i ∈ List.range 16, byt a i = byt b i) = decide (a = b) := decide_eq_decide.2 ⟨fun h => ext_byt fun i hi => h i (List.mem_range.2 hi), fun h i _ => by rw [h]⟩
  unfold keyV
  rw [h2, h3]
/-- fields -/
def EqFs (P : Program) (d : Nat) (xs ys : List Value) : List Field → List Bool → Prop
  | [], [] => True
  | f :: fs, b :: bs => f.name ≠ "_" ∧ (∃ u v, (∀ w, (part f.type xs.toArray f.offset).run P w = .ok u w) ∧ (∀ w, (part f.type ys.toArray f.offset).run P w = .ok v w) ∧ EqV P d f.type u v b) ∧ EqFs P d xs ys fs bs
  | _, _ => False
theorem run_eqFs {d : Nat} {xs ys : List Value} (w : World) : ∀ {fs : List Field} {bs : List Bool}, EqFs P d xs ys fs bs → (Op.eqFields d xs.toArray ys.toArray fs).run P w = .ok (bs.all id) w
  | [], [], _ => by simp [Op.eqFields]
  | f :: fs, b :: bs, h => by
    obtain ⟨hn, ⟨u, v, h1, h2, h3⟩, h4⟩ := h
    rw [Op.eqFields, if_pos hn]
    simp only [Sem.run_bind, h1, h2, h3 w, Result.andThen_ok]
    cases b
    · simp
    · simpa using run_eqFs w h4
  | [], _ :: _, h => h.elim
  | _ :: _, [], h => h.elim
theorem EqV.struct {d : Nat} {t : TypeId} {fs : Array Field} {xs ys : List Value} {bs : List Bool} (ht : P.underlying t = some (.struct fs)) (hp : P.stoodInHeld t = false) (h : EqFs P d xs ys fs.toList bs) : EqV P (d + 1) t (.agg xs.toArray) (.agg ys.toArray) (bs.all id) := fun w => by
  have e : P.fieldsOf t = fs := by simp [Program.fieldsOf, ht]
  rw [run_equalIn_struct w d t _ _ (by rw [e]; exact ht) hp, e]
  exact run_eqFs w h
theorem part_cell {t : TypeId} (ht : TyC P t) {xs : List Value} {i : Nat} {v : Value} (hv : xs[i]? = some v) (w : World) : (part t xs.toArray i).run P w = .ok v w := run_part1 ht.agg (by simpa using hv) w
theorem part_agg {t n : Nat} (ht : TyA P t n) {xs vs : List Value} {i : Nat} (hv : (xs.drop i).take n = vs) (w : World) : (part t xs.toArray i).run P w = .ok (.agg vs.toArray) w := by
  subst hv
  simp [part, ht.agg w, ht.size w]

variable {bs : List Value} {us : List (Nat × Value)} {o : Oper}
theorem EqV.cast {d : Nat} {t : TypeId} {u v : Value} {b c : Bool} (h : EqV P d t u v b) (e : b = c) : EqV P d t u v c := e ▸ h
theorem r_neqS {t t' : Nat} {p q : Operand} {xs ys : List Value} {e : Prop} [Decidable e] {c : Bool} (hp : P.eqGuardType P.depth t = false) (he : EqV P 10000 t (.agg xs.toArray) (.agg ys.toArray) (decide e)) (ho : o.op = .binOp .neq t p q t') (hx : ev bs us p = .agg xs.toArray) (hy : ev bs us q = .agg ys.toArray) (hc : decide (¬ e) = c) : Runs P bs us o (.bool c) := fun w => by
  subst hc
  unfold execOp
  simp only [ho, hx, hy, Sem.run_bind, run_eqGuard_agg _ _ _ _ _ _ _ hp, Result.andThen_ok, run_neq_struct, he w, Sem.run_pure, decide_not]

/-! ### numbers that may be negative -/
theorem wrap64_int (n : Int) (h : -9223372036854775808 ≤ n) (h2 : n ≤ 9223372036854775807) : IntKind.i64.wrap n = n := by
  simp [IntKind.wrap, IntKind.bits, IntKind.signed]; omega
theorem r_addZ {t t' : Nat} {x y : Operand} {m n : Int} (ho : o.op = .binOp .add t x y t') (hx : ev bs us x = .int .i64 m) (hy : ev bs us y = .int .i64 n) (h : -9223372036854775808 ≤ m + n ∧ m + n ≤ 9223372036854775807) : Runs P bs us o (.int .i64 (m + n)) :=
  r_add ho hx hy (wrap64_int _ h.1 h.2)
theorem r_mulZ {t t' : Nat} {x y : Operand} {m n : Int} (ho : o.op = .binOp .mul t x y t') (hx : ev bs us x = .int .i64 m) (hy : ev bs us y = .int .i64 n) (h : -9223372036854775808 ≤ m * n ∧ m * n ≤ 9223372036854775807) : Runs P bs us o (.int .i64 (m * n)) :=
  r_mul ho hx hy (wrap64_int _ h.1 h.2)
theorem r_shlN {t t' : Nat} {x y : Operand} {m n r : Nat} {k' : IntKind} (ho : o.op = .binOp .shl t x y t') (hx : ev bs us x = .int .i64 (m : Int)) (hy : ev bs us y = .int k' (n : Int)) (hn : n < 64) (hr : m * 2 ^ n = r) (h : r < 9223372036854775808) : Runs P bs us o (.int .i64 (r : Int)) :=
  run_sh ho hx hy fun w => by
    have h0 : ¬ ((n : Int) < 0) := by omega
    have hm : min (Int.toNat (n : Int)) 64 = n := by simp; omega
    simp only [binOp, Op.shift, h0, if_false, IntKind.bits, hm, Sem.run_pure]
    congr 3
    rw [show ((m : Int) * 2 ^ n) = ((m * 2 ^ n : Nat) : Int) by rw [Int.natCast_mul, Int.natCast_pow]; rfl, hr]
    exact wrap64_nat r h
end
end Go.Proofs.YtoegpalacppllaaGreat

/- Plain laws of schemes: which are valid, how many receivers there are, bounds. No program is in sight here. -/
namespace Go.Proofs.YtoegpalacppllaaGreat.Tr

/-- a scheme -/
structure Sc where
  k : Int
  d : Int
  g : Int
  p : Int
  q : Int
  r : Int
def schB (s : Sc) : Bool := decide (1 ≤ s.k ∧ s.k ≤ 3 ∧ 0 ≤ s.d ∧ s.d ≤ 6 ∧ s.g = 0 ∧ s.p = 0 ∧ s.q = 0 ∧ s.r = 0)
theorem schB_iff {s : Sc} : schB s = true ↔ (1 ≤ s.k ∧ s.k ≤ 3 ∧ 0 ≤ s.d ∧ s.d ≤ 6 ∧ s.g = 0 ∧ s.p = 0 ∧ s.q = 0 ∧ s.r = 0) := decide_eq_true_iff
theorem schB_yes {s : Sc} (h : 1 ≤ s.k ∧ s.k ≤ 3 ∧ 0 ≤ s.d ∧ s.d ≤ 6 ∧ s.g = 0 ∧ s.p = 0 ∧ s.q = 0 ∧ s.r = 0) : schB s = true := decide_eq_true h
theorem schB_no {s : Sc} (h : ¬ (1 ≤ s.k ∧ s.k ≤ 3 ∧ 0 ≤ s.d ∧ s.d ≤ 6 ∧ s.g = 0 ∧ s.p = 0 ∧ s.q = 0 ∧ s.r = 0)) : schB s = false := decide_eq_false h
/-- the error of a scheme -/
def chk (s : Sc) : Int := if schB s then 0 else 30
theorem chk_yes {s : Sc} (h : schB s = true) : chk s = 0 := by simp [chk, h]
theorem chk_no {s : Sc} (h : schB s = false) : chk s = 30 := by simp [chk, h]
theorem chk_zero {s : Sc} (h : ¬ chk s ≠ 0) : schB s = true := by
  cases hs : schB s with
  | true => rfl
  | false => exact absurd (by rw [chk_no hs]; decide) h
theorem chk_bad {s : Sc} (h : chk s ≠ 0) : schB s = false := by
  cases hs : schB s with
  | true => exact absurd (chk_yes hs) h
  | false => rfl
/-- powers of two -/
def p2 : Nat → Nat
  | 0 => 1
  | n + 1 => 2 * p2 n
theorem p2_pow (n : Nat) : p2 n = 2 ^ n := by
  induction n with
  | zero => rfl
  | succ n ih => rw [p2, ih, Nat.pow_succ]; omega
theorem p2_mono : ∀ {m n : Nat}, m ≤ n → p2 m ≤ p2 n := fun {m n} h => by rw [p2_pow, p2_pow]; exact Nat.pow_le_pow_right (by decide) h
theorem p2_le {n : Nat} (h : n ≤ 6) : p2 n ≤ 64 := p2_mono (n := 6) h
theorem p2_pos (n : Nat) : 0 < p2 n := by rw [p2_pow]; exact Nat.pow_pos (by decide)
/-- the stride of a depth -/
def strideN (d : Int) : Nat := if d ≤ 1 then 1 else if d ≤ 4 then 2 else 3
/-- the tree of a scheme -/
def tk (s : Sc) : Int := if schB s then s.k else 0
def td (s : Sc) : Int := if schB s then s.d else 0
def ts (s : Sc) : Nat := if schB s then strideN s.d else 0

/-- the bound on the queries of a trace -/
def lim (d noise : Int) : Int := ((2 * p2 d.toNat + 1 : Nat) : Int) * (d + 2) * (2 * noise + 1)
theorem lim_a {d : Int} (h0 : 0 ≤ d) (h6 : d ≤ 6) : 0 ≤ ((2 * p2 d.toNat + 1 : Nat) : Int) * (d + 2) ∧ ((2 * p2 d.toNat + 1 : Nat) : Int) * (d + 2) ≤ 1032 := by
  have : d = 0 ∨ d = 1 ∨ d = 2 ∨ d = 3 ∨ d = 4 ∨ d = 5 ∨ d = 6 := by omega
  rcases this with rfl | rfl | rfl | rfl | rfl | rfl | rfl <;> decide
theorem lim_b {d n : Int} (h0 : 0 ≤ d) (h6 : d ≤ 6) (n0 : 0 ≤ n) (n8 : n ≤ 8) : 0 ≤ lim d n ∧ lim d n ≤ 17544 := by
  obtain ⟨a, b⟩ := lim_a h0 h6
  unfold lim
  refine ⟨Int.mul_nonneg a (by omega), ?_⟩
  exact Int.le_trans (Int.mul_le_mul b (by omega : 2 * n + 1 ≤ 17) (by omega) (by omega)) (by decide)
theorem lim1 {d : Int} (h0 : 0 ≤ d) (h6 : d ≤ 6) : -9223372036854775808 ≤ ((2 * p2 d.toNat + 1 : Nat) : Int) * (d + 2) ∧ ((2 * p2 d.toNat + 1 : Nat) : Int) * (d + 2) ≤ 9223372036854775807 := by
  have := lim_a h0 h6; omega
theorem lim2 {d n : Int} (h0 : 0 ≤ d) (h6 : d ≤ 6) (n0 : 0 ≤ n) (n8 : n ≤ 8) : -9223372036854775808 ≤ ((2 * p2 d.toNat + 1 : Nat) : Int) * (d + 2) * (2 * n + 1) ∧ ((2 * p2 d.toNat + 1 : Nat) : Int) * (d + 2) * (2 * n + 1) ≤ 9223372036854775807 := by
  have := lim_b h0 h6 n0 n8
  unfold lim at this; omega
def boundV (s : Sc) (n : Int) : Int := if schB s = true ∧ 0 ≤ n ∧ n ≤ 8 then lim s.d n else 0
def boundE (s : Sc) (n : Int) : Int := if schB s = false then 30 else if 0 ≤ n ∧ n ≤ 8 then 0 else 2
theorem bound_bad {s : Sc} {n : Int} (h : schB s = false) : boundV s n = 0 ∧ boundE s n = 30 := by simp [boundV, boundE, h]
theorem bound_arg {s : Sc} {n : Int} (h : schB s = true) (hn : ¬ (0 ≤ n ∧ n ≤ 8)) : boundV s n = 0 ∧ boundE s n = 2 := by simp only [boundV, boundE, h, hn, and_false, if_false]; simp
theorem bound_ok {s : Sc} {n : Int} (h : schB s = true) (hn : 0 ≤ n ∧ n ≤ 8) : boundV s n = lim s.d n ∧ boundE s n = 0 := by simp [boundV, boundE, h, hn]

end Go.Proofs.YtoegpalacppllaaGreat.Tr

/- Plain laws of hunts: what the functions on hunts compute, over lists of numbers. No program is in sight here. -/
namespace Go.Proofs.YtoegpalacppllaaGreat.Hn

abbrev LI := List Int
/-- a hunt; ps: Left and Right of each pair, one after the other -/
structure Hu where
  users : Int
  ps : List LI
  rest : LI
  named : LI
  rounds : Int
def groups (h : Hu) : List LI := h.rest :: h.named :: h.ps
def at_ (l : LI) (i : Nat) : Int := l.getD i 0

/-! ### lists without repetitions -/
/-- the users, as numbers -/
def rangeI (n : Nat) : LI := (List.range n).map fun (u : Nat) => (u : Int)
theorem mem_rangeI {n : Nat} {x : Int} : x ∈ rangeI n ↔ 0 ≤ x ∧ x < (n : Int) := by
  simp only [rangeI, List.mem_map, List.mem_range]
  constructor
  · rintro ⟨u, hu, rfl⟩; omega
  · rintro ⟨h1, h2⟩; exact ⟨x.toNat, by omega, by omega⟩
theorem len_rangeI (n : Nat) : (rangeI n).length = n := by simp [rangeI]
theorem nodup_rangeI (n : Nat) : (rangeI n).Nodup := by
  rw [rangeI, List.nodup_iff_pairwise_ne, List.pairwise_map]
  exact (List.nodup_iff_pairwise_ne.1 List.nodup_range).imp fun h e => h (by omega)

/-! ### whether a hunt is valid -/
def okU (l : LI) (most : Int) (i : Nat) : Bool := decide (0 ≤ at_ l i) && decide (at_ l i < most) && (decide (i = 0) || decide (at_ l (i - 1) < at_ l i))
def usersB (l : LI) (most : Int) : Bool := (List.range l.length).all (okU l most)
def sumL : List LI → Nat
  | [] => 0
  | l :: gs => l.length + sumL gs
theorem flat_len : ∀ gs : List LI, gs.flatten.length = sumL gs
  | [] => rfl
  | l :: gs => by simp [sumL, flat_len gs]
theorem at_get {l : LI} {i : Nat} (h : i < l.length) : l[i]? = some (at_ l i) := by simp [at_, h]
theorem at_mem {l : LI} {i : Nat} (h : i < l.length) : at_ l i ∈ l := List.mem_of_getElem? (at_get h)
theorem mem_at {l : LI} {x : Int} (h : x ∈ l) : ∃ i, i < l.length ∧ at_ l i = x := by
  obtain ⟨i, hi⟩ := List.getElem?_of_mem h
  have hlt := (List.getElem?_eq_some_iff.1 hi).1
  exact ⟨i, hlt, by rw [at_get hlt] at hi; injection hi⟩
theorem usersB_iff {l : LI} {n : Int} : usersB l n = true ↔ ∀ i, i < l.length → 0 ≤ at_ l i ∧ at_ l i < n ∧ (i = 0 ∨ at_ l (i - 1) < at_ l i) := by
  simp only [usersB, List.all_eq_true, List.mem_range, okU, Bool.and_eq_true, Bool.or_eq_true, decide_eq_true_eq, and_assoc]
theorem users_lt {l : LI} {n : Int} (h : usersB l n = true) : ∀ i j, i < j → j < l.length → at_ l i < at_ l j := by
  intro i j hij
  induction j with
  | zero => omega
  | succ j ih =>
    intro hj
    have h1 := (usersB_iff.1 h (j + 1) hj).2.2
    have h2 : at_ l j < at_ l (j + 1) := by rcases h1 with h1 | h1; · omega
                                            · simpa using h1
    rcases Nat.lt_or_ge i j with h3 | h3
    · have := ih h3 (by omega); omega
    · obtain rfl : i = j := by omega
      exact h2
theorem users_mem {l : LI} {n : Int} (h : usersB l n = true) {x : Int} (hx : x ∈ l) : 0 ≤ x ∧ x < n := by
  obtain ⟨i, hi, rfl⟩ := mem_at hx
  exact ⟨(usersB_iff.1 h i hi).1, (usersB_iff.1 h i hi).2.1⟩
/-- what a valid hunt is like -/
structure Valid (h : Hu) : Prop where
  u1 : 1 ≤ h.users
  u2 : h.users ≤ 64
  r1 : 0 ≤ h.rounds
  r2 : h.rounds ≤ 100000
  p : h.ps.length ≤ 128
  rest : usersB h.rest h.users = true
  named : usersB h.named h.users = true
  ps : ∀ l ∈ h.ps, usersB l h.users = true ∧ l ≠ []
  nodup : (h.rest ++ h.named ++ h.ps.flatten).Nodup
  cover : ∀ x, 0 ≤ x → x < h.users → x ∈ h.rest ∨ x ∈ h.named ∨ ∃ l ∈ h.ps, x ∈ l
  sum : (sumL (groups h) : Int) = h.users
end Go.Proofs.YtoegpalacppllaaGreat.Hn

/- Plain laws of hunts: variants, and what is heard. No program is in sight here. -/
namespace Go.Proofs.YtoegpalacppllaaGreat.Hn

/-! ### variants -/
section
variable {h : Hu} (v : Valid h)
include v
end

/-! ### what is heard -/
/-- by the reference: the users of two lists, in order -/
def merged (a b : LI) : LI := (rangeI 64).filter fun u => a.contains u || b.contains u
/-- a list in order -/
def Up (l : LI) : Prop := l.Pairwise (· < ·)
theorem up_ext : ∀ {a b : LI}, Up a → Up b → (∀ x, x ∈ a ↔ x ∈ b) → a = b
  | [], [], _, _, _ => rfl
  | [], y :: b, _, _, h => by have := (h y).2 (by simp); cases this
  | x :: a, [], _, _, h => by have := (h x).1 (by simp); cases this
  | x :: a, y :: b, ha, hb, h => by
    have ha' := List.pairwise_cons.1 ha
    have hb' := List.pairwise_cons.1 hb
    have hxy : x = y := by
      have h1 := (h x).1 (by simp)
      have h2 := (h y).2 (by simp)
      rcases List.mem_cons.1 h1 with h1 | h1
      · exact h1
      · rcases List.mem_cons.1 h2 with h2 | h2
        · exact h2.symm
        · have := hb'.1 x h1
          have := ha'.1 y h2
          omega
    subst hxy
    rw [up_ext ha'.2 hb'.2 fun z => ?_]
    have hz := h z
    constructor
    · intro hza
      rcases List.mem_cons.1 (hz.1 (by simp [hza])) with e | e
      · have := ha'.1 z hza; omega
      · exact e
    · intro hzb
      rcases List.mem_cons.1 (hz.2 (by simp [hzb])) with e | e
      · have := hb'.1 z hzb; omega
      · exact e
theorem merged_up (a b : LI) : Up (merged a b) := by
  refine List.Pairwise.filter _ ?_
  rw [rangeI, List.pairwise_map]
  exact List.pairwise_lt_range.imp fun h => by omega
theorem mem_merged {a b : LI} {x : Int} : x ∈ merged a b ↔ (0 ≤ x ∧ x < 64) ∧ (x ∈ a ∨ x ∈ b) := by
  simp [merged, mem_rangeI]
/-- any list in order with the same members is what the reference makes -/
theorem merged_eq {a b s : LI} (hs : s.Pairwise (· ≤ ·)) (hp : s.Perm (a ++ b)) (hn : (a ++ b).Nodup) (hr : ∀ x ∈ a ++ b, 0 ≤ x ∧ x < 64) : s = merged a b := by
  have hns : s.Nodup := (hp.nodup_iff).2 hn
  refine up_ext ?_ (merged_up a b) fun x => ?_
  · exact (List.pairwise_and_iff.2 ⟨hs, List.nodup_iff_pairwise_ne.1 hns⟩).imp fun h => by omega
  · rw [mem_merged, hp.mem_iff]
    constructor
    · intro hx; exact ⟨hr x hx, List.mem_append.1 hx⟩
    · intro hx; exact List.mem_append.2 hx.2

end Go.Proofs.YtoegpalacppllaaGreat.Hn

/- Plain laws of hunts: a hunt after a variant is heard is valid. No program is in sight here. -/
namespace Go.Proofs.YtoegpalacppllaaGreat.Hn

theorem sumL_append : ∀ (a b : List LI), sumL (a ++ b) = sumL a + sumL b
  | [], b => by simp [sumL]
  | l :: a, b => by simp [sumL, sumL_append a b]; omega
theorem Up.take {l : LI} (h : Up l) (n : Nat) : Up (l.take n) := h.sublist (List.take_sublist n l)
theorem Up.drop {l : LI} (h : Up l) (n : Nat) : Up (l.drop n) := h.sublist (List.drop_sublist n l)
/-- the pair of a side: what comes ahead of it, it, what comes behind it -/
structure Part (ps : List LI) (i : Nat) where
  A : List LI
  l : LI
  r : LI
  B : List LI
  eq : ps = A ++ l :: r :: B
  len : A.length = 2 * i
theorem Part.g0 {ps : List LI} {i : Nat} (p : Part ps i) : ps[2 * i]? = some p.l := (congrArg (fun q : List LI => q[2 * i]?) p.eq).trans (by
  rw [List.getElem?_append_right (by rw [p.len]; omega), p.len]; simp)
theorem Part.g1 {ps : List LI} {i : Nat} (p : Part ps i) : ps[2 * i + 1]? = some p.r := (congrArg (fun q : List LI => q[2 * i + 1]?) p.eq).trans (by
  rw [List.getElem?_append_right (by rw [p.len]; omega), p.len, show 2 * i + 1 - 2 * i = 1 by omega]; simp)
theorem Part.take {ps : List LI} {i : Nat} (p : Part ps i) : ps.take (2 * i) = p.A := (congrArg (fun q : List LI => q.take (2 * i)) p.eq).trans (by
  rw [← p.len, List.take_left])
theorem Part.drop {ps : List LI} {i : Nat} (p : Part ps i) : ps.drop (2 * i + 2) = p.B := (congrArg (fun q : List LI => q.drop (2 * i + 2)) p.eq).trans (by
  rw [← p.len, ← List.drop_drop, List.drop_left]; rfl)
theorem Part.set {ps : List LI} {i : Nat} (p : Part ps i) (a b : LI) : (ps.set (2 * i) a).set (2 * i + 1) b = p.A ++ a :: b :: p.B := (congrArg (fun q : List LI => (q.set (2 * i) a).set (2 * i + 1) b) p.eq).trans (by
  rw [List.set_append_right _ _ (by rw [p.len]; omega), p.len, Nat.sub_self, List.set_append_right _ _ (by rw [p.len]; omega), p.len, show 2 * i + 1 - 2 * i = 1 by omega]
  rfl)
theorem Part.length {ps : List LI} {i : Nat} (p : Part ps i) : ps.length = 2 * i + p.B.length + 2 := (congrArg List.length p.eq).trans (by
  have := p.len
  simp; omega)
theorem Part.mem {ps : List LI} {i : Nat} (p : Part ps i) {m : LI} (h : m = p.l ∨ m = p.r ∨ m ∈ p.A ∨ m ∈ p.B) : m ∈ ps := by
  have e : m ∈ p.A ++ p.l :: p.r :: p.B := by
    simp only [List.mem_append, List.mem_cons]
    rcases h with h | h | h | h
    · exact .inr (.inl h)
    · exact .inr (.inr (.inl h))
    · exact .inl h
    · exact .inr (.inr (.inr h))
  exact p.eq.symm ▸ e
theorem Valid.range {h : Hu} (v : Valid h) {x : Int} (hx : x ∈ h.rest ++ h.named ++ h.ps.flatten) : 0 ≤ x ∧ x < 64 := by
  have := v.u2
  rcases List.mem_append.1 hx with hx | hx
  · rcases List.mem_append.1 hx with hx | hx
    · have := users_mem v.rest hx; omega
    · have := users_mem v.named hx; omega
  · obtain ⟨l, hl, hx⟩ := List.mem_flatten.1 hx
    have := users_mem (v.ps l hl).1 hx; omega
end Go.Proofs.YtoegpalacppllaaGreat.Hn

/- How schemes and trees stand in memory; operations on numbers. No function of the program is in sight here. -/
namespace Go.Proofs.YtoegpalacppllaaGreat
open Go.RowKit Pl Tr

abbrev scC (s : Sc) : List Value := [.int .u8 s.k, .int .i64 s.d, .int .i64 s.g, .int .u64 s.p, .int .u64 s.q, .int .u64 s.r]
abbrev treeC (s : Sc) : List Value := [.int .u8 (tk s), .int .i64 (td s), .int .i64 (ts s : Int)]
theorem treeC_no {s : Sc} (h : schB s = false) : treeC s = [.int .u8 0, .int .i64 0, .int .i64 0] := by simp [treeC, tk, td, ts, h]
theorem treeC_yes {s : Sc} {i : Nat} (h : schB s = true) (hi : i = strideN s.d) : treeC s = [.int .u8 s.k, .int .i64 s.d, .int .i64 (i : Int)] := by subst hi; simp [treeC, tk, td, ts, h]
theorem ret_ii {k k' : IntKind} {a b c d : Int} (h : a = b) (h2 : c = d) : Ending.returned (.tuple #[.int k a, .int k' c]) = .returned (.tuple #[.int k b, .int k' d]) := by rw [h, h2]
section
variable {P : Program} {bs : List Value} {us : List (Nat × Value)} {o : Oper}
theorem r_shlZ {t t' : Nat} {x y : Operand} {m : Nat} {d : Int} {k' : IntKind} (ho : o.op = .binOp .shl t x y t') (hx : ev bs us x = .int .i64 (m : Int)) (hy : ev bs us y = .int k' d) (h0 : 0 ≤ d) (hd : d < 63) (h : m * p2 d.toNat < 9223372036854775808) : Runs P bs us o (.int .i64 ((m * p2 d.toNat : Nat) : Int)) := by
  obtain ⟨n, rfl⟩ : ∃ n : Nat, d = n := ⟨d.toNat, by omega⟩
  simp only [Int.toNat_natCast] at h ⊢
  exact r_shlN ho hx hy (by omega) (by rw [p2_pow]) h
end
end Go.Proofs.YtoegpalacppllaaGreat

/- Plain laws of lists and hunts, in the words of loops. No program is in sight here. -/
namespace Go.Proofs.YtoegpalacppllaaGreat.Hn

theorem has_at {l : LI} {i : Nat} {x : Int} (h : i < l.length) (e : at_ l i = x) : l.contains x = true := by
  subst e; simpa using at_mem h
theorem has_no {l : LI} {n : Nat} {x : Int} (hn : n = l.length) (h : ∀ k, k < n → at_ l k ≠ x) : l.contains x = false := by
  subst hn
  rw [← Bool.not_eq_true, List.contains_iff_mem]
  intro hm
  obtain ⟨i, hi, e⟩ := mem_at hm
  exact h i hi e
theorem all_step {p : Nat → Prop} {i : Nat} (h : ∀ k, k < i → p k) (hi : p i) : ∀ k, k < i + 1 → p k := fun k hk => by
  rcases Nat.lt_or_ge k i with h' | h'
  · exact h k h'
  · obtain rfl : k = i := by omega
    exact hi
theorem all_zero {p : Nat → Prop} : ∀ k, k < 0 → p k := fun k hk => by omega
theorem users_no {l : LI} {most : Int} {i : Nat} (hi : i < l.length) (h : ¬ (0 ≤ at_ l i ∧ at_ l i < most ∧ (i = 0 ∨ at_ l (i - 1) < at_ l i))) : usersB l most = false := by
  rw [← Bool.not_eq_true]
  intro e
  exact h (usersB_iff.1 e i hi)
theorem users_yes {l : LI} {most : Int} {n : Nat} (hn : n = l.length) (h : ∀ k, k < n → 0 ≤ at_ l k ∧ at_ l k < most ∧ (k = 0 ∨ at_ l (k - 1) < at_ l k)) : usersB l most = true := usersB_iff.2 fun i hi => h i (by omega)
end Go.Proofs.YtoegpalacppllaaGreat.Hn

/- Plain laws of hunts, in the words of the reference's loops. No program is in sight here. -/
namespace Go.Proofs.YtoegpalacppllaaGreat.Hn

theorem sumL_take {gs : List LI} {i : Nat} {l : LI} (h : gs[i]? = some l) : sumL (gs.take (i + 1)) = sumL (gs.take i) + l.length := by
  obtain ⟨hi, rfl⟩ := List.getElem?_eq_some_iff.1 h
  rw [List.take_succ_eq_append_getElem hi, sumL_append]
  simp [sumL]
theorem sumL_take_le : ∀ (gs : List LI) (i : Nat), sumL (gs.take i) ≤ sumL gs
  | [], i => by simp [sumL]
  | l :: gs, 0 => by simp [sumL]
  | l :: gs, i + 1 => by
    have := sumL_take_le gs i
    simp [sumL]; omega

end Go.Proofs.YtoegpalacppllaaGreat.Hn

/- How hunts stand in memory; makers that look at other makers; appends to what is empty. No function of the program is in sight here. -/
namespace Go.Proofs.YtoegpalacppllaaGreat
open Go.RowKit Pl Tr Hn

/-- a slice whose elements lie in these blocks -/
def Sl.In (s : Sl) (Bs : List Blk) : Prop := s.n = 0 ∨ ∃ x ∈ Bs, ∃ i, s.a = some ⟨x.id, i, none⟩ ∧ i + s.n ≤ x.cs.length
theorem Sl.In.sub {s : Sl} {N N' : List Blk} (h : s.In N) (hs : ∀ x ∈ N, x ∈ N') : s.In N' := h.imp id fun ⟨x, hx, r⟩ => ⟨x, hs x hx, r⟩
/-- numbers in new memory -/
structure NewI (s : Sl) (l : List Int) (Bs : List Blk) : Prop where
  n : s.n = l.length
  rep : Rep Bs fun W => RdI W s l
  mem : s.In Bs
theorem NewI.no : NewI Sl.no [] [] := ⟨rfl, fun _ W _ => RdI.no W, .inl rfl⟩
theorem OwnSl.newI {e : TypeId} {a : Option Addr} {n c : Nat} {l : List Int} {Bs : List Blk} (hO : OwnSl e 1 a n c (il l) Bs) : NewI ⟨a, n, c⟩ l Bs := by
  refine ⟨by have := hO.1; rw [il_len] at this; simp only; omega, hO.rep, ?_⟩
  rcases hO.2 with ⟨_, h1, _, _⟩ | ⟨g, cur, rfl, rfl, h1, _, h2, _⟩
  · exact .inl h1
  · exact .inr ⟨⟨g, cur, e⟩, by simp, 0, rfl, by simp only; omega⟩
theorem NewI.sub {s : Sl} {l : List Int} {N N' : List Blk} (h : NewI s l N) (hs : List.Sublist N N') : NewI s l N' := ⟨h.n, h.rep.sub hs, h.mem.sub fun _ hx => hs.subset hx⟩

/-- a hunt that reads as this one; ss: the sides of its pairs -/
structure RdHu (w : World) (h : Hu) (p r n : Sl) (ss : List Sl) : Prop where
  pc : RdC w p p.n (ss.map Sl.v)
  pn : p.n * 2 = ss.length
  len : ss.length = h.ps.length
  es : ∀ (i : Nat) t l, ss[i]? = some t → h.ps[i]? = some l → RdI w t l
  rest : RdI w r h.rest
  named : RdI w n h.named
theorem RdHu.past {w W : World} {h : Hu} {p r n : Sl} {ss : List Sl} (k : RdHu w h p r n ss) (hb : Below w.heap.size w W) : RdHu W h p r n ss :=
  ⟨k.pc.past hb, k.pn, k.len, fun i t l h1 h2 => (k.es i t l h1 h2).past hb, k.rest.past hb, k.named.past hb⟩

theorem OwnSl.castx {e : TypeId} {sz : Nat} {a : Option Addr} {n n' c : Nat} {xs xs' : List Value} {Bs : List Blk} (h : OwnSl e sz a n c xs Bs) (hn : n = n') (hx : xs = xs') : OwnSl e sz a n' c xs' Bs := by subst hn; subst hx; exact h
theorem RdHu.ptr {w : World} {h : Hu} {pa : Option Addr} {pn pc : Nat} {r q : Sl} {ss : List Sl} (k : RdHu w h ⟨pa, pn, pc⟩ r q ss) (hp : 0 < pn) : ∃ b o, pa = some ⟨b, o, none⟩ := by
  have hn := k.pn
  simp only at hn
  obtain ⟨b, o, ha, _⟩ := k.pc.ptr (by simp; omega)
  exact ⟨b, o, ha⟩
theorem RdHu.gl {w : World} {h : Hu} {pa : Option Addr} {pn pc : Nat} {r q : Sl} {ss : List Sl} (k : RdHu w h ⟨pa, pn, pc⟩ r q ss) : (groups h).length = 2 + 2 * pn := by
  have hn := k.pn
  have hl := k.len
  simp only at hn
  simp [groups]; omega
/-- a hunt in new memory -/
structure NewHu (h : Hu) (p r q : Sl) (ss : List Sl) (Bs : List Blk) : Prop where
  rep : Rep Bs fun W => RdHu W h p r q ss
  rest : r.In Bs
  named : q.In Bs
  ps : ∀ s ∈ ss, s.In Bs
/-- a slice of slices that reads as these lists -/
structure RdG (w : World) (s : Sl) (cs : List Sl) (gs : List (List Int)) : Prop where
  rd : RdC w s s.n (cs.map Sl.v)
  n : s.n = cs.length
  len : cs.length = gs.length
  es : ∀ (i : Nat) t l, cs[i]? = some t → gs[i]? = some l → RdI w t l
theorem RdG.past {w W : World} {s : Sl} {cs : List Sl} {gs : List (List Int)} (k : RdG w s cs gs) (hb : Below w.heap.size w W) : RdG W s cs gs := ⟨k.rd.past hb, k.n, k.len, fun i t l h1 h2 => (k.es i t l h1 h2).past hb⟩
theorem RdG.ptr {w : World} {a : Option Addr} {n c : Nat} {cs : List Sl} {gs : List (List Int)} (k : RdG w ⟨a, n, c⟩ cs gs) (hp : 0 < n) : ∃ b o, a = some ⟨b, o, none⟩ := by
  have hn := k.n
  simp only at hn
  obtain ⟨b, o, ha, _⟩ := k.rd.ptr (by simp; omega)
  exact ⟨b, o, ha⟩
theorem RdG.get {w : World} {b o n c : Nat} {cs : List Sl} {gs : List (List Int)} (k : RdG w ⟨some ⟨b, o, none⟩, n, c⟩ cs gs) {i : Nat} (hi : i < n) : ∃ s l, cs[i]? = some s ∧ gs[i]? = some l ∧ w.cell? ⟨b, o + i, none⟩ = some s.v ∧ RdI w s l := by
  have hn := k.n
  have hl := k.len
  simp only at hn
  have h0 : cs[i]? = some cs[i] := List.getElem?_eq_getElem (by omega)
  have h1 : gs[i]? = some gs[i] := List.getElem?_eq_getElem (by omega)
  refine ⟨_, _, h0, h1, ?_, k.es i _ _ h0 h1⟩
  obtain ⟨b', o', ha, hc⟩ := k.rd.rd i cs[i].v (by simp [h0])
  simp only [Option.some.injEq, Addr.mk.injEq, and_true] at ha
  obtain ⟨rfl, rfl⟩ := ha
  exact hc
section
variable {P : Program} {ops : Array Oper} {bs : List Value} {us : List (Nat × Value)} {ds : List Deferred} {w0 : Base} {W : World} {rest : List Oper} {o : Oper} {L : List Blk} {d : Nat} {v : Value}
variable {S : List Nat} {ks : List Kd} {ms : List Mk} {V : List (List Value)} {R : Act → St → Prop} {T : List Oper → Act → St → Prop}
theorem y_mkd (i j : Nat) {X : List Value → Value → List Blk → Prop} {z zj : List Value} {kj : Mk} (hk : ms[i]? = some ⟨d, X⟩) (hV : V[i]? = some z) (hkj : ms[j]? = some kj) (hVj : V[j]? = some zj)
    (hm : ∀ u Bs L2, Sim S L L2 → kj.X zj u Bs → MakesIn P o (ev bs ((kj.d, u) :: us)) w0 (L2 ++ Bs) (X z)) (h : lx P ops w0 S ms R T ks rest (fr bs us ds) (L, V)) : lx P ops w0 S ms R T (.mkd i j :: ks) (o :: rest) (fr bs us ds) (L, V) :=
  ⟨undef, (L, V), ⟨rfl, rfl, _, z, kj, zj, hk, hV, hkj, hVj, fun u Bs L2 hs hx => by rw [put_st, eval_ev]; exact hm u Bs L2 hs hx⟩, h⟩
theorem Cl.grown {W' : World} {g : Nat} {e : TypeId} {cs : List Value} (h : Cl w0 L W) (hg : W.grownBy W' none) (hb : W.heap.size ≤ g) (hc : W'.heap[g]? = some (.cells cs.toArray e (0, 0))) : Cl w0 (L ++ [⟨g, cs, e⟩]) W' := by
  refine h.beside ⟨⟨hg.os, hg.tape, hg.output, hg.size, fun k hk => hg.block k hk (by simp)⟩, ?_, ?_, by simp, fun k o hk _ => (hg.block k (Array.getElem?_eq_some_iff.1 hk).1 (by simp)).trans hk⟩
  · intro x hx
    obtain rfl : x = ⟨g, cs, e⟩ := by simpa using hx
    exact hc
  · intro x hx
    obtain rfl : x = ⟨g, cs, e⟩ := by simpa using hx
    exact hb
/-- an append to what has no room: nothing that was there is written -/
theorem fresh_append {t e : TypeId} {sz bytes : Nat} (hE : TyE P t e sz bytes) (hW : Cl w0 L W) (ty : TypeId) (ad : Addr) {a : Option Addr} {n c : Nat} {news : List Value} (hr : Rd W a news) (hl : news.length = n * sz) (hnil : a = none → n = 0 ∧ c = 0) (b1 : n ≤ maxLen) (b2 : n * bytes ≤ 140737488355328) :
    ∃ a' c' Bs W', (Builtin.append_ #[t, t] ty #[.slice (some ad) 0 0, .slice a n c]).run P W = .ok (.slice a' n c') W' ∧ ((n = 0 ∧ a' = some ad ∧ c' = 0 ∧ Bs = []) ∨ OwnSl e sz a' n c' news Bs) ∧ Cl w0 (L ++ Bs) W' := by
  obtain ⟨i, z, hi, hz, hsz, hby, hzs⟩ := hE.info
  have hpos := hE.pos
  by_cases hn : n = 0
  · subst hn
    refine ⟨some ad, 0, [], W, ?_, .inl ⟨rfl, rfl, rfl, rfl⟩, by simpa using hW⟩
    cases a with
    | none =>
      obtain ⟨-, rfl⟩ := hnil rfl
      simp [Builtin.append_, run_underlying hE.u, sizeOf, typeInfo, hi, Builtin.lenOf, Builtin.firstCells, storeCells]
    | some q => simp [Builtin.append_, run_underlying hE.u, sizeOf, typeInfo, hi, Builtin.lenOf, Builtin.firstCells, loadCells, loadCellsFrom, storeCells]
  · cases a with
    | none => exact absurd (hnil rfl).1 hn
    | some q =>
      have hnews : ∀ j u, news[j]? = some u → W.cell? (q.add j) = some u := fun j u hu => by
        obtain ⟨b, o, hq, hc⟩ := hr j u hu
        simp only [Option.some.injEq] at hq
        subst hq
        rw [Addr.add_lit]; exact hc
      obtain ⟨v', W', hrun, hrow, hg⟩ := run_append_arg_grows (P := P) W t ty e i z sz bytes hE.u hi hz hsz hby hzs hE.pos ad 0 0 [] (by simp) (by simp) q n c news hl hnews (by omega) (by omega) (by rw [Nat.zero_add]; exact b2)
      rw [List.nil_append, Nat.zero_add] at hrow
      rcases hrow.2 with ⟨_, h0⟩ | ⟨g, cap, cur, hv, hbg, hcell, hnc, hcm, hcs, htake⟩
      · have : news.length = 0 := by omega
        rw [hl] at this
        have := Nat.mul_pos (Nat.pos_of_ne_zero hn) hpos
        omega
      · subst hv
        exact ⟨some ⟨g, 0, none⟩, cap, [⟨g, cur.toList, e⟩], W', hrun, .inr ⟨hl, .inr ⟨g, cur.toList, rfl, rfl, hnc, hcm, by simpa using hcs, htake⟩⟩, hW.grown hg hbg (by simpa using hcell)⟩

/-- numbers that are appended to what is empty -/
def twX (l : List Int) (_ : List Value) (v : Value) (Bs : List Blk) : Prop := ∃ s : Sl, v = s.v ∧ NewI s l Bs
theorem fresh_ints {t e : TypeId} {bytes : Nat} (hE : TyE P t e 1 bytes) (hW : Cl w0 L W) (ty : TypeId) (ad : Addr) {s : Sl} {l : List Int} (hr : RdI W s l) (b2 : l.length * bytes ≤ 140737488355328) (b3 : l.length ≤ 4294967296) :
    ∃ v Bs W', (Builtin.append_ #[t, t] ty #[.slice (some ad) 0 0, s.v]).run P W = .ok v W' ∧ twX l [] v Bs ∧ Cl w0 (L ++ Bs) W' := by
  have hn := hr.len
  obtain ⟨a', c', Bs, W', h1, h2, h3⟩ := fresh_append hE hW ty ad (n := s.n) (c := s.c) hr.rd (by rw [il_len]; omega) (fun h => ⟨hr.ok.nil0 h, hr.ok.nil h⟩) (by unfold maxLen; omega) (by rw [hn]; exact b2)
  refine ⟨_, Bs, W', h1, ?_, h3⟩
  rcases h2 with ⟨h0, rfl, rfl, rfl⟩ | h2
  · have : l = [] := List.eq_nil_of_length_eq_zero (by omega)
    subst this
    rw [h0]
    exact ⟨⟨some ad, 0, 0⟩, rfl, rfl, fun _ _ _ => ⟨⟨Nat.le_refl _, fun h => by cases h⟩, rfl, Rd.nil _ _⟩, .inl rfl⟩
  · exact ⟨⟨a', s.n, c'⟩, rfl, h2.newI⟩
end
end Go.Proofs.YtoegpalacppllaaGreat

/- A region that draws its order, walked in an order that is given. No function of the program is in sight here. -/
namespace Go.Proofs.YtoegpalacppllaaGreat
open Go.RowKit

def pickL (ops : Array Oper) : List Nat → List Oper
  | [] => []
  | k :: r => match ops[k]? with
    | some o => o :: pickL ops r
    | none => []
def lexO (md : Region.Mode) (ops : Array Oper) (kd : Nat → Kd) (ix : List Nat) (M : List Nat) (tl : List Nat → Array Bool → Bool) : List Nat → Array Bool → Bool
  | [], done => (Region.ready md ops done).isEmpty && madeB ix done
  | k :: ord, done => match kd k with
    | .tail => cutB ops kd done && madeB ix done && !(Region.ready md ops done).isEmpty && tl (k :: ord) done
    | _ => (Region.ready md ops done).contains k && ((List.range ops.size).all fun j => j == k || done.getD j true || (M.getD j 0).testBit k || match ops[k]?, ops[j]? with
      | some ok, some oj => ok.apart ops oj && mayB (kd k) (kd j)
      | _, _ => false) && lexO md ops kd ix M tl ord (done.setIfInBounds k true)

section
variable {P : Program} {ops : Array Oper} {Q : Exit → Act → World → Prop} {a : Act} {w0 : Base} {W : World} {L : List Blk} {md : Region.Mode} {S : List Nat} {r : Option (Option Nat)} {m : Nat} {ms : List Mk} {bs : List Value} {us : List (Nat × Value)} {ds : List Deferred}
theorem anyC_lexO {kd : Nat → Kd} {ix : List Nat} {R : Act → St → Prop} {T : List Oper → Act → St → Prop} {U : Nat → Array Bool → Act → St → Prop} {M : List Nat} {tl : List Nat → Array Bool → Bool} (hM : masksB md ops M = true) (hsel : Region.noSelect ops = true)
    (hU : ∀ ord done a s, Closed md ops done → tl ord done = true → T (pickL ops ord) a s → U ord.length done a s) : ∀ (ord : List Nat) (done : Array Bool) (a : Act) (s : St), (∀ k ∈ ord, k < ops.size) → Closed md ops done →
    lexO md ops kd ix M tl ord done = true → lx P ops w0 S ms R T (ord.map kd) (pickL ops ord) a s → anyC P md ops w0 S ms kd ix R U ord.length done a s
  | [], done, a, s, _, _, hB, h => by
    simp only [lexO, Bool.and_eq_true] at hB
    exact ⟨by simpa using hB.1, hB.2, by simpa [lx, pickL] using h⟩
  | k :: ord, done, a, s, hv, hc, hB, h => by
    have hlt : k < ops.size := hv k (by simp)
    obtain ⟨o, h0⟩ : ∃ o, ops[k]? = some o := ⟨ops[k], by simp [hlt]⟩
    have hp : pickL ops (k :: ord) = o :: pickL ops ord := by simp [pickL, h0]
    have step : ∀ (v : Value) (s' : St), (Region.ready md ops done).contains k = true → ((List.range ops.size).all fun j => j == k || done.getD j true || (M.getD j 0).testBit k || match ops[k]?, ops[j]? with
        | some ok, some oj => ok.apart ops oj && mayB (kd k) (kd j)
        | _, _ => false) = true → lexO md ops kd ix M tl ord (done.setIfInBounds k true) = true →
        StepK P ops w0 S ms (kd k) o a s v s' → lx P ops w0 S ms R T (ord.map kd) (pickL ops ord) (putK (kd k) a o.dst v) s' → anyC P md ops w0 S ms kd ix R U (ord.length + 1) done a s := by
      intro v s' hr hf hB' hs hn
      have hr' : k ∈ Region.ready md ops done := by simpa using hr
      refine anyC_first hM h0 (Region.noSelect_spec hsel) ord.length done a s v s' hc (fun j oj hj hne hun hno => ?_) hr' hs
        (anyC_lexO hM hsel hU ord _ _ _ (fun x hx => hv x (by simp [hx])) (hc.set hr') hB' hn)
      have := List.all_eq_true.1 hf j (List.mem_range.2 (Array.getElem?_eq_some_iff.1 hj).1)
      simp only [Bool.or_eq_true, beq_iff_eq, hne, false_or, hun, Bool.false_eq_true, hno, h0, hj, Bool.and_eq_true] at this
      exact this
    simp only [lexO] at hB
    rw [List.map_cons] at h
    cases hkd : kd k with
    | tail =>
      rw [hkd] at hB h
      simp only [Bool.and_eq_true] at hB
      exact ⟨by have := hB.1.2; intro e; rw [e] at this; simp at this, .inl ⟨hB.1.1.1, hB.1.1.2, hU (k :: ord) done a s hc hB.2 (by rw [hp] at h ⊢; exact h)⟩⟩
    | _ =>
      rw [hkd, hp] at h
      rw [hkd] at hB
      simp only [Bool.and_eq_true] at hB
      obtain ⟨v, s', hs, hn⟩ := h
      exact step v s' hB.1.1 (by rw [hkd]; exact hB.1.2) hB.2 (by rw [hkd]; exact hs) (by rw [hkd]; exact hn)

theorem made0 {ix : List Nat} {n : Nat} {done : Array Bool} (h : ∀ i ∈ ix, done.getD i false = false) : ∀ (q i : Nat), ix[q]? = some i → ((∃ v, (List.replicate n (none : Option Value))[q]? = some (some v)) ↔ done.getD i false = true) := fun q i hq => by
  constructor
  · rintro ⟨v, hv⟩
    rw [List.getElem?_replicate] at hv
    split at hv
    · injection hv with hv; cases hv
    · cases hv
  · intro hd
    rw [h i (List.mem_of_getElem? hq)] at hd; cases hd
theorem puts_size : ∀ (ms : List Mk) (vs : List (Option Value)) (a : Act), (puts a ms vs).tmps.size = a.tmps.size
  | [], vs, a => by simp [puts]
  | k :: ms, [], a => by simp [puts]
  | k :: ms, none :: vs, a => by rw [puts]; exact puts_size ms vs a
  | k :: ms, some v :: vs, a => by rw [puts, puts_size ms vs, put_size]
/-- each of the rest waits for the one ahead of it -/
def seqO (md : Region.Mode) (ops : Array Oper) : List Nat → Array Bool → Bool
  | [], done => (Region.ready md ops done).isEmpty
  | k :: o, done => (Region.ready md ops done == [k]) && Nat.blt k ops.size && seqO md ops o (done.setIfInBounds k true)
theorem AW_seqO : ∀ (l : List Nat) (done : Array Bool) (a : Act) (w : World), seqO md ops l done = true → LW r m P ops Q (pickL ops l) a w → AW r m P md ops Q l.length done a w
  | [], _, _, _, hB, h => AW.zero (by simpa [seqO] using hB) (by have h := h.h; cases r <;> exact h)
  | k :: l, done, a, w, hB, h => by
    simp only [seqO, Bool.and_eq_true, beq_iff_eq, Nat.blt_eq] at hB
    obtain ⟨⟨hr, hlt⟩, hB⟩ := hB
    have h0 : ops[k]? = some ops[k] := by simp [hlt]
    have hp : pickL ops (k :: l) = ops[k] :: pickL ops l := by simp [pickL, hlt]
    rw [hp] at h
    refine AW.succ (by rw [hr]; simp) fun i hi => ?_
    rw [hr] at hi
    obtain rfl : i = k := by simpa using hi
    exact (OW.of_LW h0 h).mono fun a w h => AW_seqO l _ a w hB ⟨h⟩
/-! ### a quiet operation that may come at any time, beside the tail, too -/
def Zok (P : Program) (w0 : Base) (S : List Nat) (L0 : List Blk) (a : Act) (oz : Oper) (vz : Value) : Prop := ∀ L2 w, Sim S L0 L2 → Cl w0 L2 w → (execOp a.eval oz).run P w = .ok (.value vz) w
theorem StepK.sim {k : Kd} {o : Oper} {s s' : St} {v : Value} (h : StepK P ops w0 S ms k o a s v s') : Sim S s.1 s'.1 := by
  cases k with
  | q => rw [h.2]; exact Sim.refl _ _
  | r => rw [h.2]; exact Sim.refl _ _
  | s => exact h.2.2.2.1
  | mk i => rw [h.2.1]; exact Sim.refl _ _
  | mkd i j => rw [h.2.1]; exact Sim.refl _ _
  | rd i => rw [h.1]; exact Sim.refl _ _
  | st i =>
    obtain ⟨_, k, vs, _, _, rfl⟩ := h
    exact Sim.refl _ _
  | tail => exact h.elim
theorem mk_full {ix : List Nat} {kd : Nat → Kd} (hA : AllB md ops ms ix kd) {done : Array Bool} {vs : List (Option Value)} (hl : vs.length = ms.length) (hrel : ∀ (q i : Nat), ix[q]? = some i → ((∃ v, vs[q]? = some (some v)) ↔ done.getD i false = true)) (hm : madeB ix done = true) : ∀ v ∈ vs, v.isSome = true := by
  intro v hv
  obtain ⟨q, hq⟩ := List.getElem?_of_mem hv
  have hlt := (List.getElem?_eq_some_iff.1 hq).1
  have hq2 : ix[q]? = some (ix[q]'(by rw [hA.len]; omega)) := List.getElem?_eq_getElem _
  have hd : done.getD (ix[q]'(by rw [hA.len]; omega)) false = true := List.all_eq_true.1 hm _ (List.getElem_mem _)
  obtain ⟨u, hu⟩ := (hrel q _ hq2).2 hd
  rw [hq] at hu
  injection hu with hu
  rw [hu]; rfl
theorem getD_true_lt {done : Array Bool} {i : Nat} (h : done.getD i false = true) : i < done.size := by
  rcases Nat.lt_or_ge i done.size with h' | h'
  · exact h'
  · simp [Array.getElem?_eq_none h'] at h
end
end Go.Proofs.YtoegpalacppllaaGreat

