/- A region that draws its order, walked once, as it is written. Its operations: those that yield one value in all worlds that are known so far (loads, calls, arithmetic); stores into blocks that were there; makers, which make memory (a new variable, a slice, a call that hands back memory of its own); stores into a new variable; and a tail that runs in order when all else is done. No function of the program is in sight here. -/
import Derived.Test.YtoegpalacppllaaMem
namespace Go.Proofs.Ytoegpalacppllaa
open Go.RowKit

/-- the same blocks, but for those at the places S; there may be more -/
def Sim (S : List Nat) (L L' : List Blk) : Prop := ∀ p x, p ∉ S → L[p]? = some x → L'[p]? = some x
theorem Sim.refl (S : List Nat) (L : List Blk) : Sim S L L := fun _ _ _ h => h
theorem Sim.trans {S : List Nat} {L L' L2 : List Blk} (h : Sim S L L') (k : Sim S L' L2) : Sim S L L2 := fun p x hp hx => k p x hp (h p x hp hx)
theorem Sim.more (S : List Nat) (L N : List Blk) : Sim S L (L ++ N) := fun p x _ h => by
  rw [List.getElem?_append_left (List.getElem?_eq_some_iff.1 h).1]; exact h
theorem Sim.set {S : List Nat} (L : List Blk) (p : Nat) (x : Blk) (hp : p ∈ S) : Sim S L (L.set p x) := fun q y hq hy => by
  rw [List.getElem?_set_ne]
  · exact hy
  · intro e; subst e; exact hq hp
theorem Sim.unset {S : List Nat} (L : List Blk) (p : Nat) (x : Blk) (hp : p ∈ S) : Sim S (L.set p x) L := fun q y hq hy => by
  rw [List.getElem?_set_ne] at hy
  · exact hy
  · intro e; subst e; exact hq hp

/-- what becomes of blocks when their order does not count -/
theorem Cl.perm {w0 : Base} {W : World} {L L' : List Blk} (h : Cl w0 L W) (hp : L.Perm L') : Cl w0 L' W :=
  ⟨h.below, fun x hx => h.holds x (hp.mem_iff.2 hx), fun x hx => h.own x (hp.mem_iff.2 hx), (hp.pairwise_iff (fun e => Ne.symm e)).1 h.apart, h.oth⟩

/-- kinds of operations: one value whatever the blocks at S hold; one value; a store; a maker; a store into a maker's block; the tail -/
inductive Kd where
  | q | r | s
  | mk (i : Nat)
  | st (i : Nat)
  | rd (i : Nat)
  | tail
/-- these two kinds may change places -/
def mayB : Kd → Kd → Bool
  | .tail, _ => false
  | _, .tail => false
  | .s, .r => false
  | .r, .s => false
  | .s, .s => false
  | .st i, .st j => !(i == j)
  | .mk i, .st j => !(i == j)
  | .st i, .mk j => !(i == j)
  | .rd i, .mk j => !(i == j)
  | .mk i, .rd j => !(i == j)
  | .rd i, .st j => !(i == j)
  | .st i, .rd j => !(i == j)
  | _, _ => true

/-- A maker: where its value goes; what it and its blocks are, its variable holding these cells. -/
structure Mk where
  d : Tmp
  X : List Value → Value → List Blk → Prop

/-- The makers' values, as far as they are there. -/
def puts (a : Act) : List Mk → List (Option Value) → Act
  | m :: ms, some v :: vs => puts (a.put (some m.d) v) ms vs
  | _ :: ms, none :: vs => puts a ms vs
  | _, _ => a

section
variable {P : Program} {ops : Array Oper} {o : Oper} {a : Act}
theorem puts_exec (hs : ∀ cs b, o.op ≠ .select cs b) : ∀ (ms : List Mk) (vs : List (Option Value)) (a : Act), (∀ m ∈ ms, m.d ∉ o.looksAt ops) → execOp (puts a ms vs).eval o = execOp a.eval o
  | [], _, _, _ => by simp [puts]
  | m :: ms, [], _, _ => by simp [puts]
  | m :: ms, some v :: vs, a, h => by
    rw [puts, puts_exec hs ms vs _ fun x hx => h x (by simp [hx])]
    exact execOp_put o hs a (some m.d) v fun d hd => by cases hd; exact h m (by simp)
  | m :: ms, none :: vs, a, h => by rw [puts, puts_exec hs ms vs _ fun x hx => h x (by simp [hx])]
theorem puts_wanted : ∀ (ms : List Mk) (vs : List (Option Value)) (a : Act), (∀ m ∈ ms, m.d ∉ o.looksAt ops) → Region.wanted o (yielded ops (puts a ms vs).tmps) = Region.wanted o (yielded ops a.tmps)
  | [], _, _, _ => by simp [puts]
  | m :: ms, [], _, _ => by simp [puts]
  | m :: ms, some v :: vs, a, h => by
    rw [puts, puts_wanted ms vs _ fun x hx => h x (by simp [hx])]
    exact wanted_put o a (some m.d) v fun d hd => by cases hd; exact h m (by simp)
  | m :: ms, none :: vs, a, h => by rw [puts, puts_wanted ms vs _ fun x hx => h x (by simp [hx])]
theorem puts_put {dst : Option Tmp} {u : Value} : ∀ (ms : List Mk) (vs : List (Option Value)) (a : Act), (∀ m ∈ ms, dst ≠ some m.d) → (puts a ms vs).put dst u = puts (a.put dst u) ms vs
  | [], _, _, _ => by simp [puts]
  | m :: ms, [], _, _ => by simp [puts]
  | m :: ms, some v :: vs, a, h => by
    rw [puts, puts, puts_put ms vs _ fun x hx => h x (by simp [hx])]
    rw [Act.put_comm a v u fun d hd he => h m (by simp) (by rw [← hd] at *; exact he)]
  | m :: ms, none :: vs, a, h => by rw [puts, puts, puts_put ms vs _ fun x hx => h x (by simp [hx])]
theorem puts_eval {y : Operand} : ∀ (ms : List Mk) (vs : List (Option Value)) (a : Act), (∀ m ∈ ms, y ≠ .tmp m.d) → (puts a ms vs).eval y = a.eval y
  | [], _, _, _ => by simp [puts]
  | m :: ms, [], _, _ => by simp [puts]
  | m :: ms, some v :: vs, a, h => by
    rw [puts, puts_eval ms vs _ fun x hx => h x (by simp [hx])]
    exact Act.eval_put fun d hd => by cases hd; exact h m (by simp)
  | m :: ms, none :: vs, a, h => by rw [puts, puts_eval ms vs _ fun x hx => h x (by simp [hx])]
theorem put_size (a : Act) (d : Option Tmp) (v : Value) : (a.put d v).tmps.size = a.tmps.size := by cases d <;> simp [Act.put]
theorem puts_set {v : Value} {m : Mk} : ∀ (ms : List Mk) (vs : List (Option Value)) (a : Act) (q : Nat), ms.Pairwise (fun x y => x.d ≠ y.d) → ms[q]? = some m → vs[q]? = some none → puts a ms (vs.set q (some v)) = (puts a ms vs).put (some m.d) v
  | [], _, _, _, _, h, _ => by simp at h
  | x :: ms, [], _, _, _, _, h => by simp at h
  | x :: ms, y :: vs, a, 0, hp, hm, hv => by
    simp at hm hv
    subst hm; subst hv
    rw [List.set_cons_zero, puts, puts, puts_put]
    intro m hm e
    injection e with e
    exact (List.pairwise_cons.1 hp).1 m hm e
  | x :: ms, some y :: vs, a, q + 1, hp, hm, hv => by
    rw [List.set_cons_succ, puts, puts, puts_set ms vs _ q (List.pairwise_cons.1 hp).2 (by simpa using hm) (by simpa using hv)]
  | x :: ms, none :: vs, a, q + 1, hp, hm, hv => by
    rw [List.set_cons_succ, puts, puts, puts_set ms vs _ q (List.pairwise_cons.1 hp).2 (by simpa using hm) (by simpa using hv)]
theorem put_put (a : Act) (d : Tmp) (v u : Value) : (a.put (some d) v).put (some d) u = a.put (some d) u := by
  simp [Act.put]
theorem puts_first {v : Value} {m : Mk} : ∀ (ms : List Mk) (vs : List (Option Value)) (a : Act) (q : Nat), ms.Pairwise (fun x y => x.d ≠ y.d) → ms[q]? = some m → vs[q]? = some (some v) → puts a ms vs = puts (a.put (some m.d) v) (ms.eraseIdx q) (vs.eraseIdx q)
  | [], _, _, _, _, h, _ => by simp at h
  | x :: ms, [], _, _, _, _, h => by simp at h
  | x :: ms, y :: vs, a, 0, hp, hm, hv => by
    simp at hm hv
    subst hm; subst hv
    rfl
  | x :: ms, some y :: vs, a, q + 1, hp, hm, hv => by
    have hm' : ms[q]? = some m := by simpa using hm
    have hne : x.d ≠ m.d := (List.pairwise_cons.1 hp).1 m (List.mem_of_getElem? hm')
    rw [puts, puts_first ms vs _ q (List.pairwise_cons.1 hp).2 hm' (by simpa using hv), List.eraseIdx_cons_succ, List.eraseIdx_cons_succ, puts]
    rw [Act.put_comm a y v fun d hd he => hne (by injection hd with hd; injection he with he; rw [hd, he])]
  | x :: ms, none :: vs, a, q + 1, hp, hm, hv => by
    rw [puts, puts_first ms vs _ q (List.pairwise_cons.1 hp).2 (by simpa using hm) (by simpa using hv), List.eraseIdx_cons_succ, List.eraseIdx_cons_succ, puts]
theorem puts_get {v : Value} {m : Mk} : ∀ (ms : List Mk) (vs : List (Option Value)) (a : Act) (q : Nat), ms.Pairwise (fun x y => x.d ≠ y.d) → ms[q]? = some m → vs[q]? = some (some v) → m.d < a.tmps.size → (puts a ms vs).eval (.tmp m.d) = v
  | [], _, _, _, _, h, _, _ => by simp at h
  | x :: ms, [], _, _, _, _, h, _ => by simp at h
  | x :: ms, y :: vs, a, 0, hp, hm, hv, hs => by
    simp at hm hv
    subst hm; subst hv
    rw [puts, puts_eval]
    · simp [Act.eval, Act.put, hs]
    · intro m hm e
      injection e with e
      exact (List.pairwise_cons.1 hp).1 m hm e
  | x :: ms, some y :: vs, a, q + 1, hp, hm, hv, hs => by
    rw [puts]
    exact puts_get ms vs _ q (List.pairwise_cons.1 hp).2 (by simpa using hm) (by simpa using hv) (by rw [put_size]; exact hs)
  | x :: ms, none :: vs, a, q + 1, hp, hm, hv, hs => by
    rw [puts]
    exact puts_get ms vs _ q (List.pairwise_cons.1 hp).2 (by simpa using hm) (by simpa using hv) hs
end

section
variable {P : Program} {ops : Array Oper} {Q : Exit → Act → World → Prop} {a : Act} {w0 : Base} {W : World} {rest : List Oper} {o : Oper} {L L1 : List Blk} {md : Region.Mode} {S : List Nat} {r : Option (Option Nat)} {m : Nat} {ms : List Mk}

/-- an operation that makes memory -/
def MakesIn (P : Program) (o : Oper) (ρ : Operand → Value) (w0 : Base) (L : List Blk) (Y : Value → List Blk → Prop) : Prop :=
  ∀ w, Cl w0 L w → (∃ v Bs w', (execOp ρ o).run P w = .ok (.value v) w' ∧ Y v Bs ∧ Cl w0 (L ++ Bs) w') ∨
    ∃ f args, (execOp ρ o).run P w = .ok (.enter f args) w ∧ Calls P f args w (After fun v w' => ∃ Bs, Y v Bs ∧ Cl w0 (L ++ Bs) w')
/-- a store of a maker's variable -/
def StoresM (P : Program) (o : Oper) (a : Act) (w0 : Base) (k : Mk) (vs : List Value) : Prop :=
  ∃ t y, o.op = .store t (.tmp k.d) y ∧ ∀ (ρ : Operand → Value) v cs Bs M w, ρ (.tmp k.d) = v → ρ y = a.eval y → k.X cs v Bs → Cl w0 (M ++ Bs) w →
    ∃ w' Bs', (execOp ρ o).run P w = .ok .skip w' ∧ k.X vs v Bs' ∧ Cl w0 (M ++ Bs') w'

/-- an operation that looks at a maker's value, and yields one value whatever that is -/
def ReadsM (P : Program) (ops : Array Oper) (o : Oper) (a : Act) (w0 : Base) (S : List Nat) (L : List Blk) (k : Mk) (z : List Value) (v : Value) : Prop :=
  ∀ u Bs L2, Sim S L L2 → k.X z u Bs → YieldsIn P ops (Cl w0 (L2 ++ Bs)) o v (a.put (some k.d) u)
abbrev St := List Blk × List (List Value)
def StepK (P : Program) (ops : Array Oper) (w0 : Base) (S : List Nat) (ms : List Mk) : Kd → Oper → Act → St → Value → St → Prop
  | .q, o, a, s, v, s' => (∀ L2, Sim S s.1 L2 → YieldsIn P ops (Cl w0 L2) o v a) ∧ s' = s
  | .r, o, a, s, v, s' => (∀ N, YieldsIn P ops (Cl w0 (s.1 ++ N)) o v a) ∧ s' = s
  | .s, o, a, s, v, s' => v = undef ∧ Region.wanted o (yielded ops a.tmps) = true ∧ (∀ N w, Cl w0 (s.1 ++ N) w → ∃ w', (execOp a.eval o).run P w = .ok .skip w' ∧ Cl w0 (s'.1 ++ N) w') ∧ Sim S s.1 s'.1 ∧ Sim S s'.1 s.1 ∧ s'.2 = s.2
  | .mk i, o, a, s, v, s' => v = undef ∧ s' = s ∧ ∃ k z, ms[i]? = some k ∧ s.2[i]? = some z ∧ ∀ L2, Sim S s.1 L2 → MakesIn P o a.eval w0 L2 (k.X z)
  | .st i, o, a, s, v, s' => v = undef ∧ ∃ k vs, ms[i]? = some k ∧ StoresM P o a w0 k vs ∧ s' = (s.1, s.2.set i vs)
  | .rd i, o, a, s, v, s' => s' = s ∧ ∃ k z, ms[i]? = some k ∧ s.2[i]? = some z ∧ ReadsM P ops o a w0 S s.1 k z v
  | .tail, _, _, _, _, _ => False
def putK : Kd → Act → Option Tmp → Value → Act
  | .mk _, a, _, _ => a
  | _, a, d, v => a.put d v

/-- as they are written -/
def lx (P : Program) (ops : Array Oper) (w0 : Base) (S : List Nat) (ms : List Mk) (R : Act → St → Prop) (T : List Oper → Act → St → Prop) : List Kd → List Oper → Act → St → Prop
  | _, [], a, s => R a s
  | [], _ :: _, _, _ => False
  | .tail :: _, o :: rest, a, s => T (o :: rest) a s
  | k :: ks, o :: rest, a, s => ∃ v s', StepK P ops w0 S ms k o a s v s' ∧ lx P ops w0 S ms R T ks rest (putK k a o.dst v) s'

/-- each of the rest waits for the one ahead of it -/
def seqB (md : Region.Mode) (ops : Array Oper) : Nat → Nat → Array Bool → Bool
  | 0, _, done => (Region.ready md ops done).isEmpty
  | f + 1, k, done => (Region.ready md ops done == [k]) && seqB md ops f (k + 1) (done.setIfInBounds k true)
/-- all makers have been at work -/
def madeB (md : List Nat) (done : Array Bool) : Bool := md.all fun i => done.getD i false

/-- in whatever order -/
def Kd.isTail : Kd → Bool
  | .tail => true
  | _ => false
/-- all that is left is tail -/
def cutB (ops : Array Oper) (kd : Nat → Kd) (done : Array Bool) : Bool := (List.range ops.size).all fun j => done.getD j true || (kd j).isTail
def anyC (P : Program) (md : Region.Mode) (ops : Array Oper) (w0 : Base) (S : List Nat) (ms : List Mk) (kd : Nat → Kd) (ix : List Nat) (R : Act → St → Prop) (U : Nat → Array Bool → Act → St → Prop) : Nat → Array Bool → Act → St → Prop
  | 0, done, a, s => Region.ready md ops done = [] ∧ madeB ix done = true ∧ R a s
  | f + 1, done, a, s => (Region.ready md ops done ≠ []) ∧ ((cutB ops kd done = true ∧ madeB ix done = true ∧ U (f + 1) done a s) ∨
      ∀ i ∈ Region.ready md ops done, ∃ oi, ops[i]? = some oi ∧ ∃ v s', StepK P ops w0 S ms (kd i) oi a s v s' ∧ anyC P md ops w0 S ms kd ix R U f (done.setIfInBounds i true) (putK (kd i) a oi.dst v) s')

/-- in whatever order, in a function or in a round -/
def AW (r : Option (Option Nat)) (m : Nat) (P : Program) (md : Region.Mode) (ops : Array Oper) (Q : Exit → Act → World → Prop) (f : Nat) (done : Array Bool) (a : Act) (w : World) : Prop :=
  match r with
  | none => wpAny P md ops Q f done a w
  | some k => wpAnyIn (RF k) m P md ops Q f done a w
def OW (r : Option (Option Nat)) (m : Nat) (P : Program) (ops : Array Oper) (Q : Exit → Act → World → Prop) (i : Nat) (K : Act → World → Prop) (a : Act) (w : World) : Prop :=
  match r with
  | none => wpOp P ops Q i K a w
  | some k => wpOpIn (RF k) m P ops Q i K a w
theorem AW.zero {done : Array Bool} (h1 : Region.ready md ops done = []) (h2 : Q .normal a W) : AW r m P md ops Q 0 done a W := by
  cases r with
  | none => exact ⟨h1, h2⟩
  | some k => exact ⟨h1, h2⟩
theorem AW.succ {done : Array Bool} {f : Nat} (h1 : Region.ready md ops done ≠ []) (h2 : ∀ i ∈ Region.ready md ops done, OW r m P ops Q i (AW r m P md ops Q f (done.setIfInBounds i true)) a W) : AW r m P md ops Q (f + 1) done a W := by
  cases r with
  | none => exact ⟨fun h => absurd h h1, h2⟩
  | some k => exact ⟨fun h => absurd h h1, h2⟩
theorem AW.get {done : Array Bool} {f i : Nat} (h : AW r m P md ops Q (f + 1) done a W) (hi : i ∈ Region.ready md ops done) : OW r m P ops Q i (AW r m P md ops Q f (done.setIfInBounds i true)) a W := by
  cases r with
  | none => exact h.2 i hi
  | some k => exact h.2 i hi
theorem OW.val {i : Nat} {K : Act → World → Prop} {W' : World} {v : Value} (hi : ops[i]? = some o) (hw : Region.wanted o (yielded ops a.tmps) = true) (hr : (execOp a.eval o).run P W = .ok (.value v) W') (h : K (a.put o.dst v) W') : OW r m P ops Q i K a W := by
  cases r with
  | none =>
    show wpOp P ops Q i K a W
    unfold wpOp
    simp only [hi, hw, if_true]
    refine .inl ?_
    unfold Oper.wp
    rw [hr]; exact h
  | some k =>
    show wpOpIn (RF k) m P ops Q i K a W
    unfold wpOpIn
    simp only [hi, hw, if_true]
    refine ⟨about_ok k, ?_⟩
    rw [show o.semAt (RF k).round a.eval = execOp a.eval o from Oper.semAt_eq _ a.eval o (not_defer hr (fun d h => by cases h)), hr, Oper.uponIn_value]
    exact h
theorem OW.skip {i : Nat} {K : Act → World → Prop} {W' : World} (hi : ops[i]? = some o) (hw : Region.wanted o (yielded ops a.tmps) = true) (hr : (execOp a.eval o).run P W = .ok .skip W') (h : K (a.put o.dst undef) W') : OW r m P ops Q i K a W := by
  cases r with
  | none =>
    show wpOp P ops Q i K a W
    unfold wpOp
    simp only [hi, hw, if_true]
    refine .inl ?_
    unfold Oper.wp
    rw [hr]; exact h
  | some k =>
    show wpOpIn (RF k) m P ops Q i K a W
    unfold wpOpIn
    simp only [hi, hw, if_true]
    refine ⟨about_ok k, ?_⟩
    rw [show o.semAt (RF k).round a.eval = execOp a.eval o from Oper.semAt_eq _ a.eval o (not_defer hr (fun d h => by cases h)), hr, Oper.uponIn_skip]
    exact h
theorem OW.not {i : Nat} {K : Act → World → Prop} (hi : ops[i]? = some o) (hw : Region.wanted o (yielded ops a.tmps) = false) (h : K (a.put o.dst undef) W) : OW r m P ops Q i K a W := by
  cases r with
  | none =>
    show wpOp P ops Q i K a W
    unfold wpOp
    simp only [hi, hw]
    exact h
  | some k =>
    show wpOpIn (RF k) m P ops Q i K a W
    unfold wpOpIn
    simp only [hi, hw]
    exact ⟨about_ok k, h⟩
theorem OW.call {i : Nat} {K : Act → World → Prop} {f : FuncId} {args : Array Value} (hi : ops[i]? = some o) (hw : Region.wanted o (yielded ops a.tmps) = true) (hr : (execOp a.eval o).run P W = .ok (.enter f args) W)
    (h : Calls P f args W (After fun v w => K (a.put o.dst v) w)) : OW r m P ops Q i K a W := by
  cases r with
  | none =>
    show wpOp P ops Q i K a W
    unfold wpOp
    simp only [hi, hw, if_true]
    refine .inl ?_
    unfold Oper.wp
    rw [hr, Oper.upon_enter]
    refine h.mono ?_
    rintro e w ⟨v, rfl, h⟩
    exact h
  | some k =>
    show wpOpIn (RF k) m P ops Q i K a W
    unfold wpOpIn
    simp only [hi, hw, if_true]
    refine ⟨about_ok k, ?_⟩
    rw [show o.semAt (RF k).round a.eval = execOp a.eval o from Oper.semAt_eq _ a.eval o (not_defer hr (fun d h => by cases h)), hr, Oper.uponIn_enter]
    refine ⟨RF_depth k, (RF_calls k h).mono ?_⟩
    rintro e w ⟨v, rfl, h⟩
    exact h
/-- one value, in all worlds of a class -/
theorem OW.quiet {i : Nat} {K : Act → World → Prop} {C : World → Prop} {v : Value} (hi : ops[i]? = some o) (hy : YieldsIn P ops C o v a) (hC : C W) (h : ∀ w', C w' → K (a.put o.dst v) w') : OW r m P ops Q i K a W := by
  rcases hy with ⟨hw, hq⟩ | ⟨hw, rfl⟩
  · have hq := hq W hC
    unfold Oper.quietAt at hq
    cases hr : (execOp a.eval o).run P W with
    | halt x w' => rw [hr] at hq; exact hq.elim
    | ok x w' =>
      rw [hr] at hq
      cases x with
      | value u =>
        obtain ⟨rfl, rfl⟩ := hq
        exact OW.val hi hw hr (h _ hC)
      | skip =>
        obtain ⟨rfl, rfl⟩ := hq
        exact OW.skip hi hw hr (h _ hC)
      | enter f args =>
        obtain ⟨rfl, hc⟩ := hq
        exact OW.call hi hw hr (hc.mono fun e w'' ⟨he, hw''⟩ => ⟨v, he, h _ hw''⟩)
      | _ => exact hq.elim
  · exact OW.not hi hw (h _ hC)

/-- a tail -/
theorem OW.of_LW {i : Nat} {l : List Oper} (hi : ops[i]? = some o) (h : LW r m P ops Q (o :: l) a W) : OW r m P ops Q i (LW0 r m P ops Q l) a W := by
  have h := h.h
  cases r with
  | none =>
    show wpOp P ops Q i _ a W
    unfold wpOp
    simp only [hi]
    exact h
  | some k =>
    show wpOpIn (RF k) m P ops Q i _ a W
    unfold wpOpIn
    simp only [hi]
    exact h
theorem OW.mono {i : Nat} {K K' : Act → World → Prop} (h : ∀ a w, K a w → K' a w) (hh : OW r m P ops Q i K a W) : OW r m P ops Q i K' a W := by
  cases r with
  | none => exact wpOp_mono h hh
  | some k => exact wpOpIn_mono h hh
theorem AW_seq : ∀ (l : List Oper) (k : Nat) (done : Array Bool) (a : Act) (w : World), (∀ j, l[j]? = ops[k + j]?) → seqB md ops l.length k done = true → LW r m P ops Q l a w → AW r m P md ops Q l.length done a w
  | [], _, _, _, _, _, hB, h => AW.zero (by simpa [seqB] using hB) (by have h := h.h; cases r <;> exact h)
  | o :: l, k, done, a, w, hl, hB, h => by
    have h0 : ops[k]? = some o := by simpa using (hl 0).symm
    simp only [List.length_cons, seqB, Bool.and_eq_true, beq_iff_eq] at hB
    refine AW.succ (by rw [hB.1]; simp) fun i hi => ?_
    rw [hB.1] at hi
    obtain rfl : i = k := by simpa using hi
    exact (OW.of_LW h0 h).mono fun a w h => AW_seq l (i + 1) _ a w (fun j => by have := hl (j + 1); simpa [Nat.add_assoc, Nat.add_comm 1 j] using this) hB.2 ⟨h⟩

/-- What is known of the makers: those that have been at work have their values and blocks. -/
inductive Made : List Mk → List (List Value) → List (Option Value) → List (List Blk) → Prop
  | nil : Made [] [] [] []
  | no {k ms z V vs Ns} (h : Made ms V vs Ns) : Made (k :: ms) (z :: V) (Option.none :: vs) ([] :: Ns)
  | yes {k ms z V v vs Bs Ns} (hx : k.X z v Bs) (h : Made ms V vs Ns) : Made (k :: ms) (z :: V) (Option.some v :: vs) (Bs :: Ns)

theorem flatten_set_perm {α : Type} : ∀ (Ns : List (List α)) (q : Nat) (Bs : List α), Ns[q]? = some [] → (Ns.flatten ++ Bs).Perm ((Ns.set q Bs).flatten)
  | [], _, _, h => by simp at h
  | N :: Ns, 0, Bs, h => by
    simp at h
    subst h
    simp only [List.set_cons_zero, List.flatten_cons, List.nil_append]
    exact List.perm_append_comm
  | N :: Ns, q + 1, Bs, h => by
    simp only [List.set_cons_succ, List.flatten_cons, List.append_assoc]
    exact (flatten_set_perm Ns q Bs (by simpa using h)).append_left N
theorem Made.put {k : Mk} {z : List Value} {v : Value} {Bs : List Blk} : ∀ {ms : List Mk} {V : List (List Value)} {vs : List (Option Value)} {Ns : List (List Blk)} (q : Nat), Made ms V vs Ns → ms[q]? = some k → V[q]? = some z → vs[q]? = some none → k.X z v Bs → Ns[q]? = some [] ∧ Made ms V (vs.set q (some v)) (Ns.set q Bs)
  | _, _, _, _, 0, h, hk, hz, hv, hx => by
    cases h with
    | nil => simp at hk
    | no h =>
      simp at hk hz
      subst hk; subst hz
      exact ⟨rfl, .yes hx h⟩
    | yes hx h => simp at hv
  | _, _, _, _, q + 1, h, hk, hz, hv, hx => by
    cases h with
    | nil => simp at hk
    | no h =>
      have ih := Made.put q h (by simpa using hk) (by simpa using hz) (by simpa using hv) hx
      exact ⟨by simpa using ih.1, .no ih.2⟩
    | yes hx' h =>
      have ih := Made.put q h (by simpa using hk) (by simpa using hz) (by simpa using hv) hx
      exact ⟨by simpa using ih.1, .yes hx' ih.2⟩
theorem Made.get {k : Mk} {v : Value} : ∀ {ms : List Mk} {V : List (List Value)} {vs : List (Option Value)} {Ns : List (List Blk)} (q : Nat), Made ms V vs Ns → ms[q]? = some k → vs[q]? = some (some v) →
    ∃ z Bs, k.X z v Bs ∧ Ns[q]? = some Bs ∧ Ns.flatten.Perm ((Ns.set q []).flatten ++ Bs) ∧ ∀ z' Bs', k.X z' v Bs' → Made ms (V.set q z') vs (Ns.set q Bs') ∧ ((Ns.set q []).flatten ++ Bs').Perm ((Ns.set q Bs').flatten)
  | _, _, _, _, 0, h, hk, hv => by
    cases h with
    | nil => simp at hk
    | no h => simp at hv
    | yes hx h =>
      simp at hk hv
      subst hk; subst hv
      refine ⟨_, _, hx, rfl, by simpa using List.perm_append_comm, fun z' Bs' hx' => ⟨.yes hx' h, by simpa using List.perm_append_comm⟩⟩
  | _, _, _, _, q + 1, h, hk, hv => by
    cases h with
    | nil => simp at hk
    | no h =>
      obtain ⟨z, Bs, h1, h2, h3, h4⟩ := Made.get q h (by simpa using hk) (by simpa using hv)
      refine ⟨z, Bs, h1, by simpa using h2, by simpa using h3, fun z' Bs' hx' => ⟨.no (h4 z' Bs' hx').1, by simpa using (h4 z' Bs' hx').2⟩⟩
    | yes hx h =>
      obtain ⟨z, Bs, h1, h2, h3, h4⟩ := Made.get q h (by simpa using hk) (by simpa using hv)
      refine ⟨z, Bs, h1, by simpa using h2, ?_, fun z' Bs' hx' => ⟨.yes hx (h4 z' Bs' hx').1, ?_⟩⟩
      · simp only [List.set_cons_succ, List.flatten_cons, List.append_assoc]
        exact h3.append_left _
      · simp only [List.set_cons_succ, List.flatten_cons, List.append_assoc]
        exact ((h4 z' Bs' hx').2).append_left _
theorem Made.read {k : Mk} {z : List Value} {v : Value} : ∀ {ms : List Mk} {V : List (List Value)} {vs : List (Option Value)} {Ns : List (List Blk)} (q : Nat), Made ms V vs Ns → ms[q]? = some k → V[q]? = some z → vs[q]? = some (some v) →
    ∃ Bs, k.X z v Bs ∧ Ns.flatten.Perm ((Ns.set q []).flatten ++ Bs)
  | _, _, _, _, 0, h, hk, hz, hv => by
    cases h with
    | nil => simp at hk
    | no h => simp at hv
    | yes hx h =>
      simp at hk hv hz
      subst hk; subst hv; subst hz
      exact ⟨_, hx, by simpa using List.perm_append_comm⟩
  | _, _, _, _, q + 1, h, hk, hz, hv => by
    cases h with
    | nil => simp at hk
    | no h =>
      obtain ⟨Bs, h1, h3⟩ := Made.read q h (by simpa using hk) (by simpa using hz) (by simpa using hv)
      exact ⟨Bs, h1, by simpa using h3⟩
    | yes hx h =>
      obtain ⟨Bs, h1, h3⟩ := Made.read q h (by simpa using hk) (by simpa using hz) (by simpa using hv)
      refine ⟨Bs, h1, ?_⟩
      simp only [List.set_cons_succ, List.flatten_cons, List.append_assoc]
      exact h3.append_left _
theorem mk_apart {ms : List Mk} (h : ms.Pairwise (fun x y => x.d ≠ y.d)) {p q : Nat} {x y : Mk} (hp : ms[p]? = some x) (hq : ms[q]? = some y) (hne : p ≠ q) : x.d ≠ y.d := by
  obtain ⟨hpl, rfl⟩ := List.getElem?_eq_some_iff.1 hp
  obtain ⟨hql, rfl⟩ := List.getElem?_eq_some_iff.1 hq
  rcases Nat.lt_or_gt_of_ne hne with h1 | h1
  · exact List.pairwise_iff_getElem.1 h p q hpl hql h1
  · exact fun e => List.pairwise_iff_getElem.1 h q p hql hpl h1 e.symm
theorem yields_iff {C C' : World → Prop} {v : Value} {a : Act} (h : ∀ w, C w ↔ C' w) (hy : YieldsIn P ops C' o v a) : YieldsIn P ops C o v a := by
  obtain rfl : C = C' := funext fun w => propext (h w)
  exact hy
theorem Made.len : ∀ {ms : List Mk} {V : List (List Value)} {vs : List (Option Value)} {Ns : List (List Blk)}, Made ms V vs Ns → vs.length = ms.length
  | _, _, _, _, .nil => rfl
  | _, _, _, _, .no h => by simp [h.len]
  | _, _, _, _, .yes _ h => by simp [h.len]

/-! ### what a region must be like -/
def Kd.isMk : Kd → Nat → Bool
  | .mk i, j => i == j
  | _, _ => false
/-- one operation, by its kind: D: where the makers' values go; ix: the makers' places -/
def opB (md : Region.Mode) (ops : Array Oper) (D ix : List Nat) (n : Nat) (o : Oper) : Kd → Bool
  | .mk i => (ix[i]? == some n) && o.guard.isNone && (match D[i]? with | some d => o.dst == some d | none => false) && (o.looksAt ops).all (fun t => !D.contains t)
  | .st i => o.guard.isNone && o.dst.isNone && (match o.op with
      | .store _ (.tmp d) y => D[i]? == some d && (match y with | .tmp t => !D.contains t | _ => true)
      | _ => false) && (match ix[i]? with | some j => o.after.any (fun e => Region.binds md e && e.on == j) | none => false)
  | .rd i => (o.looksAt ops).all (fun t => !D.contains t || D[i]? == some t) && D.all (fun d => o.dst != some d) && (match ix[i]? with | some j => o.after.any (fun e => Region.binds md e && e.on == j) | none => false)
  | .tail => true
  | _ => (o.looksAt ops).all (fun t => !D.contains t) && D.all (fun d => o.dst != some d)
def allB (md : Region.Mode) (ops : Array Oper) (D ix : List Nat) (kd : Nat → Kd) : Bool :=
  ((List.range ops.size).all fun i => match ops[i]? with | some o => opB md ops D ix i o (kd i) | none => true) && ((List.range ix.length).all fun q => match ix[q]? with | some i => (kd i).isMk q | none => true) && (ix.length == D.length) && D.Pairwise (· ≠ ·)
theorem not_contains {D : List Nat} {t : Nat} (h : (!D.contains t) = true) {d : Nat} (hd : d ∈ D) : d ≠ t := by
  rintro rfl
  simp at h
  exact h hd
structure AllB (md : Region.Mode) (ops : Array Oper) (ms : List Mk) (ix : List Nat) (kd : Nat → Kd) : Prop where
  op : ∀ i o, ops[i]? = some o → opB md ops (ms.map Mk.d) ix i o (kd i) = true
  at_ : ∀ q i, ix[q]? = some i → kd i = .mk q
  len : ix.length = ms.length
  ds : ms.Pairwise (fun x y => x.d ≠ y.d)
theorem allB_spec {ix : List Nat} {kd : Nat → Kd} (h : allB md ops (ms.map Mk.d) ix kd = true) : AllB md ops ms ix kd := by
  simp only [allB, Bool.and_eq_true, List.all_eq_true, List.mem_range, beq_iff_eq, decide_eq_true_eq] at h
  obtain ⟨⟨⟨h1, h2⟩, h3⟩, h4⟩ := h
  refine ⟨fun i o ho => ?_, fun q i hq => ?_, by simpa using h3, by rw [List.pairwise_map] at h4; exact h4⟩
  · have := h1 i (Array.getElem?_eq_some_iff.1 ho).1
    rw [ho] at this; exact this
  · have := h2 q (List.getElem?_eq_some_iff.1 hq).1
    rw [hq] at this
    simp only at this
    cases hk : kd i with
    | mk j => rw [hk] at this; simp [Kd.isMk] at this; rw [this]
    | _ => rw [hk] at this; simp [Kd.isMk] at this

theorem looks_none {o : Oper} (h : (o.looksAt ops).all (fun t => !(ms.map Mk.d).contains t) = true) : ∀ m ∈ ms, m.d ∉ o.looksAt ops := fun m hm hd => by
  have := List.all_eq_true.1 h m.d hd
  exact not_contains this (List.mem_map.2 ⟨m, hm, rfl⟩) rfl
theorem dst_none {o : Oper} (h : (ms.map Mk.d).all (fun d => o.dst != some d) = true) : ∀ m ∈ ms, o.dst ≠ some m.d := fun m hm e => by
  have := List.all_eq_true.1 h m.d (List.mem_map.2 ⟨m, hm, rfl⟩)
  simp [e] at this

theorem getD_false_lt {done : Array Bool} {i : Nat} (h : done.getD i true = false) : i < done.size := by
  rcases Nat.lt_or_ge i done.size with h' | h'
  · exact h'
  · simp [Array.getElem?_eq_none h'] at h
theorem getD_false_both {done : Array Bool} {i : Nat} (h : done.getD i true = false) : done.getD i false = false := by
  have := getD_false_lt h
  simp [this] at h ⊢; exact h
theorem getD_set_self {done : Array Bool} {i : Nat} (h : i < done.size) : (done.setIfInBounds i true).getD i false = true := by simp [h]

/-- Whatever order: the makers' values and blocks beside what is known anyway. -/
theorem anyC_any {N : Nat} {kd : Nat → Kd} {ix : List Nat} {R : Act → St → Prop} {U : Nat → Array Bool → Act → St → Prop} (hA : AllB md ops ms ix kd)
    (hsel : ∀ (j : Nat) (o : Oper) cs b, ops[j]? = some o → o.op ≠ .select cs b)
    (hR : ∀ a s vs Ns w, Made ms s.2 vs Ns → (∀ v ∈ vs, v.isSome = true) → Cl w0 (s.1 ++ Ns.flatten) w → R a s → Q .normal (puts a ms vs) w)
    (hT : ∀ f done a s vs Ns w, Made ms s.2 vs Ns → (∀ v ∈ vs, v.isSome = true) → Cl w0 (s.1 ++ Ns.flatten) w → a.tmps.size = N → U f done a s → AW r m P md ops Q f done (puts a ms vs) w) (f : Nat) :
    ∀ (done : Array Bool) (a : Act) (s : St) (vs : List (Option Value)) (Ns : List (List Blk)) (w : World), Made ms s.2 vs Ns → (∀ (q i : Nat), ix[q]? = some i → ((∃ v, vs[q]? = some (some v)) ↔ done.getD i false = true)) → (∀ m ∈ ms, m.d < a.tmps.size) → a.tmps.size = N →
      Cl w0 (s.1 ++ Ns.flatten) w → anyC P md ops w0 S ms kd ix R U f done a s → AW r m P md ops Q f done (puts a ms vs) w := by
  have full : ∀ {done : Array Bool} {vs : List (Option Value)}, vs.length = ms.length → (∀ (q i : Nat), ix[q]? = some i → ((∃ v, vs[q]? = some (some v)) ↔ done.getD i false = true)) → madeB ix done = true → ∀ v ∈ vs, v.isSome = true := by
    intro done vs hl hrel hm v hv
    obtain ⟨q, hq⟩ := List.getElem?_of_mem hv
    have hlt := (List.getElem?_eq_some_iff.1 hq).1
    have hq2 : ix[q]? = some (ix[q]'(by rw [hA.len]; omega)) := List.getElem?_eq_getElem _
    have hd : done.getD (ix[q]'(by rw [hA.len]; omega)) false = true := List.all_eq_true.1 hm _ (List.getElem_mem _)
    obtain ⟨u, hu⟩ := (hrel q _ hq2).2 hd
    rw [hq] at hu
    injection hu with hu
    rw [hu]; rfl
  induction f with
  | zero =>
    intro done a s vs Ns w hM hrel hsz hN hC h
    exact AW.zero h.1 (hR a s vs Ns w hM (full hM.len hrel h.2.1) hC h.2.2)
  | succ f ih =>
    intro done a s vs Ns w hM hrel hsz hN hC h
    rcases h.2 with ⟨_, hmade, hU⟩ | h2
    · exact hT _ done a s vs Ns w hM (full hM.len hrel hmade) hC hN hU
    refine AW.succ h.1 fun i hi => ?_
    obtain ⟨oi, ho, hk⟩ := h2 i hi
    have hop := hA.op i oi ho
    have hun := (mem_ready.1 hi).1
    -- an operation that is no maker leaves the account of the makers as it is
    have hrel' : (∀ q, kd i ≠ .mk q) → ∀ (q j : Nat), ix[q]? = some j → ((∃ v, vs[q]? = some (some v)) ↔ (done.setIfInBounds i true).getD j false = true) := fun hno q j hq => by
      have hne : i ≠ j := fun e => hno q (by rw [e]; exact hA.at_ q j hq)
      rw [getD_set_ne false hne]; exact hrel q j hq
    have hsz' : ∀ d v, ∀ m ∈ ms, m.d < (a.put d v).tmps.size := fun d v m hm => by rw [put_size]; exact hsz m hm
    cases hkd : kd i with
    | q =>
      rw [hkd] at hk hop
      obtain ⟨v, s', ⟨hy, rfl⟩, hn⟩ := hk
      simp only [opB, Bool.and_eq_true] at hop
      refine OW.quiet ho ((hy _ (Sim.more S s'.1 Ns.flatten)).of_same (puts_exec (hsel i oi · · ho) ms vs a (looks_none hop.1)) (puts_wanted ms vs a (looks_none hop.1))) hC fun w' hw' => ?_
      rw [puts_put ms vs a (dst_none hop.2)]
      exact ih _ _ s' vs Ns w' hM (hrel' fun q e => by rw [hkd] at e; cases e) (hsz' _ _) (by rw [put_size]; exact hN) hw' hn
    | r =>
      rw [hkd] at hk hop
      obtain ⟨v, s', ⟨hy, rfl⟩, hn⟩ := hk
      simp only [opB, Bool.and_eq_true] at hop
      refine OW.quiet ho ((hy Ns.flatten).of_same (puts_exec (hsel i oi · · ho) ms vs a (looks_none hop.1)) (puts_wanted ms vs a (looks_none hop.1))) hC fun w' hw' => ?_
      rw [puts_put ms vs a (dst_none hop.2)]
      exact ih _ _ s' vs Ns w' hM (hrel' fun q e => by rw [hkd] at e; cases e) (hsz' _ _) (by rw [put_size]; exact hN) hw' hn
    | s =>
      rw [hkd] at hk hop
      obtain ⟨v, s', ⟨rfl, hwt, hst, _, _, hV⟩, hn⟩ := hk
      simp only [opB, Bool.and_eq_true] at hop
      obtain ⟨w', hrun, hw'⟩ := hst Ns.flatten w hC
      refine OW.skip ho (by rw [puts_wanted ms vs a (looks_none hop.1)]; exact hwt) (by rw [puts_exec (hsel i oi · · ho) ms vs a (looks_none hop.1)]; exact hrun) ?_
      rw [puts_put ms vs a (dst_none hop.2)]
      exact ih _ _ s' vs Ns w' (by rw [hV]; exact hM) (hrel' fun q e => by rw [hkd] at e; cases e) (hsz' _ _) (by rw [put_size]; exact hN) hw' hn
    | mk q =>
      rw [hkd] at hk hop
      obtain ⟨v, s', ⟨rfl, rfl, k, z, hms, hz, hmake⟩, hn⟩ := hk
      simp only [opB, Bool.and_eq_true, List.getElem?_map, hms, Option.map_some, Option.isNone_iff_eq_none, beq_iff_eq] at hop
      obtain ⟨⟨⟨hixq, hg⟩, hdst⟩, hlook⟩ := hop
      have hwt : Region.wanted oi (yielded ops (puts a ms vs).tmps) = true := by simp [Region.wanted, hg]
      have hq : q < ms.length := (List.getElem?_eq_some_iff.1 hms).1
      have hvq : vs[q]? = some none := by
        have hlt : q < vs.length := by rw [hM.len]; exact hq
        cases hv : vs[q]? with
        | none => rw [List.getElem?_eq_none_iff] at hv; omega
        | some x =>
          cases x with
          | none => rfl
          | some u =>
            have := (hrel q i hixq).1 ⟨u, hv⟩
            rw [getD_false_both hun] at this; cases this
      have fin : ∀ v Bs w', k.X z v Bs → Cl w0 ((s'.1 ++ Ns.flatten) ++ Bs) w' → AW r m P md ops Q f (done.setIfInBounds i true) ((puts a ms vs).put oi.dst v) w' := fun v Bs w' hx hc => by
        obtain ⟨hNq, hM'⟩ := hM.put q hms hz hvq hx
        rw [hdst, ← puts_set ms vs a q hA.ds hms hvq]
        refine ih _ _ s' _ _ w' hM' (fun q' j hq' => ?_) hsz hN (hc.perm ?_) hn
        · by_cases e : q' = q
          · subst e
            obtain rfl : j = i := by rw [hixq] at hq'; injection hq' with hq'; exact hq'.symm
            rw [getD_set_self (getD_false_lt hun), List.getElem?_set_self (by rw [hM.len]; exact hq)]
            simp
          · have hne : i ≠ j := fun e' => e (by have := hA.at_ q' j hq'; rw [← e', hkd] at this; injection this with this; exact this.symm)
            rw [getD_set_ne false hne, List.getElem?_set_ne (Ne.symm e)]
            exact hrel q' j hq'
        · rw [List.append_assoc]
          exact (flatten_set_perm Ns q Bs hNq).append_left _
      have hexec := puts_exec (hsel i oi · · ho) ms vs a (looks_none hlook)
      rcases hmake _ (Sim.more S s'.1 Ns.flatten) w hC with ⟨v, Bs, w', hrun, hx, hc⟩ | ⟨g, args, hrun, hcall⟩
      · exact OW.val ho hwt (by rw [hexec]; exact hrun) (fin v Bs w' hx hc)
      · exact OW.call ho hwt (by rw [hexec]; exact hrun) (hcall.mono fun e w' ⟨v, he, Bs, hx, hc⟩ => ⟨v, he, fin v Bs w' hx hc⟩)
    | st q =>
      rw [hkd] at hk hop
      obtain ⟨v, s', ⟨rfl, k, cs, hms, ⟨t, y, hop', hst⟩, rfl⟩, hn⟩ := hk
      simp only [opB, Bool.and_eq_true, hop', Option.isNone_iff_eq_none] at hop
      obtain ⟨⟨⟨hg, hdst⟩, hDq, hy⟩, hwait⟩ := hop
      have hwt : Region.wanted oi (yielded ops (puts a ms vs).tmps) = true := by simp [Region.wanted, hg]
      obtain ⟨j, hj, hjd⟩ : ∃ j, ix[q]? = some j ∧ done.getD j false = true := by
        cases hix : ix[q]? with
        | none => rw [hix] at hwait; cases hwait
        | some j =>
          rw [hix] at hwait
          obtain ⟨e, he, hb⟩ := Array.any_eq_true'.1 hwait
          simp only [Bool.and_eq_true, beq_iff_eq] at hb
          obtain ⟨_, oi', ho', hall⟩ := mem_ready.1 hi
          obtain rfl : oi' = oi := Option.some.inj (ho'.symm.trans ho)
          exact ⟨j, rfl, by rw [← hb.2]; exact hall e he hb.1⟩
      obtain ⟨u, hu⟩ := (hrel q j hj).2 hjd
      obtain ⟨z, Bs, hx, hNq, hp, h4⟩ := hM.get q hms hu
      have hye : (puts a ms vs).eval y = a.eval y := puts_eval ms vs a fun x hx e => by
        subst e
        exact not_contains hy (List.mem_map.2 ⟨x, hx, rfl⟩) rfl
      obtain ⟨w', Bs', hrun, hx', hc'⟩ := hst (puts a ms vs).eval u z Bs (s.1 ++ (Ns.set q []).flatten) w (puts_get ms vs a q hA.ds hms hu (hsz k (List.mem_of_getElem? hms))) hye hx
        (hC.perm (by rw [List.append_assoc]; exact hp.append_left _))
      refine OW.skip ho hwt hrun ?_
      rw [hdst]
      refine ih _ _ _ vs _ w' (h4 cs Bs' hx').1 (hrel' fun q e => by rw [hkd] at e; cases e) hsz hN (hc'.perm ?_) (by rw [hdst] at hn; exact hn)
      rw [List.append_assoc]
      exact ((h4 cs Bs' hx').2).append_left _
    | rd q =>
      rw [hkd] at hk hop
      obtain ⟨v, s', ⟨rfl, k, z, hms, hz, hread⟩, hn⟩ := hk
      simp only [opB, Bool.and_eq_true] at hop
      obtain ⟨⟨hlook, hdst⟩, hwait⟩ := hop
      obtain ⟨j, hj, hjd⟩ : ∃ j, ix[q]? = some j ∧ done.getD j false = true := by
        cases hix : ix[q]? with
        | none => rw [hix] at hwait; cases hwait
        | some j =>
          rw [hix] at hwait
          obtain ⟨e, he, hb⟩ := Array.any_eq_true'.1 hwait
          simp only [Bool.and_eq_true, beq_iff_eq] at hb
          obtain ⟨_, oi', ho', hall⟩ := mem_ready.1 hi
          obtain rfl : oi' = oi := Option.some.inj (ho'.symm.trans ho)
          exact ⟨j, rfl, by rw [← hb.2]; exact hall e he hb.1⟩
      obtain ⟨u, hu⟩ := (hrel q j hj).2 hjd
      obtain ⟨Bs, hx, hp⟩ := hM.read q hms hz hu
      have hoth : ∀ m ∈ ms.eraseIdx q, m.d ∉ oi.looksAt ops := fun m hm hd => by
        obtain ⟨i', hi', hm'⟩ := List.mem_eraseIdx_iff_getElem?.1 hm
        have h1 := List.all_eq_true.1 hlook m.d hd
        simp only [Bool.or_eq_true, beq_iff_eq, List.getElem?_map, hms, Option.map_some, Option.some.injEq] at h1
        rcases h1 with h1 | h1
        · exact not_contains h1 (List.mem_map.2 ⟨m, List.mem_of_getElem? hm', rfl⟩) rfl
        · exact mk_apart hA.ds hm' hms hi' h1.symm
      have hy := hread u Bs (s'.1 ++ (Ns.set q []).flatten) (Sim.more S s'.1 _) hx
      refine OW.quiet (v := v) (C := Cl w0 (s'.1 ++ Ns.flatten)) ho ?_ hC fun w' hw' => ?_
      · rw [puts_first ms vs a q hA.ds hms hu]
        refine yields_iff ?_ (hy.of_same (puts_exec (hsel i oi · · ho) _ _ _ hoth) (puts_wanted _ _ _ hoth))
        intro w
        have hp' : (s'.1 ++ Ns.flatten).Perm (s'.1 ++ (Ns.set q []).flatten ++ Bs) := by rw [List.append_assoc]; exact hp.append_left _
        exact ⟨fun h => h.perm hp', fun h => h.perm hp'.symm⟩
      · rw [puts_put ms vs a (dst_none hdst)]
        exact ih _ _ s' vs Ns w' hM (hrel' fun q e => by rw [hkd] at e; cases e) (hsz' _ _) (by rw [put_size]; exact hN) hw' hn
    | tail =>
      rw [hkd] at hk
      obtain ⟨v, s', h0, _⟩ := hk
      exact h0.elim

/-! ### operations that may change places -/
theorem execs_put {x : Oper} {u : Value} (hs : ∀ cs b, o.op ≠ .select cs b) (hl : ∀ d, x.dst = some d → d ∉ o.looksAt ops) : execOp (a.put x.dst u).eval o = execOp a.eval o := execOp_put o hs a x.dst u hl
theorem StepK.eq {k : Kd} {s s' : St} {x : Oper} {u v : Value} (hs : ∀ cs b, o.op ≠ .select cs b) (hl : ∀ d, x.dst = some d → d ∉ o.looksAt ops) : StepK P ops w0 S ms k o (a.put x.dst u) s v s' ↔ StepK P ops w0 S ms k o a s v s' := by
  have e1 : execOp (a.put x.dst u).eval o = execOp a.eval o := execs_put hs hl
  have e2 : Region.wanted o (yielded ops (a.put x.dst u).tmps) = Region.wanted o (yielded ops a.tmps) := wanted_put o a x.dst u hl
  have e3 : ∀ C : World → Prop, YieldsIn P ops C o v (a.put x.dst u) ↔ YieldsIn P ops C o v a := fun C => by
    unfold YieldsIn Oper.quietAt
    rw [e1, e2]
  cases k with
  | q => simp only [StepK, e3]
  | r => simp only [StepK, e3]
  | s => simp only [StepK, e1, e2]
  | mk i => simp only [StepK, MakesIn, e1]
  | st i =>
    have e4 : ∀ k vs, StoresM P o (a.put x.dst u) w0 k vs ↔ StoresM P o a w0 k vs := fun k vs => by
      have key : ∀ t y, o.op = .store t (.tmp k.d) y → (a.put x.dst u).eval y = a.eval y := fun t y ho => Act.eval_put fun d hd e => by
        subst e
        exact hl d hd (List.mem_append_left _ (List.mem_filterMap.2 ⟨.tmp d, by rw [ho]; simp [Op.operands], rfl⟩))
      constructor
      · rintro ⟨t, y, ho, h⟩
        exact ⟨t, y, ho, by rw [key t y ho] at h; exact h⟩
      · rintro ⟨t, y, ho, h⟩
        exact ⟨t, y, ho, by rw [key t y ho]; exact h⟩
    simp only [StepK, e4]
  | rd i =>
    have e5 : ∀ k z, ReadsM P ops o (a.put x.dst u) w0 S s.1 k z v ↔ ReadsM P ops o a w0 S s.1 k z v := fun k z => by
      have key : ∀ y C, YieldsIn P ops C o v ((a.put x.dst u).put (some k.d) y) ↔ YieldsIn P ops C o v (a.put (some k.d) y) := fun y C => by
        by_cases hd : x.dst = some k.d
        · rw [hd, put_put]
        · rw [Act.put_comm a u y fun d h1 h2 => hd (h1.trans h2.symm)]
          unfold YieldsIn Oper.quietAt
          rw [execs_put hs hl, wanted_put o _ x.dst u hl]
      unfold ReadsM
      simp only [key]
    simp only [StepK, e5]
  | tail => simp only [StepK]
theorem StepK.eqK {j k : Kd} {s s' : St} {x : Oper} {u v : Value} (hs : ∀ cs b, o.op ≠ .select cs b) (hl : ∀ d, x.dst = some d → d ∉ o.looksAt ops) : StepK P ops w0 S ms k o (putK j a x.dst u) s v s' ↔ StepK P ops w0 S ms k o a s v s' := by
  cases j with
  | mk i => exact Iff.rfl
  | _ => exact StepK.eq hs hl
theorem putK_comm {j k : Kd} {x y : Option Tmp} (v u : Value) (h : ∀ d, x = some d → y ≠ some d) : putK k (putK j a x v) y u = putK j (putK k a y u) x v := by
  cases j <;> cases k <;> first | rfl | exact Act.put_comm a v u h

/-- two steps that may change places -/
theorem StepK.swap {k m : Kd} {oi oj : Oper} {v u : Value} {s s1 s2 : St} (hm : mayB k m = true) (hi : StepK P ops w0 S ms k oi a s v s1) (hj : StepK P ops w0 S ms m oj a s1 u s2) :
    ∃ s3, StepK P ops w0 S ms m oj a s u s3 ∧ StepK P ops w0 S ms k oi a s3 v s2 := by
  obtain ⟨L, V⟩ := s
  cases k with
  | tail => exact hi.elim
  | q =>
    obtain ⟨h1, rfl⟩ := hi
    cases m with
    | tail => exact hj.elim
    | q => obtain ⟨h2, rfl⟩ := hj; exact ⟨_, ⟨h2, rfl⟩, h1, rfl⟩
    | r => obtain ⟨h2, rfl⟩ := hj; exact ⟨_, ⟨h2, rfl⟩, h1, rfl⟩
    | mk j => obtain ⟨h2, rfl, h3⟩ := hj; exact ⟨_, ⟨h2, rfl, h3⟩, h1, rfl⟩
    | s => obtain ⟨e, h2, h3, h4, h5, h6⟩ := hj; exact ⟨s2, ⟨e, h2, h3, h4, h5, h6⟩, fun L2 hL => h1 L2 (h4.trans hL), rfl⟩
    | st j => obtain ⟨e, k', vs, h2, h3, rfl⟩ := hj; exact ⟨_, ⟨e, k', vs, h2, h3, rfl⟩, h1, rfl⟩
    | rd j => obtain ⟨rfl, h2⟩ := hj; exact ⟨_, ⟨rfl, h2⟩, h1, rfl⟩
  | r =>
    obtain ⟨h1, rfl⟩ := hi
    cases m with
    | tail => exact hj.elim
    | q => obtain ⟨h2, rfl⟩ := hj; exact ⟨_, ⟨h2, rfl⟩, h1, rfl⟩
    | r => obtain ⟨h2, rfl⟩ := hj; exact ⟨_, ⟨h2, rfl⟩, h1, rfl⟩
    | mk j => obtain ⟨h2, rfl, h3⟩ := hj; exact ⟨_, ⟨h2, rfl, h3⟩, h1, rfl⟩
    | s => cases hm
    | st j => obtain ⟨e, k', vs, h2, h3, rfl⟩ := hj; exact ⟨_, ⟨e, k', vs, h2, h3, rfl⟩, h1, rfl⟩
    | rd j => obtain ⟨rfl, h2⟩ := hj; exact ⟨_, ⟨rfl, h2⟩, h1, rfl⟩
  | s =>
    obtain ⟨e0, g1, g2, g3, g4, g5⟩ := hi
    cases m with
    | tail => exact hj.elim
    | q => obtain ⟨h2, rfl⟩ := hj; exact ⟨(L, V), ⟨fun L2 hL => h2 L2 (g4.trans hL), rfl⟩, e0, g1, g2, g3, g4, g5⟩
    | r => cases hm
    | s => cases hm
    | mk j =>
      obtain ⟨h2, rfl, k', z, h3, h4, h5⟩ := hj
      exact ⟨(L, V), ⟨h2, rfl, k', z, h3, by rw [← g5]; exact h4, fun L2 hL => h5 L2 (g4.trans hL)⟩, e0, g1, g2, g3, g4, g5⟩
    | st j =>
      obtain ⟨e, k', vs, h2, h3, rfl⟩ := hj
      exact ⟨(L, V.set j vs), ⟨e, k', vs, h2, h3, rfl⟩, e0, g1, g2, g3, g4, by show s1.2.set j vs = V.set j vs; rw [g5]⟩
    | rd j =>
      obtain ⟨rfl, k', z, h3, h4, h5⟩ := hj
      exact ⟨(L, V), ⟨rfl, k', z, h3, by rw [← g5]; exact h4, fun y Bs L2 hL hX => h5 y Bs L2 (g4.trans hL) hX⟩, e0, g1, g2, g3, g4, g5⟩
  | mk i =>
    obtain ⟨h1, rfl, k1, z1, h2, h3, h4⟩ := hi
    cases m with
    | tail => exact hj.elim
    | q => obtain ⟨g2, rfl⟩ := hj; exact ⟨_, ⟨g2, rfl⟩, h1, rfl, k1, z1, h2, h3, h4⟩
    | r => obtain ⟨g2, rfl⟩ := hj; exact ⟨_, ⟨g2, rfl⟩, h1, rfl, k1, z1, h2, h3, h4⟩
    | mk j => obtain ⟨g2, rfl, g3⟩ := hj; exact ⟨_, ⟨g2, rfl, g3⟩, h1, rfl, k1, z1, h2, h3, h4⟩
    | s =>
      obtain ⟨e, g2, g3, g4, g5, g6⟩ := hj
      exact ⟨s2, ⟨e, g2, g3, g4, g5, g6⟩, h1, rfl, k1, z1, h2, by rw [g6]; exact h3, fun L2 hL => h4 L2 (g4.trans hL)⟩
    | st j =>
      obtain ⟨e, k', vs, g2, g3, rfl⟩ := hj
      have hne : j ≠ i := by rintro rfl; simp [mayB] at hm
      exact ⟨_, ⟨e, k', vs, g2, g3, rfl⟩, h1, rfl, k1, z1, h2, by show (V.set j vs)[i]? = _; rw [List.getElem?_set_ne hne]; exact h3, h4⟩
    | rd j => obtain ⟨rfl, g2⟩ := hj; exact ⟨_, ⟨rfl, g2⟩, h1, rfl, k1, z1, h2, h3, h4⟩
  | rd i =>
    obtain ⟨rfl, k1, z1, h2, h3, h4⟩ := hi
    cases m with
    | tail => exact hj.elim
    | q => obtain ⟨g2, rfl⟩ := hj; exact ⟨_, ⟨g2, rfl⟩, rfl, k1, z1, h2, h3, h4⟩
    | r => obtain ⟨g2, rfl⟩ := hj; exact ⟨_, ⟨g2, rfl⟩, rfl, k1, z1, h2, h3, h4⟩
    | mk j => obtain ⟨g2, rfl, g3⟩ := hj; exact ⟨_, ⟨g2, rfl, g3⟩, rfl, k1, z1, h2, h3, h4⟩
    | rd j => obtain ⟨rfl, g2⟩ := hj; exact ⟨_, ⟨rfl, g2⟩, rfl, k1, z1, h2, h3, h4⟩
    | s =>
      obtain ⟨e, g2, g3, g4, g5, g6⟩ := hj
      exact ⟨s2, ⟨e, g2, g3, g4, g5, g6⟩, rfl, k1, z1, h2, by rw [g6]; exact h3, fun y Bs L2 hL hX => h4 y Bs L2 (g4.trans hL) hX⟩
    | st j =>
      obtain ⟨e, k', vs, g2, g3, rfl⟩ := hj
      have hne : j ≠ i := by rintro rfl; simp [mayB] at hm
      exact ⟨_, ⟨e, k', vs, g2, g3, rfl⟩, rfl, k1, z1, h2, by rw [List.getElem?_set_ne hne]; exact h3, h4⟩
  | st i =>
    obtain ⟨h1, k1, vs1, h2, h3, rfl⟩ := hi
    cases m with
    | tail => exact hj.elim
    | q => obtain ⟨g2, rfl⟩ := hj; exact ⟨(L, V), ⟨g2, rfl⟩, h1, k1, vs1, h2, h3, rfl⟩
    | r => obtain ⟨g2, rfl⟩ := hj; exact ⟨(L, V), ⟨g2, rfl⟩, h1, k1, vs1, h2, h3, rfl⟩
    | mk j =>
      obtain ⟨g2, rfl, k', z, g3, g4, g5⟩ := hj
      have hne : i ≠ j := by rintro rfl; simp [mayB] at hm
      exact ⟨(L, V), ⟨g2, rfl, k', z, g3, by rw [← g4]; show V[j]? = (V.set i vs1)[j]?; rw [List.getElem?_set_ne hne], g5⟩, h1, k1, vs1, h2, h3, rfl⟩
    | s =>
      obtain ⟨e, g2, g3, g4, g5, g6⟩ := hj
      refine ⟨(s2.1, V), ⟨e, g2, g3, g4, g5, rfl⟩, h1, k1, vs1, h2, h3, ?_⟩
      have : s2.2 = V.set i vs1 := g6
      rw [← this]
    | st j =>
      obtain ⟨e, k', vs, g2, g3, rfl⟩ := hj
      have hne : i ≠ j := by rintro rfl; simp [mayB] at hm
      exact ⟨(L, V.set j vs), ⟨e, k', vs, g2, g3, rfl⟩, h1, k1, vs1, h2, h3, by show (L, (V.set i vs1).set j vs) = (L, (V.set j vs).set i vs1); rw [List.set_comm _ _ hne]⟩
    | rd j =>
      obtain ⟨rfl, k', z, g3, g4, g5⟩ := hj
      have hne : i ≠ j := by rintro rfl; simp [mayB] at hm
      exact ⟨(L, V), ⟨rfl, k', z, g3, by rw [← g4]; show V[j]? = (V.set i vs1)[j]?; rw [List.getElem?_set_ne hne], g5⟩, h1, k1, vs1, h2, h3, rfl⟩

def Closed (md : Region.Mode) (ops : Array Oper) (done : Array Bool) : Prop := ∀ j oj, ops[j]? = some oj → done.getD j false = true → ∀ e ∈ oj.after, Region.binds md e = true → done.getD e.on false = true
/-- what operation j waits for, be it through others: bit i for operation i, M being the numbers of those ahead of it -/
def maskOf (md : Region.Mode) (M : List Nat) (j : Nat) : List Edge → Nat
  | [] => 0
  | e :: l => if Region.binds md e && Nat.blt e.on j then 2 ^ e.on ||| (M.getD e.on 0 ||| maskOf md M j l) else maskOf md M j l
theorem maskOf_bit {M : List Nat} {j i : Nat} : ∀ l, (maskOf md M j l).testBit i = true → ∃ e ∈ l, Region.binds md e = true ∧ e.on < j ∧ (e.on = i ∨ (M.getD e.on 0).testBit i = true)
  | [], h => by simp [maskOf] at h
  | e :: l, h => by
    unfold maskOf at h
    by_cases hb : (Region.binds md e && Nat.blt e.on j) = true
    · rw [if_pos hb] at h
      simp only [Bool.and_eq_true, Nat.blt_eq] at hb
      rw [Nat.testBit_or, Nat.testBit_or, Bool.or_eq_true, Bool.or_eq_true] at h
      rcases h with h | h | h
      · rw [Nat.testBit_two_pow] at h
        exact ⟨e, by simp, hb.1, hb.2, .inl (by simpa using h)⟩
      · exact ⟨e, by simp, hb.1, hb.2, .inr h⟩
      · obtain ⟨e', he, h⟩ := maskOf_bit l h
        exact ⟨e', by simp [he], h⟩
    · rw [if_neg hb] at h
      obtain ⟨e', he, h⟩ := maskOf_bit l h
      exact ⟨e', by simp [he], h⟩
def masksB (md : Region.Mode) (ops : Array Oper) (M : List Nat) : Bool := (List.range ops.size).all fun j => match ops[j]? with
  | some oj => M.getD j 0 == maskOf md M j oj.after.toList
  | none => true
theorem masks_done {M : List Nat} (hM : masksB md ops M = true) {done : Array Bool} (hc : Closed md ops done) {i : Nat} : ∀ (j : Nat) (oj : Oper), ops[j]? = some oj → (∀ e ∈ oj.after, Region.binds md e = true → done.getD e.on false = true) → (M.getD j 0).testBit i = true → done.getD i false = true := by
  intro j
  induction j using Nat.strongRecOn with
  | _ j ih =>
    intro oj ho hall h
    have := List.all_eq_true.1 hM j (List.mem_range.2 (Array.getElem?_eq_some_iff.1 ho).1)
    rw [ho] at this
    simp only [beq_iff_eq] at this
    rw [this] at h
    obtain ⟨e, he, hb, hlt, h⟩ := maskOf_bit _ h
    have hd := hall e (by simpa using he) hb
    rcases h with rfl | h
    · exact hd
    · have hs : e.on < ops.size := Nat.lt_trans hlt (Array.getElem?_eq_some_iff.1 ho).1
      have hoe : ops[e.on]? = some ops[e.on] := by simp [hs]
      exact ih e.on hlt _ hoe (hc e.on _ hoe hd) h
theorem Closed.set {done : Array Bool} (hc : Closed md ops done) {i : Nat} (hi : i ∈ Region.ready md ops done) : Closed md ops (done.setIfInBounds i true) := by
  intro j oj hj hd e he hb
  obtain ⟨_, oi, hoi, hall⟩ := mem_ready.1 hi
  by_cases hij : i = j
  · subst hij
    obtain rfl : oj = oi := Option.some.inj (hj.symm.trans hoi)
    exact getD_set_true (hall e he hb)
  · rw [getD_set_ne false hij] at hd
    exact getD_set_true (hc j oj hj hd e he hb)

theorem anyC_first {kd : Nat → Kd} {ix : List Nat} {R : Act → St → Prop} {U : Nat → Array Bool → Act → St → Prop} {i : Nat} {oi : Oper} {M : List Nat} (hM : masksB md ops M = true) (hi : ops[i]? = some oi) (hsel : ∀ (j : Nat) (o : Oper) cs b, ops[j]? = some o → o.op ≠ .select cs b) (f : Nat) :
    ∀ (done : Array Bool) (a : Act) (s : St) (v : Value) (s1 : St), Closed md ops done →
      (∀ j oj, ops[j]? = some oj → j ≠ i → done.getD j true = false → (M.getD j 0).testBit i = false → oi.apart ops oj = true ∧ mayB (kd i) (kd j) = true) →
      i ∈ Region.ready md ops done → StepK P ops w0 S ms (kd i) oi a s v s1 →
      anyC P md ops w0 S ms kd ix R U f (done.setIfInBounds i true) (putK (kd i) a oi.dst v) s1 → anyC P md ops w0 S ms kd ix R U (f + 1) done a s := by
  induction f with
  | zero =>
    intro done a s v s1 _ _ hr hy H
    refine ⟨List.ne_nil_of_mem hr, .inr fun j hj => ?_⟩
    by_cases hji : j = i
    · subst hji; exact ⟨oi, hi, v, s1, hy, H⟩
    · have := ready_mono hj hji
      rw [H.1] at this; cases this
  | succ f ih =>
    intro done a s v s1 hc hfree hr hy H
    have hun := (mem_ready.1 hr).1
    refine ⟨List.ne_nil_of_mem hr, .inr fun j hj => ?_⟩
    by_cases hji : j = i
    · subst hji; exact ⟨oi, hi, v, s1, hy, H⟩
    · obtain ⟨hjun, oj', hoj', hall⟩ := mem_ready.1 hj
      have hnot : (M.getD j 0).testBit i = false := by
        cases hd : (M.getD j 0).testBit i with
        | false => rfl
        | true =>
          have := masks_done hM hc j oj' hoj' hall hd
          rw [getD_false_both hun] at this; cases this
      obtain ⟨hap, hm⟩ := hfree j oj' hoj' hji hjun hnot
      obtain ⟨h1, h2, h3⟩ := Oper.apart_spec hap
      rcases H.2 with ⟨hcut, _, _⟩ | H2
      · have := List.all_eq_true.1 hcut j (List.mem_range.2 (Array.getElem?_eq_some_iff.1 hoj').1)
        rw [getD_set_ne true (Ne.symm hji), hjun, Bool.false_or] at this
        cases hkj : kd j with
        | tail => rw [hkj] at hm; cases hki : kd i <;> rw [hki] at hm <;> cases hm
        | _ => rw [hkj] at this; cases this
      obtain ⟨oj, hoj, u, s2, hsj, hK⟩ := H2 j (ready_mono hj hji)
      obtain rfl : oj' = oj := Option.some.inj (hoj'.symm.trans hoj)
      obtain ⟨s3, hj3, hi3⟩ := StepK.swap hm hy ((StepK.eqK (hsel j oj' · · hoj) h1).1 hsj)
      refine ⟨oj', hoj, u, s3, hj3, ih _ _ s3 v s2 (hc.set hj) (fun k ok hk hki hun' hno => hfree k ok hk hki ?_ hno) (ready_mono hr (Ne.symm hji)) ((StepK.eqK (hsel i oi · · hi) h3).2 hi3) ?_⟩
      · by_cases hjk : j = k
        · subst hjk; exact hjun
        · rw [getD_set_ne true hjk] at hun'; exact hun'
      · rw [Array.setIfInBounds_comm _ _ hji, ← putK_comm v u h2]; exact hK

/-- the order in which the operations are written is one that they may have, and each may be taken first -/
def lexK (md : Region.Mode) (ops : Array Oper) (kd : Nat → Kd) (ix : List Nat) (M : List Nat) (tl : Nat → Nat → Array Bool → Bool) : Nat → Nat → Array Bool → Bool
  | 0, _, done => (Region.ready md ops done).isEmpty && madeB ix done
  | f + 1, k, done => match kd k with
    | .tail => cutB ops kd done && madeB ix done && !(Region.ready md ops done).isEmpty && tl (f + 1) k done
    | _ => (Region.ready md ops done).contains k && ((List.range ops.size).all fun j => j == k || done.getD j true || (M.getD j 0).testBit k || match ops[k]?, ops[j]? with
      | some ok, some oj => ok.apart ops oj && mayB (kd k) (kd j)
      | _, _ => false) && lexK md ops kd ix M tl f (k + 1) (done.setIfInBounds k true)

theorem anyC_lex {kd : Nat → Kd} {ix : List Nat} {R : Act → St → Prop} {T : List Oper → Act → St → Prop} {U : Nat → Array Bool → Act → St → Prop} {M : List Nat} {tl : Nat → Nat → Array Bool → Bool} (hM : masksB md ops M = true) (hsel : Region.noSelect ops = true)
    (hU : ∀ l k done a s, Closed md ops done → (∀ j, l[j]? = ops[k + j]?) → tl l.length k done = true → T l a s → U l.length done a s) : ∀ (l : List Oper) (ks : List Kd) (k : Nat) (done : Array Bool) (a : Act) (s : St), Closed md ops done →
    (∀ j, l[j]? = ops[k + j]?) → (∀ j x, ks[j]? = some x → x = kd (k + j)) →
    lexK md ops kd ix M tl l.length k done = true → lx P ops w0 S ms R T ks l a s → anyC P md ops w0 S ms kd ix R U l.length done a s
  | [], _, _, _, _, _, _, _, _, hB, h => by
    simp only [List.length_nil, lexK, Bool.and_eq_true] at hB
    exact ⟨by simpa using hB.1, hB.2, by simpa [lx] using h⟩
  | o :: l, [], _, _, _, _, _, _, _, _, h => h.elim
  | o :: l, x :: ks, k, done, a, s, hc, hl, hk, hB, h => by
    have h0 : ops[k]? = some o := by simpa using (hl 0).symm
    have hx : x = kd k := by simpa using hk 0 x (by simp)
    have step : ∀ (v : Value) (s' : St), (Region.ready md ops done).contains k = true → ((List.range ops.size).all fun j => j == k || done.getD j true || (M.getD j 0).testBit k || match ops[k]?, ops[j]? with
        | some ok, some oj => ok.apart ops oj && mayB (kd k) (kd j)
        | _, _ => false) = true → lexK md ops kd ix M tl l.length (k + 1) (done.setIfInBounds k true) = true →
        StepK P ops w0 S ms (kd k) o a s v s' → lx P ops w0 S ms R T ks l (putK (kd k) a o.dst v) s' → anyC P md ops w0 S ms kd ix R U (l.length + 1) done a s := by
      intro v s' hr hf hB' hs hn
      have hr' : k ∈ Region.ready md ops done := by simpa using hr
      refine anyC_first hM h0 (Region.noSelect_spec hsel) l.length done a s v s' hc (fun j oj hj hne hun hno => ?_) hr' hs
        (anyC_lex hM hsel hU l ks (k + 1) _ _ _ (hc.set hr') (fun j => by have := hl (j + 1); simpa [Nat.add_assoc, Nat.add_comm 1 j] using this) (fun j y hy => by have := hk (j + 1) y (by simpa using hy); simpa [Nat.add_assoc, Nat.add_comm 1 j] using this) hB' hn)
      have := List.all_eq_true.1 hf j (List.mem_range.2 (Array.getElem?_eq_some_iff.1 hj).1)
      simp only [Bool.or_eq_true, beq_iff_eq, hne, false_or, hun, Bool.false_eq_true, hno, h0, hj, Bool.and_eq_true] at this
      exact this
    simp only [List.length_cons, lexK] at hB
    subst hx
    cases hkd : kd k with
    | tail =>
      rw [hkd] at hB h
      simp only [Bool.and_eq_true] at hB
      exact ⟨by have := hB.1.2; intro e; rw [e] at this; simp at this, .inl ⟨hB.1.1.1, hB.1.1.2, hU (o :: l) k done a s hc hl hB.2 h⟩⟩
    | _ =>
      rw [hkd] at hB h
      simp only [Bool.and_eq_true] at hB
      obtain ⟨v, s', hs, hn⟩ := h
      exact step v s' hB.1.1 (by rw [hkd]; exact hB.1.2) hB.2 (by rw [hkd]; exact hs) (by rw [hkd]; exact hn)

/-- a region whose tail is in order -/
def regionB (ops : Array Oper) (ks : List Kd) (D ix M : List Nat) : Bool :=
  Region.noSelect ops && allB .any ops D ix (fun j => ks.getD j .tail) && masksB .any ops M && lexK .any ops (fun j => ks.getD j .tail) ix M (seqB .any ops) ops.size 0 (Array.replicate ops.size false)
/-- a region whose tail is in any order again -/
def regionB2 (ops : Array Oper) (ks ks2 : List Kd) (D ix M D2 ix2 : List Nat) : Bool :=
  Region.noSelect ops && allB .any ops D ix (fun j => ks.getD j .tail) && masksB .any ops M && allB .any ops D2 ix2 (fun j => ks2.getD j .tail) &&
    lexK .any ops (fun j => ks.getD j .tail) ix M (fun f k done => (ix2.all fun i => !done.getD i false) && lexK .any ops (fun j => ks2.getD j .tail) ix2 M (fun _ _ _ => false) f k done) ops.size 0 (Array.replicate ops.size false)

/-- what is left to show when all makers have been at work -/
def Full : List Mk → List (List Value) → Act → List Blk → (Act → List Blk → Prop) → Prop
  | k :: ms, z :: V, a, L, K => ∀ v Bs, k.X z v Bs → Full ms V (a.put (some k.d) v) (Bs ++ L) K
  | _, _, a, L, K => K a L
theorem Full.use {K : Act → List Blk → Prop} : ∀ {ms : List Mk} {V : List (List Value)} {vs : List (Option Value)} {Ns : List (List Blk)} {a : Act} {L : List Blk}, Made ms V vs Ns → (∀ v ∈ vs, v.isSome = true) → Full ms V a L K → ∃ L', (L ++ Ns.flatten).Perm L' ∧ K (puts a ms vs) L'
  | _, _, _, _, a, L, .nil, _, h => ⟨L, by simp, by simpa [Full, puts] using h⟩
  | _, _, _, _, a, L, .no _, hs, _ => by have := hs none (by simp); cases this
  | _, _, _, _, a, L, .yes hx hm, hs, h => by
    obtain ⟨L', hp, hk⟩ := Full.use hm (fun v hv => hs v (by simp [hv])) (h _ _ hx)
    refine ⟨L', List.Perm.trans ?_ hp, by simpa [puts] using hk⟩
    rw [List.flatten_cons, ← List.append_assoc]
    exact List.perm_append_comm.append_right _
theorem none_made : ∀ (ms : List Mk) (V : List (List Value)), V.length = ms.length → Made ms V (List.replicate ms.length none) (List.replicate ms.length [])
  | [], V, hV => by obtain rfl : V = [] := List.eq_nil_of_length_eq_zero hV; exact Made.nil
  | k :: ms, [], hV => by simp at hV
  | k :: ms, z :: V, hV => .no (none_made ms V (by simpa using hV))
theorem none_puts : ∀ (ms : List Mk) (n : Nat) (a : Act), puts a ms (List.replicate n none) = a
  | [], n, a => by simp [puts]
  | k :: ms, 0, a => by simp [puts]
  | k :: ms, n + 1, a => by rw [List.replicate_succ, puts]; exact none_puts ms n a
theorem none_done (n j : Nat) : (Array.replicate n false).getD j false = false := by
  rcases Nat.lt_or_ge j n with h | h
  · simp [h]
  · simp [h]
theorem region_AW {a0 : Act} (hW : Cl w0 L W) {l : List Oper} {kd : Nat → Kd} {M ix : List Nat} {S : List Nat} {ms : List Mk} {V : List (List Value)} {R : Act → St → Prop} {T : List Oper → Act → St → Prop} {U : Nat → Array Bool → Act → St → Prop} {tl : Nat → Nat → Array Bool → Bool} {ks : List Kd}
    (hsel : Region.noSelect l.toArray = true) (hall : allB .any l.toArray (ms.map Mk.d) ix kd = true) (hM : masksB .any l.toArray M = true) (hlex : lexK .any l.toArray kd ix M tl l.toArray.size 0 (Array.replicate l.toArray.size false) = true) (hk : ∀ j x, ks[j]? = some x → x = kd j) (hV : V.length = ms.length) (hd : ∀ k ∈ ms, k.d < a0.tmps.size)
    (hU : ∀ l' k done a s, Closed .any l.toArray done → (∀ j, l'[j]? = l.toArray[k + j]?) → tl l'.length k done = true → T l' a s → U l'.length done a s)
    (hR : ∀ a s vs Ns w, Made ms s.2 vs Ns → (∀ v ∈ vs, v.isSome = true) → Cl w0 (s.1 ++ Ns.flatten) w → R a s → Q .normal (puts a ms vs) w)
    (hT : ∀ f done a s vs Ns w, Made ms s.2 vs Ns → (∀ v ∈ vs, v.isSome = true) → Cl w0 (s.1 ++ Ns.flatten) w → a.tmps.size = a0.tmps.size → U f done a s → AW r m P .any l.toArray Q f done (puts a ms vs) w)
    (h : lx P l.toArray w0 S ms R T ks l a0 (L, V)) : AW r m P .any l.toArray Q l.toArray.size (Array.replicate l.toArray.size false) a0 W := by
  have h1 := anyC_lex (P := P) (w0 := w0) (S := S) (md := .any) (kd := kd) (ix := ix) hM hsel hU l ks 0 (Array.replicate l.toArray.size false) a0 (L, V) (fun j oj _ hd => by rw [none_done] at hd; cases hd) (fun j => by simp) (fun j x hx => by rw [Nat.zero_add]; exact hk j x hx) (by simpa using hlex) h
  have h2 := anyC_any (P := P) (r := r) (m := m) (Q := Q) (allB_spec hall) (Region.noSelect_spec hsel) hR hT l.length (Array.replicate l.toArray.size false) a0 (L, V) _ _ W (none_made ms V hV) (fun q i hq => by
      constructor
      · rintro ⟨v, hv⟩
        rw [List.getElem?_replicate] at hv
        split at hv
        · injection hv with hv; cases hv
        · cases hv
      · intro hd
        rw [none_done] at hd; cases hd) hd rfl (by
      have : (List.replicate ms.length ([] : List Blk)).flatten = [] := by simp
      rw [this, List.append_nil]
      exact hW) h1
  rw [none_puts] at h2
  simpa using h2
theorem wp_region_lx (hW : Cl w0 L W) {id : Nat} {l : List Oper} (S : List Nat) (ks : List Kd) (ms : List Mk) (V : List (List Value)) (ix M : List Nat) (hm : P.follows .mixedOrders = true) (hB : regionB l.toArray ks (ms.map Mk.d) ix M = true)
    (hV : V.length = ms.length) (hd : ∀ k ∈ ms, k.d < a.tmps.size)
    (h : lx P l.toArray w0 S ms (fun a' s' => Full ms s'.2 a' s'.1 fun a' L' => ∀ w', Cl w0 L' w' → Q .normal a' w') (fun l' a' s' => Full ms s'.2 a' s'.1 fun a' L' => ∀ w', Cl w0 L' w' → LW r m P l.toArray Q l' a' w') ks l a (L, V)) :
    CW r m P (Code.region id l.toArray true) Q a W := by
  simp only [regionB, Bool.and_eq_true] at hB
  obtain ⟨⟨⟨hsel, hall⟩, hM⟩, hlex⟩ := hB
  have H : AW r m P .any l.toArray Q l.toArray.size (Array.replicate l.toArray.size false) a W.drew :=
    region_AW hW.drew (U := fun f done a s => ∃ l' k, l'.length = f ∧ (∀ j, l'[j]? = l.toArray[k + j]?) ∧ seqB .any l.toArray f k done = true ∧ Full ms s.2 a s.1 fun a' L' => ∀ w', Cl w0 L' w' → LW r m P l.toArray Q l' a' w')
      hsel hall hM hlex (fun j x hx => by simp [hx]) hV hd (fun l' k done a s _ hl ht hT => ⟨l', k, rfl, hl, ht, hT⟩)
      (fun a s vs Ns w hM hs hC hR => by obtain ⟨L', hp, hk⟩ := Full.use hM hs hR; exact hk w (hC.perm hp))
      (fun f done a s vs Ns w hM hs hC _ ⟨l', k, hf, hl, ht, hT⟩ => by
        obtain ⟨L', hp, hk⟩ := Full.use hM hs hT
        subst hf
        exact AW_seq l' k done _ w hl ht (hk w (hC.perm hp))) h
  cases r with
  | none => exact wp_region_any hm H
  | some k => exact wpIn_region_any hm H
theorem wp_region_lx2 (hW : Cl w0 L W) {id : Nat} {l : List Oper} (S : List Nat) (ks : List Kd) (ms : List Mk) (V : List (List Value)) (ix M S2 : List Nat) (ks2 : List Kd) (ms2 : List Mk) (V2 : List (List Value)) (ix2 : List Nat) (hm : P.follows .mixedOrders = true) (hB : regionB2 l.toArray ks ks2 (ms.map Mk.d) ix M (ms2.map Mk.d) ix2 = true)
    (hV : V.length = ms.length) (hV2 : V2.length = ms2.length) (hd2 : ∀ k ∈ ms2, k.d < a.tmps.size) (hd : ∀ k ∈ ms, k.d < a.tmps.size)
    (h : lx P l.toArray w0 S ms (fun a' s' => Full ms s'.2 a' s'.1 fun a' L' => ∀ w', Cl w0 L' w' → Q .normal a' w')
      (fun l' a' s' => Full ms s'.2 a' s'.1 fun a' L' => lx P l.toArray w0 S2 ms2 (fun a' s' => Full ms2 s'.2 a' s'.1 fun a' L' => ∀ w', Cl w0 L' w' → Q .normal a' w') (fun _ _ _ => False) (ks2.drop (l.length - l'.length)) l' a' (L', V2)) ks l a (L, V)) :
    CW r m P (Code.region id l.toArray true) Q a W := by
  simp only [regionB2, Bool.and_eq_true] at hB
  obtain ⟨⟨⟨⟨hsel, hall⟩, hM⟩, hall2⟩, hlex⟩ := hB
  have H : AW r m P .any l.toArray Q l.toArray.size (Array.replicate l.toArray.size false) a W.drew :=
    region_AW hW.drew (U := fun f done a s => ∃ l' k, l'.length = f ∧ (∀ j, l'[j]? = l.toArray[k + j]?) ∧ Closed .any l.toArray done ∧ ((ix2.all fun i => !done.getD i false) && lexK .any l.toArray (fun j => ks2.getD j .tail) ix2 M (fun _ _ _ => false) f k done) = true ∧
        Full ms s.2 a s.1 fun a' L' => lx P l.toArray w0 S2 ms2 (fun a' s' => Full ms2 s'.2 a' s'.1 fun a' L' => ∀ w', Cl w0 L' w' → Q .normal a' w') (fun _ _ _ => False) (ks2.drop (l.length - l'.length)) l' a' (L', V2))
      hsel hall hM hlex (fun j x hx => by simp [hx]) hV hd (fun l' k done a s hc hl ht hT => ⟨l', k, rfl, hl, hc, ht, hT⟩)
      (fun a s vs Ns w hM hs hC hR => by obtain ⟨L', hp, hk⟩ := Full.use hM hs hR; exact hk w (hC.perm hp))
      (fun f done a s vs Ns w hMd hs hC hsz ⟨l', k, hf, hl, hc, ht, hT⟩ => by
        simp only [Bool.and_eq_true] at ht
        obtain ⟨hix, ht⟩ := ht
        obtain ⟨L', hp, hk⟩ := Full.use hMd hs hT
        subst hf
        have hlen : l'.length = l.length - k := by
          apply Nat.le_antisymm
          · rcases Nat.lt_or_ge (l.length - k) l'.length with h | h
            · have h1 := hl (l.length - k)
              rw [List.getElem?_eq_getElem h] at h1
              have h2 := (Array.getElem?_eq_some_iff.1 h1.symm).1
              simp at h2; omega
            · exact h
          · rcases Nat.lt_or_ge l'.length (l.length - k) with h | h
            · have h1 := hl l'.length
              rw [List.getElem?_eq_none (Nat.le_refl _)] at h1
              have h2 := Array.getElem?_eq_none_iff.1 h1.symm
              simp at h2; omega
            · exact h
        have hks : ks2.drop (l.length - l'.length) = ks2.drop k ∨ l' = [] := by
          rcases Nat.lt_or_ge l.length k with hk0 | hk0
          · exact .inr (List.eq_nil_of_length_eq_zero (by omega))
          · exact .inl (by rw [show l.length - l'.length = k by omega])
        have hk : lx P l.toArray w0 S2 ms2 (fun a' s' => Full ms2 s'.2 a' s'.1 fun a' L' => ∀ w', Cl w0 L' w' → Q .normal a' w') (fun _ _ _ => False) (ks2.drop k) l' (puts a ms vs) (L', V2) := by
          rcases hks with e | e
          · rw [← e]; exact hk
          · subst e; simpa [lx] using hk
        have hpsz : ∀ (ms : List Mk) (vs : List (Option Value)) (a : Act), (puts a ms vs).tmps.size = a.tmps.size := by
          intro ms
          induction ms with
          | nil => intro vs a; simp [puts]
          | cons k ms ih => intro vs a; cases vs with
            | nil => simp [puts]
            | cons v vs => cases v with
              | none => rw [puts]; exact ih vs a
              | some v => rw [puts, ih, put_size]
        have h1 := anyC_lex (P := P) (w0 := w0) (S := S2) (ms := ms2) (md := .any) (kd := fun j => ks2.getD j .tail) (ix := ix2) (U := fun _ _ _ _ => False) hM hsel (fun _ _ _ _ _ _ _ h _ => by cases h) l' (ks2.drop k) k done (puts a ms vs) (L', V2) hc hl (fun j x hx => by rw [List.getElem?_drop] at hx; simp [hx]) ht hk
        have h2 := anyC_any (N := (puts a ms vs).tmps.size) (P := P) (r := r) (m := m) (Q := Q) (ms := ms2) (allB_spec hall2) (Region.noSelect_spec hsel)
          (fun a s vs Ns w hM hs hC hR => by obtain ⟨L', hp, hk⟩ := Full.use hM hs hR; exact hk w (hC.perm hp)) (fun _ _ _ _ _ _ _ _ _ _ _ h => h.elim) l'.length done (puts a ms vs) (L', V2) _ _ w (none_made ms2 V2 hV2) (fun q i hq => by
            constructor
            · rintro ⟨v, hv⟩
              rw [List.getElem?_replicate] at hv
              split at hv
              · injection hv with hv; cases hv
              · cases hv
            · intro hd
              have := List.all_eq_true.1 hix i (List.mem_of_getElem? hq)
              rw [hd] at this; cases this) (fun k hk => by rw [hpsz, hsz]; exact hd2 k hk) rfl (by
            have : (List.replicate ms2.length ([] : List Blk)).flatten = [] := by simp
            rw [this, List.append_nil]
            exact hC.perm hp) h1
        rw [none_puts] at h2
        exact h2) h
  cases r with
  | none => exact wp_region_any hm H
  | some k => exact wpIn_region_any hm H
end
end Go.Proofs.Ytoegpalacppllaa
