/- A range over a function whose iterator yields a known number of times, each time the arguments that are known, to a body that goes on. No function of the program is in sight here. -/
import Derived.Test.YtoegpalacppllaaSl
namespace Go.Proofs.Ytoegpalacppllaa
open Go.RowKit

section
variable {P : Program} {ops : Array Oper} {Q : Exit → Act → World → Prop} {bs : List Value} {us : List (Nat × Value)} {ds : List Deferred} {b : Base} {W : World} {rest : List Oper} {o : Oper} {L Bx : List Blk} {d : Nat} {v : Value} {m : Nat}

/-- what an iterator does: it yields n times -/
def Iter (P : Program) (gf : Nat) (lb : Array Value) (n : Nat) (enc : Nat → Array Value) (Bx : List Blk) : Prop :=
  ∀ (b : Base) (l : Nat) (Lc : Nat → List Blk) (W : World),
    (∀ (i : Nat) (L : List Blk) (W : World), i < n → Cl b (L ++ (Bx ++ Lc i)) W → YieldAt Fence.wide 0 P l (enc i) W fun e W' => e = .returned (.bool true) ∧ Cl b (L ++ (Bx ++ Lc (i + 1))) W') →
    Cl b (Bx ++ Lc 0) W → CallsIn Fence.wide 0 P gf (#[.func (.yield l) #[] #[]] ++ lb) W fun e W' => (∃ v, e = .returned v) ∧ Cl b (Bx ++ Lc n) W'

theorem run_callY {l : Nat} {x : Operand} {xs : Array Operand} {ts : Array TypeId} {args : List Value} (ho : o.op = .call { callee := .value x, args := xs, argTypes := ts }) (hx : ev bs us x = .func (.yield l) #[] #[]) (ha : xs.toList.map (ev bs us) = args) (w : World) :
    (execOp (ev bs us) o).run P w = (Instr.yield l args.toArray).run P w := by
  have e : xs.map (ev bs us) = args.toArray := by subst ha; apply Array.ext'; simp only [Array.toList_map]
  unfold execOp
  simp only [ho, resolve, e, hx, Deferred.ofValue, Sem.run_bind, Sem.run_pure, Result.andThen_ok, invoke, callFunc]
  simp

theorem l_yield {l : Nat} {x : Operand} {xs : Array Operand} {ts : Array TypeId} {args : List Value} {L' : List Blk} (hY : YieldAt Fence.wide 0 P l args.toArray W fun e W' => e = .returned (.bool true) ∧ Cl b L' W')
    (hg : o.guard = none) (ho : o.op = .call { callee := .value x, args := xs, argTypes := ts }) (hx : ev bs us x = .func (.yield l) #[] #[]) (ha : xs.toList.map (ev bs us) = args) (hd : o.dst = some d)
    (h : ∀ W', Cl b L' W' → LW (some none) 0 P ops Q rest (fr bs ((d, .bool true) :: us) ds) W') : LW (some none) 0 P ops Q (o :: rest) (fr bs us ds) W := by
  refine ⟨wpListIn_step fun K hK => ?_⟩
  rw [if_pos (wanted_none hg)]
  refine ⟨about_ok none, ?_⟩
  obtain ⟨fn, tmps, assign, body, hr, hR⟩ := hY
  have hrun : (execOp (fr bs us ds).eval o).run P W = .ok (.round l fn tmps assign body) W := by rw [eval_ev, run_callY ho hx ha]; exact hr
  have e : o.semAt (RF none).round (fr bs us ds).eval = execOp (fr bs us ds).eval o := Oper.semAt_eq _ _ _ (not_defer hrun (fun d h => by cases h))
  rw [e, hrun, Oper.uponIn_round]
  refine ⟨RF_depth none, RoundIn.mono hR ?_⟩
  rintro e w ⟨rfl, hw⟩
  refine hK _ _ ?_
  rw [hd, put_st]
  exact (h w hw).h

theorem Cl.rebase {W1 : World} (h : Cl b L W) (hb : Below W.heap.size W W1) : Cl ⟨b.w, W1⟩ L W1 :=
  ⟨(h.past hb).below, (h.past hb).holds, h.own, h.apart, fun _ _ h _ => h⟩
theorem Cl.put {l : Nat} {o' : Obj} (h : Cl b L W) (o2 : Obj) (hl : W.heap[l]? = some o') (ho : o'.isCells = false) (hb : b.w.heap.size ≤ l) : Cl ⟨b.w, W.putObj l o2⟩ L (W.putObj l o2) := by
  have hne : ∀ x ∈ L, x.id ≠ l := fun x hx e => by
    have h1 := h.holds x hx
    rw [e, hl] at h1
    injection h1 with h1
    subst h1; cases ho
  refine ⟨h.below.trans ⟨rfl, rfl, rfl, by simp, fun k hk => World.putObj_heap_other (by omega)⟩, fun x hx => ?_, h.own, h.apart, fun _ _ h _ => h⟩
  exact (World.putObj_heap_other (hne x hx)).trans (h.holds x hx)

theorem c_range {g : Operand} {ps : Array Tmp} {assign body : Code} {gf : FuncId} {lb : Array Value} {n : Nat} {enc : Nat → Array Value} (hI : Iter P gf lb n enc Bx) (en : Enters P gf) (hg : ev bs us g = .func (.func gf) #[] lb) (hps : ∀ i, (enc i).size = ps.size)
    (Lc : Nat → List Blk) (hW : Cl b (Bx ++ Lc 0) W) (A : Nat → Act)
    (E : Nat → List Value) (hE : ∀ i, ({ tmps := (ps.zip (enc i)).foldl (fun t (p, v) => t.setIfInBounds p v) (fr bs us ds).tmps, defers := [] } : Act) = fr (E i) [] [])
    (hassign : ∀ (l i : Nat) (W : World), CW (some (some l)) 0 P assign (Exit.then (fun a W' => a = A i ∧ W' = W) (fun _ _ _ => False)) (fr (E i) [] []) W)
    (hbody : ∀ (l : Nat) (r : World) (i : Nat) (L : List Blk) (W : World), i < n → Cl ⟨b.w, r⟩ ((Bx ++ Lc i) ++ L) W → CW (some (some l)) 0 P body (fun e _ W' => e = .normal ∧ Cl ⟨b.w, r⟩ ((Bx ++ Lc (i + 1)) ++ L) W') (A i) W)
    (hdone : ∀ (D : Nat) (r W' : World), b.w.heap.size ≤ D → Cl ⟨b.w, r⟩ (Bx ++ Lc n) W' → r.heap[D]? = some (.deferred (some [])) → Q .normal (fr bs us ({ target := .collected D, args := #[] } :: ds)) W') :
    CW (some none) 0 P (Code.rangeFunc g ps assign body) Q (fr bs us ds) W := by
  refine wpIn_rangeFunc ?_
  intro fn hfn
  obtain ⟨rec, hrec⟩ : ∃ rec : LoopState → Option Code → Loop, rec = fun st pe => { state := st, pending := pe, fn, tmps := (fr bs us ds).tmps, params := ps, assign, body, defers := W.heap.size } := ⟨_, rfl⟩
  obtain ⟨W1, hW1⟩ : ∃ W1, (W.alloc (.deferred (some []))).alloc (.loop (rec .ready none)) = W1 := ⟨_, rfl⟩
  have hL1 : W1.heap[W.heap.size + 1]? = some (.loop (rec .ready none)) := by
    rw [← hW1]; have := World.alloc_heap_new (W.alloc (.deferred (some []))) (.loop (rec .ready none)); rwa [World.size_alloc] at this
  have hK1 : W1.heap[W.heap.size]? = some (.deferred (some [])) := by
    rw [← hW1]; exact (Below.heap_alloc _ _ _ (by simp)).trans (World.alloc_heap_new W _)
  have hb1 : Below W.heap.size W W1 := by
    rw [← hW1]; exact ((Below.refl _ W).alloc (Nat.le_refl _) _).alloc (by simp) _
  have hC1 := hW.rebase hb1
  have hsz := hW.below.size
  refine ⟨W.heap.size + 1, [{ target := .collected W.heap.size, args := #[] }], W1, { target := .fn (.func gf) lb, args := #[.func (.yield (W.heap.size + 1)) #[] #[]] }, W1, gf,
    #[.func (.yield (W.heap.size + 1)) #[] #[]] ++ lb, W1, ?_, ?_, fun _ _ => trivial, ?_, fun h => RF_depth none h, ?_⟩
  · rw [← hW1, hrec]; exact run_enterLoop_outer _ _ _ _ _
  · rw [eval_ev]; simp only [resolve, hg]
    simp [go_sem]
    rfl
  · simp [invoke, go_sem, en _ W1]
  · refine (hI ⟨b.w, W1⟩ (W.heap.size + 1) Lc W1 ?_ hC1).mono ?_
    · intro i L W2 hi hcl
      have hl := hcl.oth _ _ hL1 rfl
      have hy := run_yield (P := P) (args := enc i) hl (by rw [hrec]; exact hps i)
      rw [hrec] at hy
      refine ⟨fn, _, assign, body, hy, roundIn_of_wpIn hfn ((hE i) ▸ wpIn_mono (hassign (W.heap.size + 1) i W2) ?_)⟩
      intro e a W3 he
      cases e with
      | normal =>
        obtain ⟨rfl, rfl⟩ := he
        refine ⟨_, run_beginRound hl (by rw [hrec]), ?_⟩
        have hlt : W.heap.size + 1 < W3.heap.size := (Array.getElem?_eq_some_iff.1 hl).1
        have hl2 : (W3.putObj (W.heap.size + 1) (.loop { rec .ready none with state := .busy })).heap[W.heap.size + 1]? = some (.loop { rec .ready none with state := .busy }) := World.putObj_heap_same hlt
        refine wpIn_mono (hbody (W.heap.size + 1) _ i L _ hi ((hcl.put _ hl rfl (by show b.w.heap.size ≤ _; omega)).perm List.perm_append_comm)) ?_
        rintro e a W4 ⟨rfl, h4⟩
        have hl4 := h4.oth _ _ hl2 rfl
        refine ⟨_, _, run_endRound none hl4, rfl, ?_⟩
        have h5 := (h4.perm List.perm_append_comm).put (.loop (rec .ready none)) hl4 rfl (by show b.w.heap.size ≤ _; omega)
        have er : ({ rec .ready none with state := .busy } : Loop) = rec .busy none := by rw [hrec]
        have hpo : (W4.putObj (W.heap.size + 1) (.loop { ({ rec .ready none with state := .busy } : Loop) with state := if (none : Option Code).isNone then .ready else .done, pending := none })) = W4.putObj (W.heap.size + 1) (.loop (rec .ready none)) := by rw [hrec]; rfl
        rw [hpo]
        refine ⟨h5.below, h5.holds, h5.own, h5.apart, fun k o hk ho => ?_⟩
        by_cases hkl : k = W.heap.size + 1
        · subst hkl
          have hk' : W1.heap[W.heap.size + 1]? = some o := hk
          rw [hL1] at hk'
          rw [← hk']
          exact World.putObj_heap_same (Array.getElem?_eq_some_iff.1 hl4).1
        · refine (World.putObj_heap_other hkl).trans (h4.oth k o ?_ ho)
          exact (World.putObj_heap_other hkl).trans (hcl.oth k o hk ho)
      | _ => exact he.elim
    · rintro e W3 ⟨⟨v, rfl⟩, h3⟩
      have hl := h3.oth _ _ hL1 rfl
      have hk := h3.oth _ _ hK1 rfl
      refine ⟨_, _, run_endLoop hl (by rw [hrec]; simp), ?_⟩
      have hpe : (rec .ready none).pending = none := by rw [hrec]
      rw [hpe]
      exact hdone W.heap.size _ _ hsz (h3.put _ hl rfl (by show b.w.heap.size ≤ _; omega)) ((World.putObj_heap_other (by omega)).trans hk)

theorem r_closure {f : Fn} {cs : Array Operand} {vs : List Value} (ho : o.op = .makeFunc f #[] cs) (hc : cs.toList.map (ev bs us) = vs) : Runs P bs us o (.func f #[] vs.toArray) :=
  r_makeFunc ho (by simp) (by subst hc; apply Array.ext'; simp only [Array.toList_map])

/-! ### functions that hold such a loop, and iterators -/
variable {fn : Func} {R' : Ending → World → Prop}
theorem postM_of {e : Exit} {a : Act} (h : bodyPost P fn R' e a W) : bodyPostM Fence.wide 0 P fn R' e a W := by
  cases e with
  | normal =>
    obtain ⟨hd, h⟩ := h
    show LeavesInM Fence.wide 0 P fn a.tmps R' a.defers .returning W
    rw [hd]; exact h
  | ret =>
    obtain ⟨hd, h⟩ := h
    show LeavesInM Fence.wide 0 P fn a.tmps R' a.defers .returning W
    rw [hd]; exact h
  | panic ch =>
    obtain ⟨hd, h⟩ := h
    show LeavesInM Fence.wide 0 P fn a.tmps R' a.defers (.panicking ch) W
    rw [hd]; exact h
  | outgrown => exact h
  | exit id => exact h
  | goto t => exact h
theorem r_mark (hW : Cl b L W) {D : Nat} (hb : b.w.heap.size ≤ D) (hD : b.r.heap[D]? = some (.deferred (some []))) (h : ∀ r W', Cl ⟨b.w, r⟩ L W' → bodyPost P fn R' .ret (fr bs us []) W') :
    bodyPostM Fence.wide 0 P fn R' .ret (fr bs us [{ target := .collected D, args := #[] }]) W := by
  have hk := hW.oth _ _ hD rfl
  refine ⟨by simp, .inl ⟨D, _, rfl, run_takeDeferred hk, ?_⟩⟩
  obtain ⟨_, h⟩ := h _ _ (hW.put (.deferred none) hk rfl hb)
  exact h
theorem givesM_of {f : FuncId} {c : Code} {args : List Value} (hf : P.funcs[f]? = some fn) (hb : fn.body = some c) (hl : args ++ List.replicate (fn.ntmps - args.length) undef = bs)
    (h : ∀ w, Cl (base w) [] w → CW (some none) 0 P c (bodyPostM Fence.wide 0 P fn (fun e w' => e = .returned v ∧ Below w.heap.size w w')) (fr bs [] []) w) : Gives P f args.toArray v := fun w => by
  refine callsIn_wide.1 (callsIn_of_wp_marks (n := 0) hf hb trivial ?_)
  have e : args.toArray ++ Array.replicate (fn.ntmps - args.toArray.size) undef = bs.toArray := by
    rw [← hl]; simp
  rw [e]
  exact h w (Cl.nil w)
theorem iter_of {gf : FuncId} {c : Code} {lb : List Value} {n : Nat} {enc : Nat → Array Value} {F : Nat → List Value} (hf : P.funcs[gf]? = some fn) (hb : fn.body = some c) (hl : ∀ l, [Value.func (.yield l) #[] #[]] ++ lb ++ List.replicate (fn.ntmps - (lb.length + 1)) undef = F l)
    (h : ∀ (b : Base) (l : Nat) (Lc : Nat → List Blk) (W : World),
      (∀ (i : Nat) (L : List Blk) (W : World), i < n → Cl b (L ++ (Bx ++ Lc i)) W → YieldAt Fence.wide 0 P l (enc i) W fun e W' => e = .returned (.bool true) ∧ Cl b (L ++ (Bx ++ Lc (i + 1))) W') →
      Cl b (Bx ++ Lc 0) W → CW (some none) 0 P c (bodyPostM Fence.wide 0 P fn (fun e W' => (∃ v, e = .returned v) ∧ Cl b (Bx ++ Lc n) W')) (fr (F l) [] []) W) : Iter P gf lb.toArray n enc Bx := fun b l Lc W hY hW => by
  refine callsIn_of_wp_marks hf hb trivial ?_
  have e : #[Value.func (.yield l) #[] #[]] ++ lb.toArray ++ Array.replicate (fn.ntmps - (#[Value.func (.yield l) #[] #[]] ++ lb.toArray).size) undef = (F l).toArray := by
    rw [← hl]; simp
  rw [e]
  exact h b l Lc W hY hW
end
end Go.Proofs.Ytoegpalacppllaa
