/- A region that draws its order, walked once, as it is written: operations that yield one value in all worlds that are known so far (loads, calls, arithmetic), and stores. Two operations that may change places must not both be stores; and a load that may change places with a store must be of a block that no store of the region writes. No function of the program is in sight here. -/
import Derived.Test.YtlabfinhdidmaaaMem
namespace Go.Proofs.Ytlabfinhdidmaaa
open Go.RowKit

/-- the same blocks, but for those at the places S -/
def Sim (S : List Nat) (L L' : List Blk) : Prop := ∀ p, p ∉ S → L[p]? = L'[p]?
theorem Sim.refl (S : List Nat) (L : List Blk) : Sim S L L := fun _ _ => rfl
theorem Sim.symm {S : List Nat} {L L' : List Blk} (h : Sim S L L') : Sim S L' L := fun p hp => (h p hp).symm
theorem Sim.trans {S : List Nat} {L L' L2 : List Blk} (h : Sim S L L') (k : Sim S L' L2) : Sim S L L2 := fun p hp => (h p hp).trans (k p hp)
theorem Sim.set {S : List Nat} (L : List Blk) (p : Nat) (x : Blk) (hp : p ∈ S) : Sim S L (L.set p x) := fun q hq => by
  rw [List.getElem?_set_ne]
  intro e; subst e; exact hq hp

section
variable {P : Program} {ops : Array Oper} {Q : Exit → Act → World → Prop} {a : Act} {w0 : Base} {W : World} {rest : List Oper} {o : Oper} {L L1 : List Blk} {md : Region.Mode} {S : List Nat} {r : Option (Option Nat)} {m : Nat}

/-- a store -/
def SV (P : Program) (ops : Array Oper) (w0 : Base) (o : Oper) (a : Act) (L L' : List Blk) : Prop :=
  Region.wanted o (yielded ops a.tmps) = true ∧ ∀ w, Cl w0 L w → ∃ w', (execOp a.eval o).run P w = .ok .skip w' ∧ Cl w0 L' w'

/-- 0: one value, whatever the blocks at S hold; 1: one value; else: a store -/
def StepK (P : Program) (ops : Array Oper) (w0 : Base) (S : List Nat) : Nat → Oper → Act → List Blk → Value → List Blk → Prop
  | 0, o, a, L, v, L' => (∀ L2, Sim S L L2 → YieldsIn P ops (Cl w0 L2) o v a) ∧ L' = L
  | 1, o, a, L, v, L' => YieldsIn P ops (Cl w0 L) o v a ∧ L' = L
  | _, o, a, L, v, L' => SV P ops w0 o a L L' ∧ Sim S L L' ∧ v = undef

/-- as they are written -/
def lx (P : Program) (ops : Array Oper) (w0 : Base) (S : List Nat) (R : Act → List Blk → Prop) : List Nat → List Oper → Act → List Blk → Prop
  | _, [], a, L => R a L
  | [], _ :: _, _, _ => False
  | k :: ks, o :: rest, a, L => ∃ v L', StepK P ops w0 S k o a L v L' ∧ lx P ops w0 S R ks rest (a.put o.dst v) L'

/-- in whatever order -/
def anyC (P : Program) (md : Region.Mode) (ops : Array Oper) (w0 : Base) (S : List Nat) (kd : Nat → Nat) (R : Act → List Blk → Prop) : Nat → Array Bool → Act → List Blk → Prop
  | 0, done, a, L => Region.ready md ops done = [] ∧ R a L
  | f + 1, done, a, L => (Region.ready md ops done = [] → R a L) ∧
      ∀ i ∈ Region.ready md ops done, ∃ oi v L', ops[i]? = some oi ∧ StepK P ops w0 S (kd i) oi a L v L' ∧ anyC P md ops w0 S kd R f (done.setIfInBounds i true) (a.put oi.dst v) L'

/-- in whatever order, in a function or in a round -/
def AW (r : Option (Option Nat)) (m : Nat) (P : Program) (md : Region.Mode) (ops : Array Oper) (Q : Exit → Act → World → Prop) (f : Nat) (done : Array Bool) (a : Act) (w : World) : Prop :=
  match r with
  | none => wpAny P md ops Q f done a w
  | some k => wpAnyIn (RF k) m P md ops Q f done a w

theorem yields_ok {C : World → Prop} {v : Value} {K : Act → World → Prop} {w : World} {k : Option Nat} (hC : C w) (hy : o.quietAt P a C w v) (hK : ∀ w', C w' → K (a.put o.dst v) w') : o.wpIn (RF k) m P a w K Q := by
  refine ⟨about_ok k, ?_⟩
  unfold Oper.quietAt at hy
  cases hr : (execOp a.eval o).run P w with
  | halt x w' => rw [hr] at hy; exact hy.elim
  | ok x w' =>
    rw [hr] at hy
    have nd : (∀ d, x ≠ .defer d) → o.semAt (RF k).round a.eval = execOp a.eval o := fun h => Oper.semAt_eq _ a.eval o (not_defer hr h)
    cases x with
    | value u =>
      obtain ⟨rfl, rfl⟩ := hy
      rw [nd (fun d h => by cases h), hr]
      exact hK _ hC
    | skip =>
      obtain ⟨rfl, rfl⟩ := hy
      rw [nd (fun d h => by cases h), hr]
      exact hK _ hC
    | enter f args =>
      obtain ⟨rfl, hc⟩ := hy
      rw [nd (fun d h => by cases h), hr, Oper.uponIn_enter]
      refine ⟨RF_depth k, (RF_calls k hc).mono ?_⟩
      rintro e w'' ⟨rfl, hw⟩
      exact hK _ hw
    | _ => exact hy.elim

theorem anyC_any {kd : Nat → Nat} {R : Act → List Blk → Prop} (hR : ∀ a L w, Cl w0 L w → R a L → Q .normal a w) (f : Nat) : ∀ (done : Array Bool) (a : Act) (L : List Blk) (w : World), Cl w0 L w → anyC P md ops w0 S kd R f done a L → AW r m P md ops Q f done a w := by
  induction f with
  | zero =>
    intro done a L w hw h
    cases r with
    | none => exact ⟨h.1, hR a L w hw h.2⟩
    | some k => exact ⟨h.1, hR a L w hw h.2⟩
  | succ f ih =>
    intro done a L w hw h
    cases r with
    | none =>
      refine ⟨fun h0 => hR a L w hw (h.1 h0), fun i hi => ?_⟩
      obtain ⟨oi, v, L', ho, hs, hn⟩ := h.2 i hi
      have quiet : YieldsIn P ops (Cl w0 L) oi v a → L' = L → wpOp P ops Q i (wpAny P md ops Q f (done.setIfInBounds i true)) a w := fun hy hL => by
        subst hL
        exact wpOp_of_qOp hw (fun a' w' hw' h' => ih _ a' L' w' hw' h') (hy.qOp ho hn)
      match hk : kd i, hs with
      | 0, hs => exact quiet (hs.1 L (Sim.refl S L)) hs.2
      | 1, hs => exact quiet hs.1 hs.2
      | _ + 2, hs =>
        obtain ⟨⟨hwt, hst⟩, _, rfl⟩ := hs
        obtain ⟨w', hrun, hw'⟩ := hst w hw
        unfold wpOp
        simp only [ho, hwt, if_true]
        refine .inl ?_
        unfold Oper.wp
        rw [hrun]
        exact ih _ _ L' w' hw' hn
    | some k =>
      refine ⟨fun h0 => hR a L w hw (h.1 h0), fun i hi => ?_⟩
      obtain ⟨oi, v, L', ho, hs, hn⟩ := h.2 i hi
      unfold wpOpIn
      simp only [ho]
      have quiet : YieldsIn P ops (Cl w0 L) oi v a → L' = L → (if Region.wanted oi (yielded ops a.tmps) then oi.wpIn (RF k) m P a w (wpAnyIn (RF k) m P md ops Q f (done.setIfInBounds i true)) Q
          else (∀ f, oi.about P w a.eval = some f → (RF k).fn f) ∧ wpAnyIn (RF k) m P md ops Q f (done.setIfInBounds i true) (a.put oi.dst undef) w) := fun hy hL => by
        subst hL
        rcases hy with ⟨hwt, hq⟩ | ⟨hwt, rfl⟩
        · rw [if_pos hwt]
          exact yields_ok hw (hq w hw) (fun w' hw' => ih _ _ L' w' hw' hn)
        · rw [if_neg (by simp [hwt])]
          exact ⟨about_ok k, ih _ _ L' w hw hn⟩
      match hk : kd i, hs with
      | 0, hs => exact quiet (hs.1 L (Sim.refl S L)) hs.2
      | 1, hs => exact quiet hs.1 hs.2
      | _ + 2, hs =>
        obtain ⟨⟨hwt, hst⟩, _, rfl⟩ := hs
        obtain ⟨w', hrun, hw'⟩ := hst w hw
        rw [if_pos hwt]
        refine ⟨about_ok k, ?_⟩
        rw [show oi.semAt (RF k).round a.eval = execOp a.eval oi from Oper.semAt_eq _ a.eval oi (not_defer hrun (fun d h => by cases h)), hrun, Oper.uponIn_skip]
        exact ih _ _ L' w' hw' hn

theorem SV.eq {L' : List Blk} {x : Oper} {u : Value} (hs : ∀ cs b, o.op ≠ .select cs b) (hl : ∀ d, x.dst = some d → d ∉ o.looksAt ops) : SV P ops w0 o (a.put x.dst u) L L' ↔ SV P ops w0 o a L L' := by
  unfold SV
  rw [execOp_put o hs a x.dst u hl, wanted_put o a x.dst u hl]
theorem YieldsIn.eq {C : World → Prop} {x : Oper} {u v : Value} (hs : ∀ cs b, o.op ≠ .select cs b) (hl : ∀ d, x.dst = some d → d ∉ o.looksAt ops) : YieldsIn P ops C o v (a.put x.dst u) ↔ YieldsIn P ops C o v a := by
  unfold YieldsIn Oper.quietAt
  rw [execOp_put o hs a x.dst u hl, wanted_put o a x.dst u hl]
theorem StepK.eq {k : Nat} {L' : List Blk} {x : Oper} {u v : Value} (hs : ∀ cs b, o.op ≠ .select cs b) (hl : ∀ d, x.dst = some d → d ∉ o.looksAt ops) : StepK P ops w0 S k o (a.put x.dst u) L v L' ↔ StepK P ops w0 S k o a L v L' := by
  match k with
  | 0 => simp only [StepK, YieldsIn.eq hs hl]
  | 1 => simp only [StepK, YieldsIn.eq hs hl]
  | _ + 2 => simp only [StepK, SV.eq hs hl]

/-- these two kinds may change places -/
def mayB : Nat → Nat → Bool
  | 0, _ => true
  | _, 0 => true
  | 1, 1 => true
  | _, _ => false

/-- two steps that may change places -/
theorem StepK.swap {k m : Nat} {oi oj : Oper} {v u : Value} {L2 : List Blk} (hm : mayB k m = true) (hi : StepK P ops w0 S k oi a L v L1) (hj : StepK P ops w0 S m oj a L1 u L2) :
    ∃ L3, StepK P ops w0 S m oj a L u L3 ∧ StepK P ops w0 S k oi a L3 v L2 := by
  match k, m, hm with
  | 0, 0, _ => obtain ⟨h1, rfl⟩ := hi; obtain ⟨h2, rfl⟩ := hj; exact ⟨_, ⟨h2, rfl⟩, h1, rfl⟩
  | 0, 1, _ => obtain ⟨h1, rfl⟩ := hi; obtain ⟨h2, rfl⟩ := hj; exact ⟨_, ⟨h2, rfl⟩, h1, rfl⟩
  | 0, m + 2, _ =>
    obtain ⟨h1, rfl⟩ := hi
    obtain ⟨h2, h3, h4⟩ := hj
    exact ⟨L2, ⟨h2, h3, h4⟩, fun L' h => h1 L' (h3.trans h), rfl⟩
  | 1, 0, _ => obtain ⟨h1, rfl⟩ := hi; obtain ⟨h2, rfl⟩ := hj; exact ⟨_, ⟨h2, rfl⟩, h1, rfl⟩
  | 1, 1, _ => obtain ⟨h1, rfl⟩ := hi; obtain ⟨h2, rfl⟩ := hj; exact ⟨_, ⟨h2, rfl⟩, h1, rfl⟩
  | k + 2, 0, _ =>
    obtain ⟨h1, h2, h3⟩ := hi
    obtain ⟨h4, rfl⟩ := hj
    exact ⟨L, ⟨fun L' h => h4 L' (h2.symm.trans h), rfl⟩, h1, h2, h3⟩

theorem anyC_first {kd : Nat → Nat} {R : Act → List Blk → Prop} {i : Nat} {oi : Oper} (hi : ops[i]? = some oi) (hsel : ∀ (j : Nat) (o : Oper) cs b, ops[j]? = some o → o.op ≠ .select cs b) (f : Nat) :
    ∀ (done : Array Bool) (a : Act) (L : List Blk) (v : Value) (L1 : List Blk),
      (∀ j oj, ops[j]? = some oj → j ≠ i → done.getD j true = false → (∀ e ∈ oj.after, Region.binds md e = true → e.on ≠ i) → oi.apart ops oj = true ∧ mayB (kd i) (kd j) = true) →
      i ∈ Region.ready md ops done → StepK P ops w0 S (kd i) oi a L v L1 →
      anyC P md ops w0 S kd R f (done.setIfInBounds i true) (a.put oi.dst v) L1 → anyC P md ops w0 S kd R (f + 1) done a L := by
  induction f with
  | zero =>
    intro done a L v L1 _ hr hy H
    refine ⟨fun h => absurd h (List.ne_nil_of_mem hr), fun j hj => ?_⟩
    by_cases hji : j = i
    · subst hji; exact ⟨oi, v, L1, hi, hy, H⟩
    · have := ready_mono hj hji
      rw [H.1] at this; cases this
  | succ f ih =>
    intro done a L v L1 hfree hr hy H
    have hun := (mem_ready.1 hr).1
    refine ⟨fun h => absurd h (List.ne_nil_of_mem hr), fun j hj => ?_⟩
    by_cases hji : j = i
    · subst hji; exact ⟨oi, v, L1, hi, hy, H⟩
    · obtain ⟨oj, u, L2, hoj, hsj, hK⟩ := H.2 j (ready_mono hj hji)
      obtain ⟨hjun, oj', hoj', hall⟩ := mem_ready.1 hj
      obtain rfl : oj' = oj := Option.some.inj (hoj'.symm.trans hoj)
      have hnot : ∀ e ∈ oj'.after, Region.binds md e = true → e.on ≠ i := fun e he hb heq => by
        have h2 := hall e he hb
        rw [heq, getD_both hun] at h2
        cases h2
      obtain ⟨hap, hm⟩ := hfree j oj' hoj hji hjun hnot
      obtain ⟨h1, h2, h3⟩ := Oper.apart_spec hap
      obtain ⟨L3, hj3, hi3⟩ := StepK.swap hm hy ((StepK.eq (hsel j oj' · · hoj) h1).1 hsj)
      refine ⟨oj', u, L3, hoj, hj3, ih _ _ L3 v L2 (fun k ok hk hki hun' hno => hfree k ok hk hki ?_ hno) (ready_mono hr (Ne.symm hji)) ((StepK.eq (hsel i oi · · hi) h3).2 hi3) ?_⟩
      · by_cases hjk : j = k
        · subst hjk; exact hjun
        · rw [getD_set_ne true hjk] at hun'; exact hun'
      · rw [Array.setIfInBounds_comm _ _ hji, ← Act.put_comm a v u h2]; exact hK

/-- whoever may still change places with operation i may do so by its kind -/
def freeK (md : Region.Mode) (ops : Array Oper) (kd : Nat → Nat) (done : Array Bool) (i : Nat) : Bool :=
  (List.range ops.size).all fun j => j == i || done.getD j true || match ops[j]? with
    | some oj => oj.after.any (fun e => Region.binds md e && e.on == i) || mayB (kd i) (kd j)
    | none => true
theorem freeK_spec {kd : Nat → Nat} {i : Nat} {done : Array Bool} (h : freeK md ops kd done i = true) (j : Nat) (oj : Oper) (hj : ops[j]? = some oj) (hne : j ≠ i) (hun : done.getD j true = false) (hno : ∀ e ∈ oj.after, Region.binds md e = true → e.on ≠ i) :
    mayB (kd i) (kd j) = true := by
  simp only [freeK, List.all_eq_true, List.mem_range] at h
  have h1 := h j (Array.getElem?_eq_some_iff.1 hj).1
  simp only [hj, Bool.or_eq_true, beq_iff_eq, hne, false_or, hun, Bool.false_eq_true] at h1
  rcases h1 with h1 | h1
  · obtain ⟨e, he, hb⟩ := Array.any_eq_true'.1 h1
    simp only [Bool.and_eq_true, beq_iff_eq] at hb
    exact absurd hb.2 (hno e he hb.1)
  · exact h1

def lexK (md : Region.Mode) (ops : Array Oper) (kd : Nat → Nat) : Nat → Nat → Array Bool → Bool
  | 0, _, done => (Region.ready md ops done).isEmpty
  | f + 1, k, done => (Region.ready md ops done).contains k && Region.free md ops done k && freeK md ops kd done k && lexK md ops kd f (k + 1) (done.setIfInBounds k true)

theorem anyC_lex {kd : Nat → Nat} {R : Act → List Blk → Prop} (hsel : Region.noSelect ops = true) : ∀ (l : List Oper) (ks : List Nat) (k : Nat) (done : Array Bool) (a : Act) (L : List Blk), (∀ j, l[j]? = ops[k + j]?) → (∀ j x, ks[j]? = some x → x = kd (k + j)) →
    lexK md ops kd l.length k done = true → lx P ops w0 S R ks l a L → anyC P md ops w0 S kd R l.length done a L
  | [], _, _, _, _, _, _, _, hB, h => ⟨by simpa [lexK] using hB, by simpa [lx] using h⟩
  | o :: l, [], _, _, _, _, _, _, _, h => h.elim
  | o :: l, x :: ks, k, done, a, L, hl, hk, hB, h => by
    have h0 : ops[k]? = some o := by simpa using (hl 0).symm
    have hx : x = kd k := by simpa using hk 0 x (by simp)
    simp only [List.length_cons, lexK, Bool.and_eq_true] at hB
    obtain ⟨⟨⟨hr, hf⟩, hp⟩, hB'⟩ := hB
    obtain ⟨v, L', hs, hn⟩ := h
    rw [hx] at hs
    exact anyC_first h0 (Region.noSelect_spec hsel) l.length done a L v L' (fun j oj hj hne hun hno => ⟨Region.free_spec h0 hf j oj hj hne hun hno, freeK_spec hp j oj hj hne hun hno⟩) (by simpa using hr) hs
      (anyC_lex hsel l ks (k + 1) _ _ _ (fun j => by have := hl (j + 1); simpa [Nat.add_assoc, Nat.add_comm 1 j] using this) (fun j y hy => by have := hk (j + 1) y (by simpa using hy); simpa [Nat.add_assoc, Nat.add_comm 1 j] using this) hB' hn)

def regionB (ops : Array Oper) (ks : List Nat) : Bool :=
  Region.noSelect ops && lexK .any ops (fun j => ks.getD j 9) ops.size 0 (Array.replicate ops.size false)

theorem wp_region_lx (hW : Cl w0 L W) {id : Nat} {l : List Oper} (S : List Nat) (ks : List Nat) (hm : P.follows .mixedOrders = true) (hB : regionB l.toArray ks = true)
    (h : lx P l.toArray w0 S (fun a' L' => ∀ w', Cl w0 L' w' → Q .normal a' w') ks l a L) : CW r m P (Code.region id l.toArray true) Q a W := by
  simp only [regionB, Bool.and_eq_true] at hB
  obtain ⟨hsel, hlex⟩ := hB
  have H : AW r m P .any l.toArray Q l.toArray.size (Array.replicate l.toArray.size false) a W.drew := by
    refine anyC_any (S := S) (kd := fun j => ks.getD j 9) (R := fun a' L' => ∀ w', Cl w0 L' w' → Q .normal a' w') (fun a L w hw h => h w hw) _ _ _ L _ hW.drew ?_
    have := anyC_lex (P := P) (w0 := w0) (S := S) (md := .any) (kd := fun j => ks.getD j 9) hsel l ks 0 _ a L (fun j => by simp) (fun j x hx => by simp [hx]) (by simpa using hlex) h
    simpa using this
  cases r with
  | none => exact wp_region_any hm H
  | some k => exact wpIn_region_any hm H
end
end Go.Proofs.Ytlabfinhdidmaaa
