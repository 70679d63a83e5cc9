/- A region that draws its order, walked in an order that is given. No function of the program is in sight here. -/
import Derived.Test.YtlabfinhdidmaaaWalk
namespace Go.Proofs.Ytlabfinhdidmaaa
open Go.RowKit

def pickL (ops : Array Oper) : List Nat → List Oper
  | [] => []
  | k :: r => match ops[k]? with
    | some o => o :: pickL ops r
    | none => []
def lexO (md : Region.Mode) (ops : Array Oper) (kd : Nat → Kd) (ix : List Nat) (M : List Nat) (tl : List Nat → Array Bool → Bool) : List Nat → Array Bool → Bool
  | [], done => (Region.ready md ops done).isEmpty && madeB ix done
  | k :: ord, done => match kd k with
    | .tail => cutB ops kd done && madeB ix done && !(Region.ready md ops done).isEmpty && tl (k :: ord) done
    | _ => (Region.ready md ops done).contains k && ((List.range ops.size).all fun j => j == k || done.getD j true || (M.getD j 0).testBit k || match ops[k]?, ops[j]? with
      | some ok, some oj => ok.apart ops oj && mayB (kd k) (kd j)
      | _, _ => false) && lexO md ops kd ix M tl ord (done.setIfInBounds k true)

section
variable {P : Program} {ops : Array Oper} {Q : Exit → Act → World → Prop} {a : Act} {w0 : Base} {W : World} {L : List Blk} {md : Region.Mode} {S : List Nat} {r : Option (Option Nat)} {m : Nat} {ms : List Mk} {bs : List Value} {us : List (Nat × Value)} {ds : List Deferred}
theorem anyC_lexO {kd : Nat → Kd} {ix : List Nat} {R : Act → St → Prop} {T : List Oper → Act → St → Prop} {U : Nat → Array Bool → Act → St → Prop} {M : List Nat} {tl : List Nat → Array Bool → Bool} (hM : masksB md ops M = true) (hsel : Region.noSelect ops = true)
    (hU : ∀ ord done a s, Closed md ops done → tl ord done = true → T (pickL ops ord) a s → U ord.length done a s) : ∀ (ord : List Nat) (done : Array Bool) (a : Act) (s : St), (∀ k ∈ ord, k < ops.size) → Closed md ops done →
    lexO md ops kd ix M tl ord done = true → lx P ops w0 S ms R T (ord.map kd) (pickL ops ord) a s → anyC P md ops w0 S ms kd ix R U ord.length done a s
  | [], done, a, s, _, _, hB, h => by
    simp only [lexO, Bool.and_eq_true] at hB
    exact ⟨by simpa using hB.1, hB.2, by simpa [lx, pickL] using h⟩
  | k :: ord, done, a, s, hv, hc, hB, h => by
    have hlt : k < ops.size := hv k (by simp)
    obtain ⟨o, h0⟩ : ∃ o, ops[k]? = some o := ⟨ops[k], by simp [hlt]⟩
    have hp : pickL ops (k :: ord) = o :: pickL ops ord := by simp [pickL, h0]
    have step : ∀ (v : Value) (s' : St), (Region.ready md ops done).contains k = true → ((List.range ops.size).all fun j => j == k || done.getD j true || (M.getD j 0).testBit k || match ops[k]?, ops[j]? with
        | some ok, some oj => ok.apart ops oj && mayB (kd k) (kd j)
        | _, _ => false) = true → lexO md ops kd ix M tl ord (done.setIfInBounds k true) = true →
        StepK P ops w0 S ms (kd k) o a s v s' → lx P ops w0 S ms R T (ord.map kd) (pickL ops ord) (putK (kd k) a o.dst v) s' → anyC P md ops w0 S ms kd ix R U (ord.length + 1) done a s := by
      intro v s' hr hf hB' hs hn
      have hr' : k ∈ Region.ready md ops done := by simpa using hr
      refine anyC_first hM h0 (Region.noSelect_spec hsel) ord.length done a s v s' hc (fun j oj hj hne hun hno => ?_) hr' hs
        (anyC_lexO hM hsel hU ord _ _ _ (fun x hx => hv x (by simp [hx])) (hc.set hr') hB' hn)
      have := List.all_eq_true.1 hf j (List.mem_range.2 (Array.getElem?_eq_some_iff.1 hj).1)
      simp only [Bool.or_eq_true, beq_iff_eq, hne, false_or, hun, Bool.false_eq_true, hno, h0, hj, Bool.and_eq_true] at this
      exact this
    simp only [lexO] at hB
    rw [List.map_cons] at h
    cases hkd : kd k with
    | tail =>
      rw [hkd] at hB h
      simp only [Bool.and_eq_true] at hB
      exact ⟨by have := hB.1.2; intro e; rw [e] at this; simp at this, .inl ⟨hB.1.1.1, hB.1.1.2, hU (k :: ord) done a s hc hB.2 (by rw [hp] at h ⊢; exact h)⟩⟩
    | _ =>
      rw [hkd, hp] at h
      rw [hkd] at hB
      simp only [Bool.and_eq_true] at hB
      obtain ⟨v, s', hs, hn⟩ := h
      exact step v s' hB.1.1 (by rw [hkd]; exact hB.1.2) hB.2 (by rw [hkd]; exact hs) (by rw [hkd]; exact hn)

def regionO (ops : Array Oper) (ks ks2 : List Kd) (D ix M D2 ix2 ord ord2 : List Nat) : Bool :=
  Region.noSelect ops && allB .any ops D ix (fun j => ks.getD j .tail) && masksB .any ops M && allB .any ops D2 ix2 (fun j => ks2.getD j .tail) && ((ord ++ ord2).all fun k => Nat.blt k ops.size) && ((ord ++ ord2).length == ops.size) &&
    lexO .any ops (fun j => ks.getD j .tail) ix M (fun o done => (o == ord2) && ((ix2.all fun i => !done.getD i false) && lexO .any ops (fun j => ks2.getD j .tail) ix2 M (fun _ _ => false) ord2 done)) (ord ++ ord2) (Array.replicate ops.size false)

theorem made0 {ix : List Nat} {n : Nat} {done : Array Bool} (h : ∀ i ∈ ix, done.getD i false = false) : ∀ (q i : Nat), ix[q]? = some i → ((∃ v, (List.replicate n (none : Option Value))[q]? = some (some v)) ↔ done.getD i false = true) := fun q i hq => by
  constructor
  · rintro ⟨v, hv⟩
    rw [List.getElem?_replicate] at hv
    split at hv
    · injection hv with hv; cases hv
    · cases hv
  · intro hd
    rw [h i (List.mem_of_getElem? hq)] at hd; cases hd
theorem puts_size : ∀ (ms : List Mk) (vs : List (Option Value)) (a : Act), (puts a ms vs).tmps.size = a.tmps.size
  | [], vs, a => by simp [puts]
  | k :: ms, [], a => by simp [puts]
  | k :: ms, none :: vs, a => by rw [puts]; exact puts_size ms vs a
  | k :: ms, some v :: vs, a => by rw [puts, puts_size ms vs, put_size]
theorem c_regO (hW : Cl w0 L W) {id : Nat} {os : List Oper} (S : List Nat) (ks : List Kd) (ms : List Mk) (V : List (List Value)) (ix M S2 : List Nat) (ks2 : List Kd) (ms2 : List Mk) (V2 : List (List Value)) (ix2 ord ord2 : List Nat) (hm : P.follows .mixedOrders = true) (hB : regionO os.toArray ks ks2 (ms.map Mk.d) ix M (ms2.map Mk.d) ix2 ord ord2 = true) (hV : V.length = ms.length) (hV2 : V2.length = ms2.length) (hd : (ms.all fun k => Nat.blt k.d bs.length) = true) (hd2 : (ms2.all fun k => Nat.blt k.d bs.length) = true)
    (h : lx P os.toArray w0 S ms (fun a' s' => Full ms s'.2 a' s'.1 fun a' L' => ∀ w', Cl w0 L' w' → Q .normal a' w')
      (fun _ a' s' => Full ms s'.2 a' s'.1 fun a' L' => lx P os.toArray w0 S2 ms2 (fun a' s' => Full ms2 s'.2 a' s'.1 fun a' L' => ∀ w', Cl w0 L' w' → Q .normal a' w') (fun _ _ _ => False) (ord2.map fun j => ks2.getD j .tail) (pickL os.toArray ord2) a' (L', V2)) ((ord ++ ord2).map fun j => ks.getD j .tail) (pickL os.toArray (ord ++ ord2)) (fr bs us ds) (L, V)) : CW r m P (Code.region id os.toArray true) Q (fr bs us ds) W := by
  simp only [regionO, Bool.and_eq_true, beq_iff_eq] at hB
  obtain ⟨⟨⟨⟨⟨⟨hsel, hall⟩, hM⟩, hall2⟩, hv⟩, hlen⟩, hlex⟩ := hB
  have hv' : ∀ k ∈ ord ++ ord2, k < os.toArray.size := fun k hk => by
    have := List.all_eq_true.1 hv k hk
    rwa [Nat.blt_eq] at this
  have sz : ∀ {k : Mk} {l : List Mk}, (l.all fun k => Nat.blt k.d bs.length) = true → k ∈ l → k.d < (fr bs us ds).tmps.size := fun hl hk => by
    have := List.all_eq_true.1 hl _ hk
    rw [Nat.blt_eq] at this
    simpa [fr, toL_len] using this
  have H : AW r m P .any os.toArray Q os.toArray.size (Array.replicate os.toArray.size false) (fr bs us ds) W.drew := by
    have h1 := anyC_lexO (P := P) (w0 := w0) (S := S) (md := .any) (kd := fun j => ks.getD j .tail) (ix := ix) (U := fun f done a s => f = ord2.length ∧ Closed .any os.toArray done ∧ ((ix2.all fun i => !done.getD i false) && lexO .any os.toArray (fun j => ks2.getD j .tail) ix2 M (fun _ _ => false) ord2 done) = true ∧
        Full ms s.2 a s.1 fun a' L' => lx P os.toArray w0 S2 ms2 (fun a' s' => Full ms2 s'.2 a' s'.1 fun a' L' => ∀ w', Cl w0 L' w' → Q .normal a' w') (fun _ _ _ => False) (ord2.map fun j => ks2.getD j .tail) (pickL os.toArray ord2) a' (L', V2))
      hM hsel (fun o done a s hc ht hT => by
        simp only [Bool.and_eq_true, beq_iff_eq] at ht
        refine ⟨by rw [ht.1], hc, by simp only [Bool.and_eq_true]; exact ht.2, hT⟩) (ord ++ ord2) (Array.replicate os.toArray.size false) (fr bs us ds) (L, V) hv' (fun j oj _ hd => by rw [none_done] at hd; cases hd) hlex h
    have h2 := anyC_any (N := (fr bs us ds).tmps.size) (P := P) (r := r) (m := m) (Q := Q) (allB_spec hall) (Region.noSelect_spec hsel)
      (fun a s vs Ns w hM hs hC hR => by obtain ⟨L', hp, hk⟩ := Full.use hM hs hR; exact hk w (hC.perm hp))
      (fun f done a s vs Ns w hMd hs hC hsz ⟨hf, hc, ht, hT⟩ => by
        simp only [Bool.and_eq_true] at ht
        obtain ⟨hix, ht⟩ := ht
        obtain ⟨L', hp, hk⟩ := Full.use hMd hs hT
        subst hf
        have h1 := anyC_lexO (P := P) (w0 := w0) (S := S2) (ms := ms2) (md := .any) (kd := fun j => ks2.getD j .tail) (ix := ix2) (U := fun _ _ _ _ => False) hM hsel (fun _ _ _ _ _ h _ => by cases h) ord2 done (puts a ms vs) (L', V2) (fun k hk => hv' k (by simp [hk])) hc ht hk
        have h2 := anyC_any (N := (puts a ms vs).tmps.size) (P := P) (r := r) (m := m) (Q := Q) (ms := ms2) (allB_spec hall2) (Region.noSelect_spec hsel)
          (fun a s vs Ns w hM hs hC hR => by obtain ⟨L', hp, hk⟩ := Full.use hM hs hR; exact hk w (hC.perm hp)) (fun _ _ _ _ _ _ _ _ _ _ _ h => h.elim) ord2.length done (puts a ms vs) (L', V2) _ _ w (none_made ms2 V2 hV2) (made0 fun i hi => by
            have := List.all_eq_true.1 hix i hi
            simpa using this) (fun k hk => by rw [puts_size, hsz]; exact sz hd2 hk) rfl (by
            have : (List.replicate ms2.length ([] : List Blk)).flatten = [] := by simp
            rw [this, List.append_nil]
            exact hC.perm hp) h1
        rw [none_puts] at h2
        exact h2) (ord ++ ord2).length (Array.replicate os.toArray.size false) (fr bs us ds) (L, V) _ _ W.drew (none_made ms V hV) (made0 fun i _ => none_done _ _) (fun k hk => sz hd hk) rfl (by
        have : (List.replicate ms.length ([] : List Blk)).flatten = [] := by simp
        rw [this, List.append_nil]
        exact hW.drew) h1
    rw [none_puts, hlen] at h2
    exact h2
  cases r with
  | none => exact wp_region_any hm H
  | some k => exact wpIn_region_any hm H
end
end Go.Proofs.Ytlabfinhdidmaaa
