/- What a law's arguments are: opened by their types. -/
import Derived.Test.YtoegpalacppllaaFrame
import Derived.Test.YtoegpalacppllaaSl
import Derived.Test.YtoegpalacppllaaEq
import Derived.ChangeSlices
import Derived.ChangeMaps5
namespace Go.Proofs.Ytoegpalacppllaa
open Go.RowKit Go.ChangeShapes Go.WideShapes Pl

/-- one argument -/
structure ArgOf (P : Program) (W : World) (t : TypeId) (v : Value) : Prop where
  ex : ∃ (H : Type) (enc : TypeId × Value → H) (base : Nat) (d : DataW H) (p : List MemPlace), Value.okWide P W .any base t v ∧ DataW.Trod enc P W 0 (fun _ => true) true t v d p ∧ ∀ n ∈ d.weights P t, n ≤ reachBytes
def ArgsOf (P : Program) (W : World) : List TypeId → List Value → Prop
  | [], [] => True
  | t :: ts, v :: vs => ArgOf P W t v ∧ ArgsOf P W ts vs
  | _, _ => False

section
variable {P : Program} {W : World}

theorem argsOf {H : Type} {enc : TypeId × Value → H} {base : Nat} : ∀ {ts : List TypeId} {vs : List Value} {ds : List (DataW H)} {ps : List MemPlace}, (∀ (j : Nat) t v, ts[j]? = some t → vs[j]? = some v → Value.okWide P W .any base t v) →
    DataW.TrodAll enc P W 0 (fun _ => true) true ts vs ds ps → (∀ n ∈ DataW.weightsEach P ts ds, n ≤ reachBytes) → ArgsOf P W ts vs
  | [], _, _, _, _, h, _ => by
    obtain ⟨rfl, rfl, rfl⟩ := trodAll_nil h
    trivial
  | t :: ts, _, _, _, hv, h, hw => by
    obtain ⟨v, vs, d, ds, p, q, rfl, rfl, rfl, h1, h2⟩ := trodAll_cons h
    refine ⟨⟨H, enc, base, d, p, hv 0 t v rfl rfl, h1, fun n hn => hw n (by simp [DataW.weightsEach, hn])⟩, argsOf (fun j t v h3 h4 => hv (j + 1) t v (by simpa using h3) (by simpa using h4)) h2 fun n hn => hw n (by simp [DataW.weightsEach, hn])⟩
theorem Opened.args {H : Type} {enc : TypeId × Value → H} {fn : Func} {base : Nat} {args : Array Value} {ds : List (DataW H)} {ps : List MemPlace} (h : Opened enc P W fn base args ds ps) {ts : List TypeId} (ht : fn.params.toList = ts) : ArgsOf P W ts args.toList := by
  subst ht
  refine argsOf (fun j t v h1 h2 => h.val j t v (by simpa using h1) (by simpa using h2)) h.trod ?_
  have := h.fits
  simpa using this
theorem ArgsOf.nil {l : List Value} (h : ArgsOf P W [] l) : l = [] := by
  cases l with
  | nil => rfl
  | cons v l => exact h.elim
theorem ArgsOf.cons {t : TypeId} {ts : List TypeId} {l : List Value} (h : ArgsOf P W (t :: ts) l) : ∃ v vs, l = v :: vs ∧ ArgOf P W t v ∧ ArgsOf P W ts vs := by
  cases l with
  | nil => exact h.elim
  | cons v l => exact ⟨v, l, rfl, h.1, h.2⟩
theorem arr_of {args : Array Value} {l : List Value} (h : args.toList = l) : args = l.toArray := by subst h; simp

theorem wf_u8 {n : Int} (h : (Lit.int .u8 n).wf = true) : ∃ x : BitVec 8, n = (x.toNat : Int) := by
  have := bounds_u8 h
  refine ⟨BitVec.ofNat 8 n.toNat, ?_⟩
  rw [BitVec.toNat_ofNat, Nat.mod_eq_of_lt (by omega)]; omega
theorem wf_u64 {n : Int} (h : (Lit.int .u64 n).wf = true) : ∃ x : BitVec 64, n = (x.toNat : Int) := by
  have := bounds_u64 h
  refine ⟨BitVec.ofNat 64 n.toNat, ?_⟩
  rw [BitVec.toNat_ofNat, Nat.mod_eq_of_lt (by omega)]; omega

theorem ArgOf.u64 {t : TypeId} {v : Value} (h : ArgOf P W t v) (ht : P.underlying t = some (.int .u64)) : ∃ x : W64, v = U64 x := by
  obtain ⟨H, enc, base, d, p, hv, hd, _⟩ := h
  obtain ⟨n, rfl, rfl, rfl, wf⟩ := open_int ht hv hd
  obtain ⟨x, rfl⟩ := wf_u64 wf
  exact ⟨x, rfl⟩
theorem ArgOf.u8 {t : TypeId} {v : Value} (h : ArgOf P W t v) (ht : P.underlying t = some (.int .u8)) : ∃ x : BitVec 8, v = B8 x := by
  obtain ⟨H, enc, base, d, p, hv, hd, _⟩ := h
  obtain ⟨n, rfl, rfl, rfl, wf⟩ := open_int ht hv hd
  obtain ⟨x, rfl⟩ := wf_u8 wf
  exact ⟨x, rfl⟩
theorem ArgOf.int {t : TypeId} {v : Value} (h : ArgOf P W t v) (ht : P.underlying t = some (.int .i64)) : ∃ n : Int, v = .int .i64 n ∧ -9223372036854775808 ≤ n ∧ n ≤ 9223372036854775807 := by
  obtain ⟨H, enc, base, d, p, hv, hd, _⟩ := h
  obtain ⟨n, rfl, rfl, rfl, wf⟩ := open_int ht hv hd
  exact ⟨n, rfl, bounds_i64 wf⟩

/-- cells of the kind of bytes -/
theorem byte_cells {cs : List Value} (hl : cs.length = 16) (h : ∀ i, i < 16 → ∃ x : BitVec 8, cs[i]? = some (B8 x)) : ∃ k : Kw, cs = kc k := by
  have h' : ∀ i, ∃ x : BitVec 8, i < 16 → cs[i]? = some (B8 x) := fun i => by
    by_cases hi : i < 16
    · obtain ⟨x, hx⟩ := h i hi
      exact ⟨x, fun _ => hx⟩
    · exact ⟨0, fun hi' => absurd hi' hi⟩
  obtain ⟨f, hf⟩ := Classical.axiomOfChoice h'
  refine ⟨packK f, ?_⟩
  rw [← kcf_packK]
  apply List.ext_getElem?
  intro i
  by_cases hi : i < 16
  · rw [hf i hi, kcf_get _ i hi]
  · rw [List.getElem?_eq_none (by omega), List.getElem?_eq_none (by rw [kcf_len]; omega)]
theorem trod_key {H : Type} {enc : TypeId × Value → H} {t e : TypeId} (hK : TyK P t e) {base : Nat} {sp : Nat → Bool} {hd : Bool} {fuel : Nat} {cs : List Value} {x : DataW H × List MemPlace} (h : DataW.trod enc P W base sp hd fuel t cs = some x) (hc : P.cellsOf t = 16) : ∃ k : Kw, cs = kc k := by
  obtain ⟨xs, m, _, _, hl, hn, hi⟩ := DataW.trod_array hK.u h
  rw [hc] at hl
  refine byte_cells hl fun i h16 => ?_
  have h1 := hi i h16
  rw [hK.one, Nat.mul_one] at h1
  obtain ⟨y, hy⟩ : ∃ y, xs[i]? = some y := ⟨xs[i], List.getElem?_eq_getElem (by omega)⟩
  rw [hy] at h1
  obtain ⟨n, hcs, _, wf⟩ := DataW.trod_int hK.b h1
  obtain ⟨b, rfl⟩ := wf_u8 wf
  refine ⟨b, ?_⟩
  have h2 : ((cs.drop i).take 1)[0]? = some (Value.int .u8 (b.toNat : Int)) := by rw [hcs]; rfl
  simpa using h2
theorem ArgOf.key {t e : TypeId} {v : Value} (h : ArgOf P W t v) (hK : TyK P t e) (hc : P.cellsOf t = 16) : ∃ k : Kw, v = keyV k := by
  obtain ⟨H, enc, base, d, p, hv, ⟨fuel, hd⟩, _⟩ := h
  unfold Value.okWide at hv
  rw [hK.u] at hv
  obtain ⟨cs, rfl, _⟩ := hv
  obtain ⟨k, hk⟩ := trod_key hK hd hc
  refine ⟨k, ?_⟩
  have : cs.toList = kc k := hk
  unfold keyV
  rw [← this]

/-- a slice of bytes that came in -/
theorem ArgOf.bytes {t e : TypeId} {v : Value} (h : ArgOf P W t v) (ht : P.underlying t = some (.slice e)) (he : P.underlying e = some (.int .u8)) (hc : P.cellsOf e = 1) (hb : P.bytesOf e = 1) :
    ∃ (a : Option Addr) (n c : Nat) (l : List (BitVec 8)), v = .slice a n c ∧ l.length = n ∧ Rd W a (bl l) ∧ n ≤ c ∧ c ≤ 140737488351232 ∧ (a = none → n = 0 ∧ c = 0) := by
  obtain ⟨H, enc, base, d, p, hv, ⟨fuel, hd⟩, hw⟩ := h
  obtain ⟨a0, len, cap, rfl⟩ := okWide_slice ht hv
  rcases open_ints ht he hc hd with ⟨hcs, hx⟩ | ⟨a, len', cap', zs, hcs, _, hl, hm, hz, hx, hcell, hwz⟩
  · simp [Value.cells] at hcs
    obtain ⟨rfl, rfl, rfl⟩ := hcs
    exact ⟨none, 0, 0, [], rfl, rfl, Rd.nil _ _, Nat.le_refl _, by decide, fun _ => ⟨rfl, rfl⟩⟩
  · simp [Value.cells] at hcs
    obtain ⟨rfl, rfl, rfl⟩ := hcs
    simp only [if_true] at hz
    simp only [Prod.mk.injEq] at hx
    obtain ⟨rfl, rfl⟩ := hx
    have hcap : cap ≤ 140737488351232 := by
      have := hw ((zs.take len).length * 1 + (zs.drop len).length * 1) (by simp [DataW.weights, ht, hb, lits])
      simp [reachBytes] at this
      omega
    have hbyte : ∀ i, ∃ x : BitVec 8, zs.getD i 0 = (x.toNat : Int) := fun i => by
      by_cases hi : i < zs.length
      · obtain ⟨x, hx⟩ := wf_u8 (hwz zs[i] (List.getElem_mem hi))
        exact ⟨x, by simp [hi, hx]⟩
      · exact ⟨0, by simp [List.getElem?_eq_none (by omega : zs.length ≤ i)]⟩
    obtain ⟨f, hf⟩ := Classical.axiomOfChoice hbyte
    refine ⟨some a, len, cap, (List.range len).map f, rfl, by simp, ?_, hl, hcap, fun h => by cases h⟩
    intro j u hu
    have hj : j < len := by
      have := (List.getElem?_eq_some_iff.1 hu).1
      simpa [bl] using this
    have hu' : u = B8 (f j) := by
      simp [bl, hj] at hu
      exact hu.symm
    have h0 := hcell 0 (by omega)
    have hjc := hcell j (by omega)
    have hsp : a.spot = none := by
      simp only [Addr.add, if_true] at h0
      unfold World.cell? at h0
      split at h0
      · by_cases hs : a.spot.isSome = true
        · simp [hs] at h0
        · simpa using hs
      · cases h0
    obtain ⟨b, i, sp⟩ := a
    simp only at hsp
    subst hsp
    refine ⟨b, i, rfl, ?_⟩
    rw [Addr.add_lit] at hjc
    rw [hjc, hu', hf j]
theorem ArgOf.str {t : TypeId} {v : Value} (h : ArgOf P W t v) (ht : P.underlying t = some .string) : ∃ s : ByteArray, v = .string s ∧ s.size ≤ 140737488351232 := by
  obtain ⟨H, enc, base, d, p, hv, hd, hw⟩ := h
  obtain ⟨s, rfl, rfl, rfl, hs⟩ := ChangeMaps.open_string ht hv hd
  refine ⟨s, rfl, ?_⟩
  have := hw s.data.toList.length (by simp [DataW.weights])
  simpa [reachBytes] using this
end
end Go.Proofs.Ytoegpalacppllaa
