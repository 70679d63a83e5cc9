/- What a law's arguments are: structs, slices of numbers, slices of structs and slices of slices, opened by their types. -/
import Derived.Test.YtoegpalacppllaaOpen
import Derived.Test.YtoegpalacppllaaTv
import Derived.Deep.Slices
namespace Go.Proofs.Ytoegpalacppllaa
open Go.RowKit Go.ChangeShapes Go.WideShapes Pl Tr Go.Deep

/-- these cells can be read as data of a type -/
def TC (P : Program) (W : World) (t : TypeId) (cs : List Value) : Prop := ∃ (H : Type) (enc : TypeId × Value → H) (base fuel : Nat) (x : DataW H × List MemPlace), DataW.trod enc P W base (fun _ => true) true fuel t cs = some x

section
variable {P : Program} {W : World}
theorem TC.int {t : TypeId} {cs : List Value} {k : IntKind} (h : TC P W t cs) (ht : P.underlying t = some (.int k)) : ∃ n, cs = [.int k n] ∧ (Lit.int k n).wf = true := by
  obtain ⟨H, enc, base, fuel, x, h⟩ := h
  obtain ⟨n, h1, _, h2⟩ := DataW.trod_int ht h
  exact ⟨n, h1, h2⟩
theorem TC.bool {t : TypeId} {cs : List Value} (h : TC P W t cs) (ht : P.underlying t = some .bool) : ∃ b, cs = [.bool b] := by
  obtain ⟨H, enc, base, fuel, x, h⟩ := h
  obtain ⟨b, h1, _⟩ := DataW.trod_bool ht h
  exact ⟨b, h1⟩
theorem TC.struct {t : TypeId} {cs : List Value} {fs : Array Field} (h : TC P W t cs) (ht : P.underlying t = some (.struct fs)) : cs.length = P.cellsOf t ∧ ∀ (i : Nat) (f : Field), fs[i]? = some f → TC P W f.type ((cs.drop f.offset).take (P.cellsOf f.type)) := by
  obtain ⟨H, enc, base, fuel, x, h⟩ := h
  obtain ⟨xs, n, _, _, hl, hn, hf⟩ := DataW.trod_struct ht h
  refine ⟨hl, fun i f hi => ?_⟩
  have hlt : i < fs.size := (Array.getElem?_eq_some_iff.1 hi).1
  have h1 := hf i f hi
  rw [List.getElem?_eq_getElem (by omega)] at h1
  exact ⟨H, enc, base, n, _, h1⟩
theorem TC.key {t e : TypeId} {cs : List Value} (h : TC P W t cs) (hK : TyK P t e) (hc : P.cellsOf t = 16) : ∃ k : Kw, cs = kc k := by
  obtain ⟨H, enc, base, fuel, x, h⟩ := h
  exact trod_key hK h hc
theorem spot_of_cell {w : World} {a : Addr} {v : Value} (h : w.cell? a = some v) : a.spot = none := by
  unfold World.cell? at h
  split at h
  · by_cases hs : a.spot.isSome = true
    · simp [hs] at h
    · simpa using hs
  · cases h
theorem TC.slice {t e sz : TypeId} {cs : List Value} (h : TC P W t cs) (ht : P.underlying t = some (.slice e)) (hc : P.cellsOf e = sz) (hp : 0 < sz) :
    ∃ (s : Sl) (cc : List (List Value)), cs = [s.v] ∧ s.Ok ∧ s.c ≤ maxLen ∧ cc.length = s.n ∧ (∀ c ∈ cc, c.length = sz ∧ TC P W e c) ∧ Rd W s.a cc.flatten := by
  obtain ⟨H, enc, base, fuel, x, h⟩ := h
  rcases open_slice ht h with ⟨rfl, _⟩ | ⟨a, len, cap, m, n, D, Pl, rfl, hb, hl, hm, hmm, _, hx⟩
  · exact ⟨Sl.no, [], rfl, Sl.Ok.no, by decide, rfl, by simp, Rd.nil _ _⟩
  have hlm : len ≤ m := by rw [hmm]; simp only [if_true]; exact hl
  subst hc
  have hx' : ∀ i, ∃ cs', i < len → W.cells? base (a.add (i * P.cellsOf e)) (P.cellsOf e) = some cs' ∧ DataW.trod enc P W base (fun _ => true) true n e cs' = some (D i, Pl i) := fun i => by
    by_cases hi : i < len
    · obtain ⟨c, h1, h2⟩ := hx i (by omega)
      exact ⟨c, fun _ => ⟨h1, h2⟩⟩
    · exact ⟨[], fun h => absurd h hi⟩
  obtain ⟨f, hf⟩ := Classical.axiomOfChoice hx'
  have hlen : ∀ i, i < len → (f i).length = P.cellsOf e := fun i hi => (World.cells?_some (hf i hi).1).2.1
  refine ⟨⟨some a, len, cap⟩, (List.range len).map f, rfl, ⟨hl, fun h => by cases h⟩, hm, by simp, ?_, ?_⟩
  · intro c hc
    obtain ⟨i, hi, rfl⟩ := List.mem_map.1 hc
    have hi := List.mem_range.1 hi
    exact ⟨hlen i hi, H, enc, base, n, _, (hf i hi).2⟩
  · -- the cells, one after the other
    have key : ∀ (L : List (List Value)) (i0 : Nat), (∀ i c, L[i]? = some c → c.length = P.cellsOf e ∧ ∀ q, q < P.cellsOf e → W.cell? ((a.add ((i0 + i) * P.cellsOf e)).add q) = c[q]?) → ∀ j u, L.flatten[j]? = some u → W.cell? (a.add (i0 * P.cellsOf e + j)) = some u := by
      intro L
      induction L with
      | nil => intro i0 _ j u hu; simp at hu
      | cons c L ih =>
        intro i0 hL j u hu
        obtain ⟨h1, h2⟩ := hL 0 c (by simp)
        rw [List.flatten_cons] at hu
        by_cases hj : j < P.cellsOf e
        · rw [List.getElem?_append_left (by omega)] at hu
          have := h2 j hj
          rw [Nat.add_zero, add_add] at this
          rw [this]; exact hu
        · rw [List.getElem?_append_right (by omega), h1] at hu
          have := ih (i0 + 1) (fun i c hc => by
            have := hL (i + 1) c (by simpa using hc)
            rwa [show i0 + (i + 1) = i0 + 1 + i by omega] at this) (j - P.cellsOf e) u hu
          rw [← this]
          congr 2
          rw [Nat.add_mul]; omega
    have hall := key ((List.range len).map f) 0 (fun i c hc => by
      rw [List.getElem?_map] at hc
      by_cases hi : i < len
      · simp [hi] at hc
        subst hc
        refine ⟨hlen i hi, fun q hq => ?_⟩
        rw [Nat.zero_add]
        exact (World.cells?_some (hf i hi).1).2.2 q hq
      · simp [hi] at hc)
    intro j u hu
    have h0 := hall j u hu
    rw [Nat.zero_mul, Nat.zero_add] at h0
    have hne : 0 < ((List.range len).map f).flatten.length := by have := (List.getElem?_eq_some_iff.1 hu).1; omega
    have h00 := hall 0 _ (List.getElem?_eq_getElem hne)
    rw [Nat.zero_mul, Nat.zero_add] at h00
    have hsp : a.spot = none := spot_of_cell (by simpa [Addr.add] using h00)
    obtain ⟨b, i, sp⟩ := a
    simp only at hsp
    subst hsp
    refine ⟨b, i, rfl, ?_⟩
    rwa [Addr.add_lit] at h0
/-- a slice of numbers -/
theorem TC.ints {t e : TypeId} {cs : List Value} (h : TC P W t cs) (ht : P.underlying t = some (.slice e)) (he : P.underlying e = some (.int .i64)) (hc : P.cellsOf e = 1) : ∃ (s : Sl) (l : List Int), cs = [s.v] ∧ RdI W s l ∧ s.c ≤ maxLen ∧ ∀ x ∈ l, -9223372036854775808 ≤ x ∧ x ≤ 9223372036854775807 := by
  obtain ⟨s, cc, rfl, hok, hm, hn, hcc, hrd⟩ := h.slice ht hc (by decide)
  have h' : ∀ c, ∃ x : Int, c ∈ cc → c = [IV x] ∧ -9223372036854775808 ≤ x ∧ x ≤ 9223372036854775807 := fun c => by
    by_cases hm : c ∈ cc
    · obtain ⟨n, hn, hw⟩ := (hcc c hm).2.int he
      exact ⟨n, fun _ => ⟨hn, bounds_i64 hw⟩⟩
    · exact ⟨0, fun h => absurd h hm⟩
  obtain ⟨f, hf⟩ := Classical.axiomOfChoice h'
  have hfl : cc.flatten = il (cc.map f) := by
    have : ∀ L : List (List Value), (∀ c ∈ L, c = [IV (f c)]) → L.flatten = il (L.map f) := by
      intro L
      induction L with
      | nil => intro _; rfl
      | cons c L ih =>
        intro h
        have h0 := h c (by simp)
        rw [List.flatten_cons, ih fun c hc => h c (by simp [hc]), h0]
        have e : f [IV (f c)] = f c := by rw [← h0]
        simp [il, e]
    exact this cc fun c hc => (hf c hc).1
  rw [hfl] at hrd
  refine ⟨s, cc.map f, rfl, ⟨hok, by simp [hn], hrd⟩, hm, fun x hx => ?_⟩
  obtain ⟨c, hc, rfl⟩ := List.mem_map.1 hx
  exact (hf c hc).2
theorem ArgOf.tc {t : TypeId} {v : Value} (h : ArgOf P W t v) : TC P W t v.cells.toList := by
  obtain ⟨H, enc, base, d, p, hv, ⟨fuel, hd⟩, _⟩ := h
  exact ⟨H, enc, 0, fuel, _, hd⟩
theorem ArgOf.agg {t : TypeId} {v : Value} {fs : Array Field} (h : ArgOf P W t v) (ht : P.underlying t = some (.struct fs)) : ∃ cs : List Value, v = .agg cs.toArray ∧ TC P W t cs := by
  have h2 := h.tc
  obtain ⟨H, enc, base, d, p, hv, _, _⟩ := h
  obtain ⟨cs, rfl, _⟩ := okWide_struct ht hv
  exact ⟨cs.toList, by simp, h2⟩
theorem ArgOf.sl {t e : TypeId} {v : Value} (h : ArgOf P W t v) (ht : P.underlying t = some (.slice e)) : ∃ s : Sl, v = s.v ∧ TC P W t [s.v] := by
  have h2 := h.tc
  obtain ⟨H, enc, base, d, p, hv, _, _⟩ := h
  obtain ⟨a, n, c, rfl⟩ := okWide_slice ht hv
  exact ⟨⟨a, n, c⟩, rfl, h2⟩
theorem ints_of_arg {t e : TypeId} {v : Value} (h : ArgOf P W t v) (ht : P.underlying t = some (.slice e)) (he : P.underlying e = some (.int .i64)) (hc : P.cellsOf e = 1) : ∃ (s : Sl) (l : List Int), v = s.v ∧ RdI W s l ∧ s.c ≤ maxLen ∧ ∀ x ∈ l, -9223372036854775808 ≤ x ∧ x ≤ 9223372036854775807 := by
  obtain ⟨s, rfl, h2⟩ := h.sl ht
  obtain ⟨s', l, he', h3⟩ := h2.ints ht he hc
  refine ⟨s, l, rfl, ?_⟩
  have : s = s' := by
    obtain ⟨a, n, c⟩ := s
    obtain ⟨a', n', c'⟩ := s'
    simp only [List.cons.injEq, Value.slice.injEq, and_true] at he'
    obtain ⟨rfl, rfl, rfl⟩ := he'
    rfl
  subst this
  exact h3

/-- a scheme: what its type must be like -/
structure TyS (P : Program) (t : TypeId) : Prop where
  ex : ∃ (f0 f1 f2 f3 g0 g1 g2 : Field), P.underlying t = some (.struct #[f0, f1, f2, f3]) ∧ P.underlying f3.type = some (.struct #[g0, g1, g2]) ∧ P.cellsOf t = 6 ∧ P.cellsOf f3.type = 3 ∧
    f0.offset = 0 ∧ f1.offset = 1 ∧ f2.offset = 2 ∧ f3.offset = 3 ∧ g0.offset = 0 ∧ g1.offset = 1 ∧ g2.offset = 2 ∧
    P.underlying f0.type = some (.int .u8) ∧ P.underlying f1.type = some (.int .i64) ∧ P.underlying f2.type = some (.int .i64) ∧ P.underlying g0.type = some (.int .u64) ∧ P.underlying g1.type = some (.int .u64) ∧ P.underlying g2.type = some (.int .u64) ∧
    P.cellsOf f0.type = 1 ∧ P.cellsOf f1.type = 1 ∧ P.cellsOf f2.type = 1 ∧ P.cellsOf g0.type = 1 ∧ P.cellsOf g1.type = 1 ∧ P.cellsOf g2.type = 1
theorem six {cs : List Value} (h : cs.length = 6) : ∃ a b c d e f, cs = [a, b, c, d, e, f] := by
  match cs, h with
  | [a, b, c, d, e, f], _ => exact ⟨a, b, c, d, e, f, rfl⟩
theorem TC.scheme {t : TypeId} {cs : List Value} (h : TC P W t cs) (hS : TyS P t) : ∃ s : Sc, cs = scC s := by
  obtain ⟨f0, f1, f2, f3, g0, g1, g2, hu, hg, hc, hc3, o0, o1, o2, o3, p0, p1, p2, u0, u1, u2, v0, v1, v2, c0, c1, c2, d0, d1, d2⟩ := hS.ex
  obtain ⟨hl, hf⟩ := h.struct hu
  rw [hc] at hl
  obtain ⟨x0, x1, x2, x3, x4, x5, rfl⟩ := six hl
  have h0 := hf 0 f0 rfl
  have h1 := hf 1 f1 rfl
  have h2 := hf 2 f2 rfl
  have h3 := hf 3 f3 rfl
  rw [o0, c0] at h0
  rw [o1, c1] at h1
  rw [o2, c2] at h2
  rw [o3, hc3] at h3
  obtain ⟨_, hg'⟩ := h3.struct hg
  have k0 := hg' 0 g0 rfl
  have k1 := hg' 1 g1 rfl
  have k2 := hg' 2 g2 rfl
  rw [p0, d0] at k0
  rw [p1, d1] at k1
  rw [p2, d2] at k2
  obtain ⟨n0, e0, _⟩ := h0.int u0
  obtain ⟨n1, e1, _⟩ := h1.int u1
  obtain ⟨n2, e2, _⟩ := h2.int u2
  obtain ⟨n3, e3, _⟩ := k0.int v0
  obtain ⟨n4, e4, _⟩ := k1.int v1
  obtain ⟨n5, e5, _⟩ := k2.int v2
  simp at e0 e1 e2 e3 e4 e5
  subst e0; subst e1; subst e2; subst e3; subst e4; subst e5
  exact ⟨⟨n0, n1, n2, n3, n4, n5⟩, rfl⟩
theorem TyS.fields {t : TypeId} (h : TyS P t) : ∃ fs, P.underlying t = some (.struct fs) := by
  obtain ⟨f0, f1, f2, f3, g0, g1, g2, hu, _⟩ := h.ex
  exact ⟨_, hu⟩
theorem ArgOf.scheme {t : TypeId} {v : Value} (h : ArgOf P W t v) (hS : TyS P t) : ∃ s : Sc, v = .agg (scC s).toArray := by
  obtain ⟨fs, hu⟩ := hS.fields
  obtain ⟨cs, rfl, h2⟩ := h.agg hu
  obtain ⟨s, rfl⟩ := h2.scheme hS
  exact ⟨s, rfl⟩
end
end Go.Proofs.Ytoegpalacppllaa
