/- How lists of numbers, and lists of such lists, stand in memory. No function of the program is in sight here. -/
import Derived.Test.YtoegpalacppllaaMore2
namespace Go.Proofs.Ytoegpalacppllaa
open Go.RowKit

/-- a slice -/
structure Sl where
  a : Option Addr
  n : Nat
  c : Nat
abbrev Sl.v (s : Sl) : Value := .slice s.a s.n s.c
abbrev Sl.no : Sl := ⟨none, 0, 0⟩
abbrev IV (x : Int) : Value := .int .i64 x
/-- numbers, as cells -/
def il (l : List Int) : List Value := l.map fun x => IV x
theorem il_len (l : List Int) : (il l).length = l.length := by simp [il]
theorem il_one (l : List Int) : ∀ v ∈ il l, v.oneCell' = true := by
  intro v hv
  obtain ⟨x, _, rfl⟩ := List.mem_map.1 hv
  rfl
theorem il_append (l m : List Int) : il (l ++ m) = il l ++ il m := by simp [il]
theorem il_get {l : List Int} {j : Nat} (h : j < l.length) : (il l)[j]? = some (IV (l.getD j 0)) := by simp [il, h]
theorem il_set (l : List Int) (j : Nat) (x : Int) : (il l).set j (IV x) = il (l.set j x) := by simp [il, List.map_set]
theorem il_take (l : List Int) (n : Nat) : il (l.take n) = (il l).take n := by simp [il]
theorem il_drop (l : List Int) (n : Nat) : il (l.drop n) = (il l).drop n := by simp [il]
theorem il_rep (n : Nat) (x : Int) : il (List.replicate n x) = List.replicate n (IV x) := by simp [il]

/-- what every slice is like -/
structure Sl.Ok (s : Sl) : Prop where
  le : s.n ≤ s.c
  nil : s.a = none → s.c = 0
theorem Sl.Ok.no : Sl.no.Ok := ⟨Nat.le_refl _, fun _ => rfl⟩
theorem Sl.Ok.nil0 {s : Sl} (h : s.Ok) (e : s.a = none) : s.n = 0 := by have := h.le; have := h.nil e; omega

/-- a slice that reads as these cells -/
structure RdC (w : World) (s : Sl) (n : Nat) (xs : List Value) : Prop where
  ok : s.Ok
  n : s.n = n
  rd : Rd w s.a xs
/-- .. as these numbers -/
def RdI (w : World) (s : Sl) (l : List Int) : Prop := RdC w s l.length (il l)
/-- .. as these slices of numbers, k to an element -/
structure RdLs (w : World) (s : Sl) (k : Nat) (ls : List (List Int)) : Prop where
  ex : ∃ ss : List Sl, RdC w s s.n (ss.map Sl.v) ∧ s.n * k = ls.length ∧ ss.length = ls.length ∧ ∀ (i : Nat) t l, ss[i]? = some t → ls[i]? = some l → RdI w t l

theorem RdC.past {w W : World} {s : Sl} {n : Nat} {xs : List Value} (h : RdC w s n xs) (hb : Below w.heap.size w W) : RdC W s n xs := ⟨h.ok, h.n, h.rd.past hb⟩
theorem RdI.past {w W : World} {s : Sl} {l : List Int} (h : RdI w s l) (hb : Below w.heap.size w W) : RdI W s l := RdC.past h hb
theorem RdLs.past {w W : World} {s : Sl} {k : Nat} {ls : List (List Int)} (h : RdLs w s k ls) (hb : Below w.heap.size w W) : RdLs W s k ls := by
  obtain ⟨ss, h1, h2, h3, h4⟩ := h.ex
  exact ⟨ss, h1.past hb, h2, h3, fun i t l h5 h6 => (h4 i t l h5 h6).past hb⟩
theorem RdI.no (w : World) : RdI w Sl.no [] := ⟨Sl.Ok.no, rfl, Rd.nil _ _⟩
theorem RdI.len {w : World} {s : Sl} {l : List Int} (h : RdI w s l) : s.n = l.length := h.n
theorem RdI.cap {w : World} {s : Sl} {l : List Int} (h : RdI w s l) : l.length ≤ s.c := by have := h.ok.le; rw [← h.n]; exact this
/-- where an element lies -/
theorem RdC.ptr {w : World} {s : Sl} {n : Nat} {xs : List Value} (h : RdC w s n xs) (hx : 0 < xs.length) : ∃ b i, s.a = some ⟨b, i, none⟩ ∧ ∀ j u, xs[j]? = some u → w.cell? ⟨b, i + j, none⟩ = some u := h.rd.some hx
theorem RdI.ptr {w : World} {s : Sl} {l : List Int} (h : RdI w s l) (hx : 0 < l.length) : ∃ b i, s.a = some ⟨b, i, none⟩ ∧ ∀ j, j < l.length → w.cell? ⟨b, i + j, none⟩ = some (IV (l.getD j 0)) := by
  obtain ⟨b, i, h1, h2⟩ := RdC.ptr h (by rw [il_len]; exact hx)
  exact ⟨b, i, h1, fun j hj => h2 j _ (il_get hj)⟩
/-- in any world in which these blocks lie -/
def Rep (N : List Blk) (φ : World → Prop) : Prop := ∀ b W, Cl b N W → φ W
theorem Rep.at {N : List Blk} {φ : World → Prop} (h : Rep N φ) {b : Base} {L : List Blk} {W : World} (hW : Cl b L W) (hs : List.Sublist N L) : φ W := h b W (hW.sub hs)
theorem Rep.sub {N N' : List Blk} {φ : World → Prop} (h : Rep N φ) (hs : List.Sublist N N') : Rep N' φ := fun b W hW => h b W (hW.sub hs)
theorem Rep.mono {N : List Blk} {φ ψ : World → Prop} (h : Rep N φ) (hi : ∀ W, φ W → ψ W) : Rep N ψ := fun b W hW => hi W (h b W hW)
/-- a slice of the call's own, as what reads as numbers -/
theorem OwnSl.rep {e : TypeId} {a : Option Addr} {n c : Nat} {l : List Int} {Bs : List Blk} (hO : OwnSl e 1 a n c (il l) Bs) : Rep Bs fun W => RdI W ⟨a, n, c⟩ l := fun b W hW => by
  have hn : n = l.length := by have := hO.1; rw [il_len] at this; omega
  refine ⟨⟨?_, fun h => (hO.nilOf h).2⟩, hn, ?_⟩
  · rcases hO.2 with ⟨_, h1, h2, _⟩ | ⟨g, cur, _, _, h1, _⟩
    · simp [h1]
    · exact h1
  · exact OwnSl.rd (L := []) hO (by simpa using hW)
theorem NewSl.rep {e : TypeId} {n : Nat} {l : List Int} {v : Value} {Bs : List Blk} (h : NewSl e 1 n (il l) v Bs) : ∃ s : Sl, v = s.v ∧ s.n = l.length ∧ Rep Bs fun W => RdI W s l := by
  obtain ⟨a, c, rfl, hO⟩ := h
  refine ⟨⟨a, n, c⟩, rfl, ?_, hO.rep⟩
  have := hO.1; rw [il_len] at this; simp only; omega
end Go.Proofs.Ytoegpalacppllaa
