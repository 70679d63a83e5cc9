/- Part 2 of 4: what the law of this claim leans on -/
import Derived.Test.YtoegpalacppllaaPkH1
/- How hunts stand in memory; makers that look at other makers; appends to what is empty. No function of the program is in sight here. -/
namespace Go.Proofs.Ytoegpalacppllaa
open Go.RowKit Pl Tr Hn

/-- a slice whose elements lie in these blocks -/
def Sl.In (s : Sl) (Bs : List Blk) : Prop := s.n = 0 ∨ ∃ x ∈ Bs, ∃ i, s.a = some ⟨x.id, i, none⟩ ∧ i + s.n ≤ x.cs.length
theorem Sl.In.sub {s : Sl} {N N' : List Blk} (h : s.In N) (hs : ∀ x ∈ N, x ∈ N') : s.In N' := h.imp id fun ⟨x, hx, r⟩ => ⟨x, hs x hx, r⟩
/-- numbers in new memory -/
structure NewI (s : Sl) (l : List Int) (Bs : List Blk) : Prop where
  n : s.n = l.length
  rep : Rep Bs fun W => RdI W s l
  mem : s.In Bs
theorem NewI.no : NewI Sl.no [] [] := ⟨rfl, fun _ W _ => RdI.no W, .inl rfl⟩
theorem OwnSl.newI {e : TypeId} {a : Option Addr} {n c : Nat} {l : List Int} {Bs : List Blk} (hO : OwnSl e 1 a n c (il l) Bs) : NewI ⟨a, n, c⟩ l Bs := by
  refine ⟨by have := hO.1; rw [il_len] at this; simp only; omega, hO.rep, ?_⟩
  rcases hO.2 with ⟨_, h1, _, _⟩ | ⟨g, cur, rfl, rfl, h1, _, h2, _⟩
  · exact .inl h1
  · exact .inr ⟨⟨g, cur, e⟩, by simp, 0, rfl, by simp only; omega⟩
theorem NewI.sub {s : Sl} {l : List Int} {N N' : List Blk} (h : NewI s l N) (hs : List.Sublist N N') : NewI s l N' := ⟨h.n, h.rep.sub hs, h.mem.sub fun _ hx => hs.subset hx⟩

abbrev huC (h : Hu) (p r n : Sl) : List Value := [.int .i64 h.users, p.v, r.v, n.v, .int .i64 h.rounds]
/-- a hunt that reads as this one; ss: the sides of its pairs -/
structure RdHu (w : World) (h : Hu) (p r n : Sl) (ss : List Sl) : Prop where
  pc : RdC w p p.n (ss.map Sl.v)
  pn : p.n * 2 = ss.length
  len : ss.length = h.ps.length
  es : ∀ (i : Nat) t l, ss[i]? = some t → h.ps[i]? = some l → RdI w t l
  rest : RdI w r h.rest
  named : RdI w n h.named
theorem RdHu.past {w W : World} {h : Hu} {p r n : Sl} {ss : List Sl} (k : RdHu w h p r n ss) (hb : Below w.heap.size w W) : RdHu W h p r n ss :=
  ⟨k.pc.past hb, k.pn, k.len, fun i t l h1 h2 => (k.es i t l h1 h2).past hb, k.rest.past hb, k.named.past hb⟩

theorem OwnSl.castx {e : TypeId} {sz : Nat} {a : Option Addr} {n n' c : Nat} {xs xs' : List Value} {Bs : List Blk} (h : OwnSl e sz a n c xs Bs) (hn : n = n') (hx : xs = xs') : OwnSl e sz a n' c xs' Bs := by subst hn; subst hx; exact h
theorem getElem_two {α : Type} {l : List α} {i : Nat} (h : i + 1 < l.length) : ∃ x y, l[i]? = some x ∧ l[i + 1]? = some y ∧ l.take (i + 2) = l.take i ++ [x, y] := by
  refine ⟨l[i], l[i + 1], List.getElem?_eq_getElem (by omega), List.getElem?_eq_getElem h, ?_⟩
  show l.take (i + 1 + 1) = _
  rw [List.take_succ_eq_append_getElem h, List.take_succ_eq_append_getElem (by omega : i < l.length), List.append_assoc]
  rfl
/-- the two sides of a pair -/
theorem RdHu.side {w : World} {h : Hu} {b o pn pc : Nat} {r q : Sl} {ss : List Sl} (k : RdHu w h ⟨some ⟨b, o, none⟩, pn, pc⟩ r q ss) {i : Nat} (hi : i < pn) :
    ∃ s0 s1, ss[2 * i]? = some s0 ∧ ss[2 * i + 1]? = some s1 ∧ ss.take (2 * (i + 1)) = ss.take (2 * i) ++ [s0, s1] ∧ w.cell? ⟨b, o + i * 2 + 0, none⟩ = some s0.v ∧ w.cell? ⟨b, o + i * 2 + 1, none⟩ = some s1.v := by
  have hn := k.pn
  simp only at hn
  obtain ⟨s0, s1, h0, h1, ht⟩ := getElem_two (l := ss) (i := 2 * i) (by omega)
  refine ⟨s0, s1, h0, h1, by rw [show 2 * (i + 1) = 2 * i + 2 by omega]; exact ht, ?_, ?_⟩
  · obtain ⟨b', o', ha, hc⟩ := k.pc.rd (2 * i) s0.v (by simp [h0])
    simp only [Option.some.injEq, Addr.mk.injEq, and_true] at ha
    obtain ⟨rfl, rfl⟩ := ha
    rw [← hc]; congr 2; omega
  · obtain ⟨b', o', ha, hc⟩ := k.pc.rd (2 * i + 1) s1.v (by simp [h1])
    simp only [Option.some.injEq, Addr.mk.injEq, and_true] at ha
    obtain ⟨rfl, rfl⟩ := ha
    rw [← hc]; congr 2; omega
theorem RdHu.ptr {w : World} {h : Hu} {pa : Option Addr} {pn pc : Nat} {r q : Sl} {ss : List Sl} (k : RdHu w h ⟨pa, pn, pc⟩ r q ss) (hp : 0 < pn) : ∃ b o, pa = some ⟨b, o, none⟩ := by
  have hn := k.pn
  simp only at hn
  obtain ⟨b, o, ha, _⟩ := k.pc.ptr (by simp; omega)
  exact ⟨b, o, ha⟩
/-- a group of a hunt -/
theorem RdHu.grp {w : World} {h : Hu} {pa : Option Addr} {pn pc : Nat} {r q : Sl} {ss : List Sl} (k : RdHu w h ⟨pa, pn, pc⟩ r q ss) {i : Nat} (hi : i < 2 + 2 * pn) : ∃ s l, (r :: q :: ss)[i]? = some s ∧ (groups h)[i]? = some l ∧ RdI w s l := by
  have hn := k.pn
  have hl := k.len
  simp only at hn
  match i, hi with
  | 0, _ => exact ⟨r, h.rest, rfl, rfl, k.rest⟩
  | 1, _ => exact ⟨q, h.named, rfl, rfl, k.named⟩
  | i + 2, hi =>
    have h0 : ss[i]? = some ss[i] := List.getElem?_eq_getElem (by omega)
    have h1 : h.ps[i]? = some h.ps[i] := List.getElem?_eq_getElem (by omega)
    exact ⟨ss[i], h.ps[i], h0, h1, k.es i _ _ h0 h1⟩
theorem RdHu.gl {w : World} {h : Hu} {pa : Option Addr} {pn pc : Nat} {r q : Sl} {ss : List Sl} (k : RdHu w h ⟨pa, pn, pc⟩ r q ss) : (groups h).length = 2 + 2 * pn := by
  have hn := k.pn
  have hl := k.len
  simp only at hn
  simp [groups]; omega
/-- .. and what they read as -/
theorem RdHu.side2 {w : World} {h : Hu} {b o pn pc : Nat} {r q : Sl} {ss : List Sl} (k : RdHu w h ⟨some ⟨b, o, none⟩, pn, pc⟩ r q ss) {i : Nat} (hi : i < pn) :
    ∃ s0 s1 l0 l1, ss[2 * i]? = some s0 ∧ ss[2 * i + 1]? = some s1 ∧ h.ps[2 * i]? = some l0 ∧ h.ps[2 * i + 1]? = some l1 ∧ w.cell? ⟨b, o + i * 2 + 0, none⟩ = some s0.v ∧ w.cell? ⟨b, o + i * 2 + 1, none⟩ = some s1.v ∧ RdI w s0 l0 ∧ RdI w s1 l1 := by
  obtain ⟨s0, s1, h0, h1, _, c0, c1⟩ := k.side hi
  have hn := k.pn
  have hl := k.len
  simp only at hn
  have g0 : h.ps[2 * i]? = some h.ps[2 * i] := List.getElem?_eq_getElem (by omega)
  have g1 : h.ps[2 * i + 1]? = some h.ps[2 * i + 1] := List.getElem?_eq_getElem (by omega)
  exact ⟨s0, s1, _, _, h0, h1, g0, g1, c0, c1, k.es _ _ _ h0 g0, k.es _ _ _ h1 g1⟩
/-- a hunt in new memory -/
structure NewHu (h : Hu) (p r q : Sl) (ss : List Sl) (Bs : List Blk) : Prop where
  rep : Rep Bs fun W => RdHu W h p r q ss
  rest : r.In Bs
  named : q.In Bs
  ps : ∀ s ∈ ss, s.In Bs
def huX (h : Hu) (v : Value) (Bs : List Blk) : Prop := ∃ p r q ss, v = .agg (huC h p r q).toArray ∧ NewHu h p r q ss Bs
theorem rd_pairs_none (w : World) : RdC w Sl.no 0 (([] : List Sl).map Sl.v) := ⟨Sl.Ok.no, rfl, Rd.nil _ _⟩
/-- a slice of slices that reads as these lists -/
structure RdG (w : World) (s : Sl) (cs : List Sl) (gs : List (List Int)) : Prop where
  rd : RdC w s s.n (cs.map Sl.v)
  n : s.n = cs.length
  len : cs.length = gs.length
  es : ∀ (i : Nat) t l, cs[i]? = some t → gs[i]? = some l → RdI w t l
theorem RdG.past {w W : World} {s : Sl} {cs : List Sl} {gs : List (List Int)} (k : RdG w s cs gs) (hb : Below w.heap.size w W) : RdG W s cs gs := ⟨k.rd.past hb, k.n, k.len, fun i t l h1 h2 => (k.es i t l h1 h2).past hb⟩
theorem RdG.ptr {w : World} {a : Option Addr} {n c : Nat} {cs : List Sl} {gs : List (List Int)} (k : RdG w ⟨a, n, c⟩ cs gs) (hp : 0 < n) : ∃ b o, a = some ⟨b, o, none⟩ := by
  have hn := k.n
  simp only at hn
  obtain ⟨b, o, ha, _⟩ := k.rd.ptr (by simp; omega)
  exact ⟨b, o, ha⟩
theorem RdG.get {w : World} {b o n c : Nat} {cs : List Sl} {gs : List (List Int)} (k : RdG w ⟨some ⟨b, o, none⟩, n, c⟩ cs gs) {i : Nat} (hi : i < n) : ∃ s l, cs[i]? = some s ∧ gs[i]? = some l ∧ w.cell? ⟨b, o + i, none⟩ = some s.v ∧ RdI w s l := by
  have hn := k.n
  have hl := k.len
  simp only at hn
  have h0 : cs[i]? = some cs[i] := List.getElem?_eq_getElem (by omega)
  have h1 : gs[i]? = some gs[i] := List.getElem?_eq_getElem (by omega)
  refine ⟨_, _, h0, h1, ?_, k.es i _ _ h0 h1⟩
  obtain ⟨b', o', ha, hc⟩ := k.rd.rd i cs[i].v (by simp [h0])
  simp only [Option.some.injEq, Addr.mk.injEq, and_true] at ha
  obtain ⟨rfl, rfl⟩ := ha
  exact hc
theorem no_newHu : NewHu noHunt Sl.no Sl.no Sl.no [] [] := ⟨fun _ W _ => ⟨rd_pairs_none W, rfl, rfl, fun i t l h => by simp at h, RdI.no W, RdI.no W⟩, .inl rfl, .inl rfl, fun s hs => by cases hs⟩
theorem rest_newHu {u : Int} {l : List Int} {s : Sl} {Bs : List Blk} (h : NewI s l Bs) : NewHu ⟨u, [], l, [], 0⟩ Sl.no s Sl.no [] Bs :=
  ⟨fun b W hW => ⟨rd_pairs_none W, rfl, rfl, fun i t l h => by simp at h, h.rep b W hW, RdI.no W⟩, h.mem, .inl rfl, fun s hs => by cases hs⟩
section
variable {P : Program} {ops : Array Oper} {bs : List Value} {us : List (Nat × Value)} {ds : List Deferred} {w0 : Base} {W : World} {rest : List Oper} {o : Oper} {L : List Blk} {d : Nat} {v : Value}
variable {S : List Nat} {ks : List Kd} {ms : List Mk} {V : List (List Value)} {R : Act → St → Prop} {T : List Oper → Act → St → Prop}
theorem y_mkd (i j : Nat) {X : List Value → Value → List Blk → Prop} {z zj : List Value} {kj : Mk} (hk : ms[i]? = some ⟨d, X⟩) (hV : V[i]? = some z) (hkj : ms[j]? = some kj) (hVj : V[j]? = some zj)
    (hm : ∀ u Bs L2, Sim S L L2 → kj.X zj u Bs → MakesIn P o (ev bs ((kj.d, u) :: us)) w0 (L2 ++ Bs) (X z)) (h : lx P ops w0 S ms R T ks rest (fr bs us ds) (L, V)) : lx P ops w0 S ms R T (.mkd i j :: ks) (o :: rest) (fr bs us ds) (L, V) :=
  ⟨undef, (L, V), ⟨rfl, rfl, _, z, kj, zj, hk, hV, hkj, hVj, fun u Bs L2 hs hx => by rw [put_st, eval_ev]; exact hm u Bs L2 hs hx⟩, h⟩
theorem Cl.grown {W' : World} {g : Nat} {e : TypeId} {cs : List Value} (h : Cl w0 L W) (hg : W.grownBy W' none) (hb : W.heap.size ≤ g) (hc : W'.heap[g]? = some (.cells cs.toArray e (0, 0))) : Cl w0 (L ++ [⟨g, cs, e⟩]) W' := by
  refine h.beside ⟨⟨hg.os, hg.tape, hg.output, hg.size, fun k hk => hg.block k hk (by simp)⟩, ?_, ?_, by simp, fun k o hk _ => (hg.block k (Array.getElem?_eq_some_iff.1 hk).1 (by simp)).trans hk⟩
  · intro x hx
    obtain rfl : x = ⟨g, cs, e⟩ := by simpa using hx
    exact hc
  · intro x hx
    obtain rfl : x = ⟨g, cs, e⟩ := by simpa using hx
    exact hb
/-- an append to what has no room: nothing that was there is written -/
theorem fresh_append {t e : TypeId} {sz bytes : Nat} (hE : TyE P t e sz bytes) (hW : Cl w0 L W) (ty : TypeId) (ad : Addr) {a : Option Addr} {n c : Nat} {news : List Value} (hr : Rd W a news) (hl : news.length = n * sz) (hnil : a = none → n = 0 ∧ c = 0) (b1 : n ≤ maxLen) (b2 : n * bytes ≤ 140737488355328) :
    ∃ a' c' Bs W', (Builtin.append_ #[t, t] ty #[.slice (some ad) 0 0, .slice a n c]).run P W = .ok (.slice a' n c') W' ∧ ((n = 0 ∧ a' = some ad ∧ c' = 0 ∧ Bs = []) ∨ OwnSl e sz a' n c' news Bs) ∧ Cl w0 (L ++ Bs) W' := by
  obtain ⟨i, z, hi, hz, hsz, hby, hzs⟩ := hE.info
  have hpos := hE.pos
  by_cases hn : n = 0
  · subst hn
    refine ⟨some ad, 0, [], W, ?_, .inl ⟨rfl, rfl, rfl, rfl⟩, by simpa using hW⟩
    cases a with
    | none =>
      obtain ⟨-, rfl⟩ := hnil rfl
      simp [Builtin.append_, run_underlying hE.u, sizeOf, typeInfo, hi, Builtin.lenOf, Builtin.firstCells, storeCells]
    | some q => simp [Builtin.append_, run_underlying hE.u, sizeOf, typeInfo, hi, Builtin.lenOf, Builtin.firstCells, loadCells, loadCellsFrom, storeCells]
  · cases a with
    | none => exact absurd (hnil rfl).1 hn
    | some q =>
      have hnews : ∀ j u, news[j]? = some u → W.cell? (q.add j) = some u := fun j u hu => by
        obtain ⟨b, o, hq, hc⟩ := hr j u hu
        simp only [Option.some.injEq] at hq
        subst hq
        rw [Addr.add_lit]; exact hc
      obtain ⟨v', W', hrun, hrow, hg⟩ := run_append_arg_grows (P := P) W t ty e i z sz bytes hE.u hi hz hsz hby hzs hE.pos ad 0 0 [] (by simp) (by simp) q n c news hl hnews (by omega) (by omega) (by rw [Nat.zero_add]; exact b2)
      rw [List.nil_append, Nat.zero_add] at hrow
      rcases hrow.2 with ⟨_, h0⟩ | ⟨g, cap, cur, hv, hbg, hcell, hnc, hcm, hcs, htake⟩
      · have : news.length = 0 := by omega
        rw [hl] at this
        have := Nat.mul_pos (Nat.pos_of_ne_zero hn) hpos
        omega
      · subst hv
        exact ⟨some ⟨g, 0, none⟩, cap, [⟨g, cur.toList, e⟩], W', hrun, .inr ⟨hl, .inr ⟨g, cur.toList, rfl, rfl, hnc, hcm, by simpa using hcs, htake⟩⟩, hW.grown hg hbg (by simpa using hcell)⟩

/-- numbers that are appended to what is empty -/
def twX (l : List Int) (_ : List Value) (v : Value) (Bs : List Blk) : Prop := ∃ s : Sl, v = s.v ∧ NewI s l Bs
theorem fresh_ints {t e : TypeId} {bytes : Nat} (hE : TyE P t e 1 bytes) (hW : Cl w0 L W) (ty : TypeId) (ad : Addr) {s : Sl} {l : List Int} (hr : RdI W s l) (b2 : l.length * bytes ≤ 140737488355328) (b3 : l.length ≤ 4294967296) :
    ∃ v Bs W', (Builtin.append_ #[t, t] ty #[.slice (some ad) 0 0, s.v]).run P W = .ok v W' ∧ twX l [] v Bs ∧ Cl w0 (L ++ Bs) W' := by
  have hn := hr.len
  obtain ⟨a', c', Bs, W', h1, h2, h3⟩ := fresh_append hE hW ty ad (n := s.n) (c := s.c) hr.rd (by rw [il_len]; omega) (fun h => ⟨hr.ok.nil0 h, hr.ok.nil h⟩) (by unfold maxLen; omega) (by rw [hn]; exact b2)
  refine ⟨_, Bs, W', h1, ?_, h3⟩
  rcases h2 with ⟨h0, rfl, rfl, rfl⟩ | h2
  · have : l = [] := List.eq_nil_of_length_eq_zero (by omega)
    subst this
    rw [h0]
    exact ⟨⟨some ad, 0, 0⟩, rfl, rfl, fun _ _ _ => ⟨⟨Nat.le_refl _, fun h => by cases h⟩, rfl, Rd.nil _ _⟩, .inl rfl⟩
  · exact ⟨⟨a', s.n, c'⟩, rfl, h2.newI⟩
/-- .. among operations that change places -/
theorem y_twin (i j : Nat) {t e e2 bytes : Nat} (hE : TyE P t e 1 bytes) {s : Sl} {l : List Int} {z : List Value} {dj : Tmp} {y x : Operand} (hk : ms[i]? = some ⟨d, twX l⟩) (hV : V[i]? = some z) (hkj : ms[j]? = some ⟨dj, bslX e2 0⟩) (hVj : V[j]? = some [])
    (hr : ∀ L2 w, Sim S L L2 → Cl w0 L2 w → RdI w s l) (b2 : l.length * bytes ≤ 140737488355328) (b3 : l.length ≤ 4294967296) (ho : o.op = .call { callee := .builtin .append, args := #[y, x], argTypes := #[t, t] }) (hy : ∀ u, ev bs ((dj, u) :: us) y = u) (hx : ∀ u, ev bs ((dj, u) :: us) x = s.v)
    (h : lx P ops w0 S ms R T ks rest (fr bs us ds) (L, V)) : lx P ops w0 S ms R T (.mkd i j :: ks) (o :: rest) (fr bs us ds) (L, V) := by
  refine y_mkd i j hk hV hkj hVj (fun u Bs L2 hs hX w hC => .inl ?_) h
  obtain ⟨g, rfl, rfl⟩ := hX
  obtain ⟨v, Bs', W', h1, h2, h3⟩ := fresh_ints hE hC o.type ⟨g, 0, none⟩ (hr L2 w hs (hC.sub (List.sublist_append_left _ _))) b2 b3
  exact ⟨v, Bs', W', run_append_op ho (hy _) (hx _) h1, h2, h3⟩
end
end Go.Proofs.Ytoegpalacppllaa

/- A law's arguments that are hunts. No function of the program is in sight here. -/
namespace Go.Proofs.Ytoegpalacppllaa
open Go.RowKit Pl Tr Hn

/-- a pair of lists: what its type must be like -/
structure TyP (P : Program) (t : TypeId) : Prop where
  ex : ∃ (f0 f1 : Field) (e0 e1 : TypeId), P.underlying t = some (.struct #[f0, f1]) ∧ P.cellsOf t = 2 ∧ P.bytesOf t = 48 ∧ f0.offset = 0 ∧ f1.offset = 1 ∧ P.cellsOf f0.type = 1 ∧ P.cellsOf f1.type = 1 ∧
    P.underlying f0.type = some (.slice e0) ∧ P.underlying f1.type = some (.slice e1) ∧ P.underlying e0 = some (.int .i64) ∧ P.underlying e1 = some (.int .i64) ∧ P.cellsOf e0 = 1 ∧ P.cellsOf e1 = 1 ∧ P.bytesOf e0 = 8 ∧ P.bytesOf e1 = 8
/-- a hunt -/
structure TyHu (P : Program) (t : TypeId) : Prop where
  ex : ∃ (f0 f1 f2 f3 f4 : Field) (p e2 e3 : TypeId), P.underlying t = some (.struct #[f0, f1, f2, f3, f4]) ∧ P.cellsOf t = 5 ∧ f0.offset = 0 ∧ f1.offset = 1 ∧ f2.offset = 2 ∧ f3.offset = 3 ∧ f4.offset = 4 ∧
    P.cellsOf f0.type = 1 ∧ P.cellsOf f1.type = 1 ∧ P.cellsOf f2.type = 1 ∧ P.cellsOf f3.type = 1 ∧ P.cellsOf f4.type = 1 ∧ P.underlying f0.type = some (.int .i64) ∧ P.underlying f1.type = some (.slice p) ∧ TyP P p ∧
    P.underlying f2.type = some (.slice e2) ∧ P.underlying f3.type = some (.slice e3) ∧ P.underlying f4.type = some (.int .i64) ∧ P.underlying e2 = some (.int .i64) ∧ P.underlying e3 = some (.int .i64) ∧ P.cellsOf e2 = 1 ∧ P.cellsOf e3 = 1 ∧ P.bytesOf e2 = 8 ∧ P.bytesOf e3 = 8
section
variable {P : Program} {W : World}
theorem two {cs : List Value} (h : cs.length = 2) : ∃ a b, cs = [a, b] := by
  match cs, h with
  | [a, b], _ => exact ⟨a, b, rfl⟩
theorem five {cs : List Value} (h : cs.length = 5) : ∃ a b c d e, cs = [a, b, c, d, e] := by
  match cs, h with
  | [a, b, c, d, e], _ => exact ⟨a, b, c, d, e, rfl⟩
theorem TC.pair {t : TypeId} {cs : List Value} (h : TC P W t cs) (hT : TyP P t) : ∃ (s0 s1 : Sl) (l0 l1 : List Int), cs = [s0.v, s1.v] ∧ RdI W s0 l0 ∧ RdI W s1 l1 ∧ s0.c ≤ 17592186043904 ∧ s1.c ≤ 17592186043904 := by
  obtain ⟨f0, f1, e0, e1, hu, hc, _, o0, o1, c0, c1, u0, u1, i0, i1, d0, d1, b0, b1⟩ := hT.ex
  obtain ⟨hl, hf⟩ := h.struct hu
  rw [hc] at hl
  obtain ⟨x0, x1, rfl⟩ := two hl
  have h0 := hf 0 f0 rfl
  have h1 := hf 1 f1 rfl
  rw [o0, c0] at h0
  rw [o1, c1] at h1
  obtain ⟨s0, l0, k0, r0, m0, _⟩ := h0.ints u0 i0 d0 b0
  obtain ⟨s1, l1, k1, r1, m1, _⟩ := h1.ints u1 i1 d1 b1
  simp at k0 k1
  subst k0; subst k1
  exact ⟨s0, s1, l0, l1, rfl, r0, r1, m0, m1⟩
theorem TC.pairs {t e : TypeId} {cs : List Value} (h : TC P W t cs) (ht : P.underlying t = some (.slice e)) (hT : TyP P e) : ∃ (p : Sl) (ss : List Sl) (ps : List (List Int)), cs = [p.v] ∧ RdC W p p.n (ss.map Sl.v) ∧ p.n * 2 = ss.length ∧ ss.length = ps.length ∧
    (∀ (i : Nat) s l, ss[i]? = some s → ps[i]? = some l → RdI W s l) ∧ (∀ l ∈ ps, l.length ≤ 17592186043904) ∧ p.n * 48 ≤ 140737488351232 := by
  obtain ⟨_, _, _, _, _, hce, hbe, _⟩ := hT.ex
  obtain ⟨p, cc, rfl, hok, hm, hcap, hn, hcc, hrd⟩ := h.slice ht hce (by decide)
  rw [hbe] at hcap
  simp only [reachBytes] at hcap
  have key : ∀ L : List (List Value), (∀ c ∈ L, TC P W e c) → ∃ (ss : List Sl) (ps : List (List Int)), L.flatten = ss.map Sl.v ∧ ss.length = L.length * 2 ∧ ss.length = ps.length ∧ (∀ (i : Nat) s l, ss[i]? = some s → ps[i]? = some l → RdI W s l) ∧ ∀ l ∈ ps, l.length ≤ 17592186043904 := by
    intro L
    induction L with
    | nil => intro _; exact ⟨[], [], rfl, rfl, rfl, fun i s l h => by simp at h, by simp⟩
    | cons c L ih =>
      intro hL
      obtain ⟨ss, ps, e1, e2, e3, e4, e5⟩ := ih fun c hc => hL c (by simp [hc])
      obtain ⟨s0, s1, l0, l1, rfl, r0, r1, m0, m1⟩ := (hL c (by simp)).pair hT
      refine ⟨s0 :: s1 :: ss, l0 :: l1 :: ps, by rw [List.flatten_cons, e1]; rfl, by simp only [List.length_cons]; omega, by simp only [List.length_cons]; omega, fun i s l hs hl => ?_, fun l hl => ?_⟩
      · match i with
        | 0 => simp only [List.getElem?_cons_zero, Option.some.injEq] at hs hl; subst hs; subst hl; exact r0
        | 1 => simp only [List.getElem?_cons_succ, List.getElem?_cons_zero, Option.some.injEq] at hs hl; subst hs; subst hl; exact r1
        | i + 2 => simp only [List.getElem?_cons_succ] at hs hl; exact e4 i s l hs hl
      · simp only [List.mem_cons] at hl
        rcases hl with rfl | rfl | hl
        · have := r0.cap; omega
        · have := r1.cap; omega
        · exact e5 l hl
  obtain ⟨ss, ps, e1, e2, e3, e4, e5⟩ := key cc fun c hc => (hcc c hc).2
  rw [e1] at hrd
  have hle := hok.le
  exact ⟨p, ss, ps, rfl, ⟨hok, rfl, hrd⟩, by omega, e3, e4, e5, by omega⟩
theorem TC.hunt {t : TypeId} {cs : List Value} (h : TC P W t cs) (hT : TyHu P t) : ∃ (k : Hu) (p r q : Sl) (ss : List Sl), cs = huC k p r q ∧ RdHu W k p r q ss ∧ p.n * 48 ≤ 140737488351232 ∧ ∀ l ∈ groups k, l.length ≤ 17592186043904 := by
  obtain ⟨f0, f1, f2, f3, f4, p, e2, e3, hu, hc, o0, o1, o2, o3, o4, c0, c1, c2, c3, c4, u0, u1, hP, u2, u3, u4, i2, i3, d2, d3, b2, b3⟩ := hT.ex
  obtain ⟨hl, hf⟩ := h.struct hu
  rw [hc] at hl
  obtain ⟨x0, x1, x2, x3, x4, rfl⟩ := five hl
  have h0 := hf 0 f0 rfl
  have h1 := hf 1 f1 rfl
  have h2 := hf 2 f2 rfl
  have h3 := hf 3 f3 rfl
  have h4 := hf 4 f4 rfl
  rw [o0, c0] at h0
  rw [o1, c1] at h1
  rw [o2, c2] at h2
  rw [o3, c3] at h3
  rw [o4, c4] at h4
  obtain ⟨n0, k0, _⟩ := h0.int u0
  obtain ⟨pp, ss, ps, k1, rd, l1, l2, es, hm, hfit⟩ := h1.pairs u1 hP
  obtain ⟨r, lr, k2, rr, mr, _⟩ := h2.ints u2 i2 d2 b2
  obtain ⟨q, lq, k3, rq, mq, _⟩ := h3.ints u3 i3 d3 b3
  obtain ⟨n4, k4, _⟩ := h4.int u4
  simp at k0 k1 k2 k3 k4
  subst k0; subst k1; subst k2; subst k3; subst k4
  refine ⟨⟨n0, ps, lr, lq, n4⟩, pp, r, q, ss, rfl, ⟨rd, l1, l2, es, rr, rq⟩, hfit, fun l hl => ?_⟩
  simp only [groups, List.mem_cons] at hl
  rcases hl with rfl | rfl | hl
  · have := rr.cap; omega
  · have := rq.cap; omega
  · exact hm l hl
theorem ArgOf.hunt {t : TypeId} {v : Value} (h : ArgOf P W t v) (hT : TyHu P t) : ∃ (k : Hu) (pa : Option Addr) (pn pc : Nat) (r q : Sl) (ss : List Sl), v = .agg (huC k ⟨pa, pn, pc⟩ r q).toArray ∧ RdHu W k ⟨pa, pn, pc⟩ r q ss ∧ pn * 48 ≤ 140737488351232 ∧ ∀ l ∈ groups k, l.length ≤ 17592186043904 := by
  obtain ⟨f0, f1, f2, f3, f4, p, e2, e3, hu, _⟩ := hT.ex
  obtain ⟨cs, rfl, h2⟩ := h.agg hu
  obtain ⟨k, ⟨pa, pn, pc⟩, r, q, ss, rfl, hr, hf, hl⟩ := h2.hunt hT
  exact ⟨k, pa, pn, pc, r, q, ss, rfl, hr, hf, hl⟩
end
end Go.Proofs.Ytoegpalacppllaa

/- Closed facts on the types of the laws' arguments, written by a program. -/
namespace Go.Proofs.Ytoegpalacppllaa
open Pl
theorem tyP99 : TyP Try.prog 99 := ⟨_, _, _, _, Try.underlying99, by kernel_rfl, by kernel_rfl, rfl, rfl, by kernel_rfl, by kernel_rfl, Try.underlying35, Try.underlying35, Try.underlying3, Try.underlying3, by kernel_rfl, by kernel_rfl, by kernel_rfl, by kernel_rfl⟩
theorem tyHu52 : TyHu Try.prog 52 := ⟨_, _, _, _, _, _, _, _, Try.underlying52, by kernel_rfl, rfl, rfl, rfl, rfl, rfl, by kernel_rfl, by kernel_rfl, by kernel_rfl, by kernel_rfl, by kernel_rfl, Try.underlying3, Try.underlying50, tyP99, Try.underlying35, Try.underlying35, Try.underlying3, Try.underlying3, Try.underlying3, by kernel_rfl, by kernel_rfl, by kernel_rfl, by kernel_rfl⟩
end Go.Proofs.Ytoegpalacppllaa

/- Lists of numbers. -/
namespace Go.Proofs.Ytoegpalacppllaa
open Go.RowKit Pl
open Tr Hn
set_option maxRecDepth 10000 in
/-- headend/headendref08.in -/
theorem g_rin (aa : Option Addr) (an ac : Nat) (l : List Int) (x : Int) (hl : l.length ≤ 4294967296) : GivesR Try.prog 79 [.slice aa an ac, .int .i64 x].toArray (fun w => RdI w ⟨aa, an, ac⟩ l) (.bool (l.contains x)) := by
  refine givesR_of Try.func79 rfl (bs := [.slice aa an ac, .int .i64 x, undef, undef, undef, undef, undef, undef, undef, undef, undef, undef, undef, undef, undef, undef, undef, undef]) rfl ?_
  intro w hP hW
  have hn : an = l.length := hP.len
  refine c_seq ?_
  refine c_reg ?_
  refine l_val (r_assign (v := .bool _) rfl rfl) rfl rfl ?_
  refine l_end ?_
  refine n_then ?_
  refine c_seq ?_
  refine c_seq ?_
  refine c_reg ?_
  refine l_val (r_assign (v := .int _ _) rfl rfl) rfl rfl ?_
  refine l_end ?_
  refine n_then ?_
  refine c_block ?_
  refine c_loop (fun (i : Nat) (j : Nat → Value) => [.slice aa an ac, .int .i64 x, j 2, j 3, j 4, .int .i64 (i : Int), j 6, j 7, j 8, j 9, j 10, j 11, j 12, j 13, j 14, j 15, j 16, j 17]) (fun (i : Nat) => []) (fun (i : Nat) => i ≤ an ∧ ∀ k, k < i → at_ l k ≠ x) (fun (i : Nat) => an - i) 0 (by kernel_rfl) hW ⟨by omega, all_zero⟩ ?_
  intro i j W hx hW
  refine c_seq ?_
  refine c_seq ?_
  refine c_reg ?_
  refine l_val (r_move (v := .int _ _) rfl rfl) rfl rfl ?_
  refine l_val (r_move (v := .slice _ _ _) rfl rfl) rfl rfl ?_
  refine l_val (r_lenSlice Try.underlying35 rfl rfl) rfl rfl ?_
  refine l_val (r_lssN rfl rfl rfl rfl) rfl rfl ?_
  refine l_split ?_ ?_
  · intro hc1
    replace hc1 := of_decide_eq_true hc1
    obtain ⟨b0, o0, ha, hc⟩ := hP.ptr (by omega)
    simp only at ha
    subst ha
    refine l_end ?_
    refine n_then ?_
    refine c_true rfl ?_
    refine c_skip ?_
    refine n_then ?_
    refine c_seq ?_
    refine c_block ?_
    refine c_seq ?_
    refine c_reg ?_
    refine l_val (r_move (v := .slice _ _ _) rfl rfl) rfl rfl ?_
    refine l_val (r_move (v := .int _ _) rfl rfl) rfl rfl ?_
    refine l_val (r_indexAddrSl2 (n := i) Try.underlying35 tyC3.size rfl rfl rfl (by omega)) rfl rfl ?_
    refine l_loadF hW tyC3 (v := .int .i64 (at_ l (i))) (hc (i) (by omega)) rfl rfl rfl rfl ?_
    refine l_val (r_move (v := .int _ _) rfl rfl) rfl rfl ?_
    refine l_val (r_eql rfl rfl rfl rfl) rfl rfl ?_
    refine l_split ?_ ?_
    · intro hc2
      replace hc2 := of_decide_eq_true hc2
      refine l_end ?_
      refine n_then ?_
      refine c_true rfl ?_
      refine c_seq ?_
      refine c_reg ?_
      refine l_val (r_assign (v := .bool _) rfl rfl) rfl rfl ?_
      refine l_end ?_
      refine n_then ?_
      refine c_ret ?_
      refine r_block ?_
      refine r_then ?_
      refine r_then ?_
      refine r_block ?_
      refine r_then ?_
      refine ret_tmp (v := .bool (l.contains x)) rfl ?_ ⟨rfl, hW.below⟩
      rw [has_at (by omega) hc2]; rfl
    · intro hc2
      replace hc2 := of_decide_eq_false hc2
      refine l_end ?_
      refine n_then ?_
      refine c_false rfl ?_
      refine c_skip ?_
      refine n_block ?_
      refine n_then ?_
      refine c_reg ?_
      refine l_val (r_move (v := .int _ _) rfl rfl) rfl rfl ?_
      refine l_val (r_addN (n := 1) rfl rfl rfl (by omega)) rfl rfl ?_
      refine l_val (r_assign (v := .int _ _) rfl rfl) rfl rfl ?_
      refine l_end ?_
      refine n_then ?_
      exact loop_next (i + 1) (by kernel_rfl) hW ⟨by omega, all_step hx.2 hc2⟩ (by omega)
  · intro hc1
    replace hc1 := of_decide_eq_false hc1
    refine l_end ?_
    refine n_then ?_
    refine c_false rfl ?_
    refine c_exit ?_
    refine x_then ?_
    refine x_then ?_
    refine x_hit ?_
    refine n_then ?_
    refine c_seq ?_
    refine c_reg ?_
    refine l_val (r_assign (v := .bool _) rfl rfl) rfl rfl ?_
    refine l_end ?_
    refine n_then ?_
    refine c_ret ?_
    refine ret_tmp (v := .bool (l.contains x)) rfl ?_ ⟨rfl, hW.below⟩
    rw [has_no hn fun k hk => hx.2 k (by omega)]; rfl

set_option maxRecDepth 10000 in
/-- headend/headendref08.Users -/
theorem g_Users (aa : Option Addr) (an ac : Nat) (l : List Int) (m : Int) (hl : l.length ≤ 4294967296) : GivesR Try.prog 78 [.slice aa an ac, .int .i64 m].toArray (fun w => RdI w ⟨aa, an, ac⟩ l) (.bool (usersB l m)) := by
  refine givesR_of Try.func78 rfl (bs := [.slice aa an ac, .int .i64 m, undef, undef, undef, undef, undef, undef, undef, undef, undef, undef, undef, undef, undef, undef, undef, undef, undef, undef, undef, undef, undef, undef, undef, undef, undef, undef, undef, undef, undef, undef, undef, undef, undef, undef, undef, undef, undef, undef, undef]) rfl ?_
  intro w hP hW
  have hn : an = l.length := hP.len
  refine c_seq ?_
  refine c_reg ?_
  refine l_val (r_assign (v := .bool _) rfl rfl) rfl rfl ?_
  refine l_end ?_
  refine n_then ?_
  refine c_seq ?_
  refine c_seq ?_
  refine c_reg ?_
  refine l_val (r_assign (v := .int _ _) rfl rfl) rfl rfl ?_
  refine l_end ?_
  refine n_then ?_
  refine c_block ?_
  refine c_loop (fun (i : Nat) (j : Nat → Value) => [.slice aa an ac, .int .i64 m, j 2, j 3, j 4, .int .i64 (i : Int), j 6, j 7, j 8, j 9, j 10, j 11, j 12, j 13, j 14, j 15, j 16, j 17, j 18, j 19, j 20, j 21, j 22, j 23, j 24, j 25, j 26, j 27, j 28, j 29, j 30, j 31, j 32, j 33, j 34, j 35, j 36, j 37, j 38, j 39, j 40]) (fun (i : Nat) => []) (fun (i : Nat) => i ≤ an ∧ ∀ k, k < i → 0 ≤ at_ l k ∧ at_ l k < m ∧ (k = 0 ∨ at_ l (k - 1) < at_ l k)) (fun (i : Nat) => an - i) 0 (by kernel_rfl) hW ⟨by omega, all_zero⟩ ?_
  intro i j W hx hW
  refine c_seq ?_
  refine c_seq ?_
  refine c_reg ?_
  refine l_val (r_move (v := .int _ _) rfl rfl) rfl rfl ?_
  refine l_val (r_move (v := .slice _ _ _) rfl rfl) rfl rfl ?_
  refine l_val (r_lenSlice Try.underlying35 rfl rfl) rfl rfl ?_
  refine l_val (r_lssN rfl rfl rfl rfl) rfl rfl ?_
  refine l_split ?_ ?_
  · intro hc1
    replace hc1 := of_decide_eq_true hc1
    obtain ⟨b0, o0, ha, hc⟩ := hP.ptr (by omega)
    simp only at ha
    subst ha
    refine l_end ?_
    refine n_then ?_
    refine c_true rfl ?_
    refine c_skip ?_
    refine n_then ?_
    refine c_seq ?_
    refine c_block ?_
    refine c_seq ?_
    refine c_regY hW [] [.q, .q, .q, .q, .q, .q, .q, .q, .q, .q, .q, .q, .q, .q, .q, .q, .q, .q, .q, .q, .q, .q, .q, .q, .q, .q, .q, .q, .q] [0, 0, 3, 7, 15, 31, 63, 63, 255, 511, 63, 2047, 4095, 8191, 16383, 32767, 65535, 131071, 131071, 524287, 1048575, 131071, 131071, 4325375, 14811135, 31588351, 67108863, 134217727, 268435455] (by kernel_rfl) (by kernel_rfl) ?_
    refine y_val (r_move (v := .slice _ _ _) rfl rfl) rfl rfl ?_
    refine y_val (r_move (v := .int _ _) rfl rfl) rfl rfl ?_
    refine y_val (r_indexAddrSl2 (n := i) Try.underlying35 tyC3.size rfl rfl rfl (by omega)) rfl rfl ?_
    refine y_loadF tyC3 (v := .int .i64 (at_ l (i))) (hc (i) (by omega)) (by kernel_rfl) rfl rfl rfl ?_
    refine y_val (r_lss rfl rfl rfl rfl) rfl rfl ?_
    refine y_split ?_ ?_
    · intro hc2
      replace hc2 := of_decide_eq_true hc2
      refine y_val (r_move (v := .bool _) rfl rfl) rfl rfl ?_
      refine y_not (by kernel_rfl) rfl ?_
      refine y_not (by kernel_rfl) rfl ?_
      refine y_not (by kernel_rfl) rfl ?_
      refine y_not (by kernel_rfl) rfl ?_
      refine y_not (by kernel_rfl) rfl ?_
      refine y_not (by kernel_rfl) rfl ?_
      refine y_val (r_pick (v := .bool _) rfl rfl rfl) rfl rfl ?_
      refine y_val (r_move (v := .bool _) rfl rfl) rfl rfl ?_
      refine y_not (by kernel_rfl) rfl ?_
      refine y_not (by kernel_rfl) rfl ?_
      refine y_not (by kernel_rfl) rfl ?_
      refine y_not (by kernel_rfl) rfl ?_
      refine y_not (by kernel_rfl) rfl ?_
      refine y_not (by kernel_rfl) rfl ?_
      refine y_not (by kernel_rfl) rfl ?_
      refine y_not (by kernel_rfl) rfl ?_
      refine y_not (by kernel_rfl) rfl ?_
      refine y_not (by kernel_rfl) rfl ?_
      refine y_not (by kernel_rfl) rfl ?_
      refine y_not (by kernel_rfl) rfl ?_
      refine y_not (by kernel_rfl) rfl ?_
      refine y_not (by kernel_rfl) rfl ?_
      refine y_val (r_pick (v := .bool _) rfl rfl rfl) rfl rfl ?_
      refine y_end ?_
      intro W hW
      refine n_then ?_
      refine c_true rfl ?_
      refine c_seq ?_
      refine c_reg ?_
      refine l_val (r_assign (v := .bool _) rfl rfl) rfl rfl ?_
      refine l_end ?_
      refine n_then ?_
      refine c_ret ?_
      refine r_block ?_
      refine r_then ?_
      refine r_then ?_
      refine r_block ?_
      refine r_then ?_
      refine ret_tmp (v := .bool (usersB l m)) rfl ?_ ⟨rfl, hW.below⟩
      rw [users_no (i := i) (by omega) (by omega)]; rfl
    · intro hc2
      replace hc2 := of_decide_eq_false hc2
      refine y_val (r_move (v := .bool _) rfl rfl) rfl rfl ?_
      refine y_val (r_move (v := .slice _ _ _) rfl rfl) (by kernel_rfl) rfl ?_
      refine y_val (r_move (v := .int _ _) rfl rfl) (by kernel_rfl) rfl ?_
      refine y_val (r_indexAddrSl2 (n := i) Try.underlying35 tyC3.size rfl rfl rfl (by omega)) (by kernel_rfl) rfl ?_
      refine y_loadF tyC3 (v := .int .i64 (at_ l (i))) (hc (i) (by omega)) (by kernel_rfl) rfl rfl rfl ?_
      refine y_val (r_move (v := .int _ _) rfl rfl) (by kernel_rfl) rfl ?_
      refine y_val (r_geq rfl rfl rfl rfl) (by kernel_rfl) rfl ?_
      refine y_split ?_ ?_
      · intro hc3
        replace hc3 := of_decide_eq_true hc3
        refine y_val (r_pick (v := .bool _) rfl rfl rfl) rfl rfl ?_
        refine y_val (r_move (v := .bool _) rfl rfl) rfl rfl ?_
        refine y_not (by kernel_rfl) rfl ?_
        refine y_not (by kernel_rfl) rfl ?_
        refine y_not (by kernel_rfl) rfl ?_
        refine y_not (by kernel_rfl) rfl ?_
        refine y_not (by kernel_rfl) rfl ?_
        refine y_not (by kernel_rfl) rfl ?_
        refine y_not (by kernel_rfl) rfl ?_
        refine y_not (by kernel_rfl) rfl ?_
        refine y_not (by kernel_rfl) rfl ?_
        refine y_not (by kernel_rfl) rfl ?_
        refine y_not (by kernel_rfl) rfl ?_
        refine y_not (by kernel_rfl) rfl ?_
        refine y_not (by kernel_rfl) rfl ?_
        refine y_not (by kernel_rfl) rfl ?_
        refine y_val (r_pick (v := .bool _) rfl rfl rfl) rfl rfl ?_
        refine y_end ?_
        intro W hW
        refine n_then ?_
        refine c_true rfl ?_
        refine c_seq ?_
        refine c_reg ?_
        refine l_val (r_assign (v := .bool _) rfl rfl) rfl rfl ?_
        refine l_end ?_
        refine n_then ?_
        refine c_ret ?_
        refine r_block ?_
        refine r_then ?_
        refine r_then ?_
        refine r_block ?_
        refine r_then ?_
        refine ret_tmp (v := .bool (usersB l m)) rfl ?_ ⟨rfl, hW.below⟩
        rw [users_no (i := i) (by omega) (by omega)]; rfl
      · intro hc3
        replace hc3 := of_decide_eq_false hc3
        refine y_val (r_pick (v := .bool _) rfl rfl rfl) rfl rfl ?_
        refine y_val (r_move (v := .bool _) rfl rfl) rfl rfl ?_
        refine y_val (r_move (v := .int _ _) rfl rfl) (by kernel_rfl) rfl ?_
        refine y_val (r_gtrN (n := 0) rfl rfl rfl rfl) (by kernel_rfl) rfl ?_
        refine y_split ?_ ?_
        · intro hc4
          replace hc4 := of_decide_eq_true hc4
          refine y_val (r_move (v := .bool _) rfl rfl) (by kernel_rfl) rfl ?_
          refine y_val (r_move (v := .slice _ _ _) rfl rfl) (by kernel_rfl) rfl ?_
          refine y_val (r_move (v := .int _ _) rfl rfl) (by kernel_rfl) rfl ?_
          refine y_val (r_indexAddrSl2 (n := i) Try.underlying35 tyC3.size rfl rfl rfl (by omega)) (by kernel_rfl) rfl ?_
          refine y_loadF tyC3 (v := .int .i64 (at_ l (i))) (hc (i) (by omega)) (by kernel_rfl) rfl rfl rfl ?_
          refine y_val (r_move (v := .slice _ _ _) rfl rfl) (by kernel_rfl) rfl ?_
          refine y_val (r_move (v := .int _ _) rfl rfl) (by kernel_rfl) rfl ?_
          refine y_val (r_subN (n := 1) rfl rfl rfl (by omega) (by omega)) (by kernel_rfl) rfl ?_
          refine y_val (r_indexAddrSl2 (n := (i - 1)) Try.underlying35 tyC3.size rfl rfl rfl (by omega)) (by kernel_rfl) rfl ?_
          refine y_loadF tyC3 (v := .int .i64 (at_ l (i - 1))) (hc (i - 1) (by omega)) (by kernel_rfl) rfl rfl rfl ?_
          refine y_val (r_leq rfl rfl rfl rfl) (by kernel_rfl) rfl ?_
          refine y_split ?_ ?_
          · intro hc5
            replace hc5 := of_decide_eq_true hc5
            refine y_val (r_pick (v := .bool _) rfl rfl rfl) (by kernel_rfl) rfl ?_
            refine y_val (r_pick (v := .bool _) rfl rfl rfl) rfl rfl ?_
            refine y_end ?_
            intro W hW
            refine n_then ?_
            refine c_true rfl ?_
            refine c_seq ?_
            refine c_reg ?_
            refine l_val (r_assign (v := .bool _) rfl rfl) rfl rfl ?_
            refine l_end ?_
            refine n_then ?_
            refine c_ret ?_
            refine r_block ?_
            refine r_then ?_
            refine r_then ?_
            refine r_block ?_
            refine r_then ?_
            refine ret_tmp (v := .bool (usersB l m)) rfl ?_ ⟨rfl, hW.below⟩
            rw [users_no (i := i) (by omega) (by omega)]; rfl
          · intro hc5
            replace hc5 := of_decide_eq_false hc5
            refine y_val (r_pick (v := .bool _) rfl rfl rfl) (by kernel_rfl) rfl ?_
            refine y_val (r_pick (v := .bool _) rfl rfl rfl) rfl rfl ?_
            refine y_end ?_
            intro W hW
            refine n_then ?_
            refine c_false rfl ?_
            refine c_skip ?_
            refine n_block ?_
            refine n_then ?_
            refine c_reg ?_
            refine l_val (r_move (v := .int _ _) rfl rfl) rfl rfl ?_
            refine l_val (r_addN (n := 1) rfl rfl rfl (by omega)) rfl rfl ?_
            refine l_val (r_assign (v := .int _ _) rfl rfl) rfl rfl ?_
            refine l_end ?_
            refine n_then ?_
            exact loop_next (i + 1) (by kernel_rfl) hW ⟨by omega, all_step hx.2 (by omega)⟩ (by omega)
        · intro hc4
          replace hc4 := of_decide_eq_false hc4
          refine y_val (r_move (v := .bool _) rfl rfl) (by kernel_rfl) rfl ?_
          refine y_not (by kernel_rfl) rfl ?_
          refine y_not (by kernel_rfl) rfl ?_
          refine y_not (by kernel_rfl) rfl ?_
          refine y_not (by kernel_rfl) rfl ?_
          refine y_not (by kernel_rfl) rfl ?_
          refine y_not (by kernel_rfl) rfl ?_
          refine y_not (by kernel_rfl) rfl ?_
          refine y_not (by kernel_rfl) rfl ?_
          refine y_not (by kernel_rfl) rfl ?_
          refine y_not (by kernel_rfl) rfl ?_
          refine y_val (r_pick (v := .bool _) rfl rfl rfl) (by kernel_rfl) rfl ?_
          refine y_val (r_pick (v := .bool _) rfl rfl rfl) rfl rfl ?_
          refine y_end ?_
          intro W hW
          refine n_then ?_
          refine c_false rfl ?_
          refine c_skip ?_
          refine n_block ?_
          refine n_then ?_
          refine c_reg ?_
          refine l_val (r_move (v := .int _ _) rfl rfl) rfl rfl ?_
          refine l_val (r_addN (n := 1) rfl rfl rfl (by omega)) rfl rfl ?_
          refine l_val (r_assign (v := .int _ _) rfl rfl) rfl rfl ?_
          refine l_end ?_
          refine n_then ?_
          exact loop_next (i + 1) (by kernel_rfl) hW ⟨by omega, all_step hx.2 (by omega)⟩ (by omega)
  · intro hc1
    replace hc1 := of_decide_eq_false hc1
    refine l_end ?_
    refine n_then ?_
    refine c_false rfl ?_
    refine c_exit ?_
    refine x_then ?_
    refine x_then ?_
    refine x_hit ?_
    refine n_then ?_
    refine c_seq ?_
    refine c_reg ?_
    refine l_val (r_assign (v := .bool _) rfl rfl) rfl rfl ?_
    refine l_end ?_
    refine n_then ?_
    refine c_ret ?_
    refine ret_tmp (v := .bool (usersB l m)) rfl ?_ ⟨rfl, hW.below⟩
    rw [users_yes hn fun k hk => hx.2 k (by omega)]; rfl

set_option maxRecDepth 10000 in
/-- headend/headendref03.SameInts -/
theorem g_SameInts (aa : Option Addr) (an ac : Nat) (l : List Int) (ba : Option Addr) (bn bc : Nat) (m : List Int) (hl : l.length ≤ 4294967296) : GivesR Try.prog 26 [.slice aa an ac, .slice ba bn bc].toArray (fun w => RdI w ⟨aa, an, ac⟩ l ∧ RdI w ⟨ba, bn, bc⟩ m) (.bool (decide (l = m))) := by
  refine givesR_of Try.func26 rfl (bs := [.slice aa an ac, .slice ba bn bc, undef, undef, undef, undef, undef, undef, undef, undef, undef, undef, undef, undef, undef, undef, undef, undef, undef, undef, undef, undef, undef, undef, undef, undef]) rfl ?_
  intro w hP hW
  have hn : an = l.length := hP.1.len
  have hm : bn = m.length := hP.2.len
  refine c_seq ?_
  refine c_reg ?_
  refine l_val (r_assign (v := .bool _) rfl rfl) rfl rfl ?_
  refine l_end ?_
  refine n_then ?_
  refine c_seq ?_
  refine c_seq ?_
  refine c_reg ?_
  refine l_val (r_move (v := .slice _ _ _) rfl rfl) rfl rfl ?_
  refine l_val (r_lenSlice Try.underlying35 rfl rfl) rfl rfl ?_
  refine l_val (r_move (v := .slice _ _ _) rfl rfl) rfl rfl ?_
  refine l_val (r_lenSlice Try.underlying35 rfl rfl) rfl rfl ?_
  refine l_val (r_neqN rfl rfl rfl rfl) rfl rfl ?_
  refine l_split ?_ ?_
  · intro hc1
    replace hc1 := of_decide_eq_true hc1
    refine l_end ?_
    refine n_then ?_
    refine c_true rfl ?_
    refine c_seq ?_
    refine c_reg ?_
    refine l_val (r_assign (v := .bool _) rfl rfl) rfl rfl ?_
    refine l_end ?_
    refine n_then ?_
    refine c_ret ?_
    refine r_then ?_
    refine ret_tmp (v := .bool (decide (l = m))) rfl ?_ ⟨rfl, hW.below⟩
    rw [same_len (by omega)]; rfl
  · intro hc1
    replace hc1 := of_decide_eq_false hc1
    refine l_end ?_
    refine n_then ?_
    refine c_false rfl ?_
    refine c_skip ?_
    refine n_then ?_
    refine c_seq ?_
    refine c_seq ?_
    refine c_reg ?_
    refine l_val (r_assign (v := .int _ _) rfl rfl) rfl rfl ?_
    refine l_end ?_
    refine n_then ?_
    refine c_block ?_
    refine c_loop (fun (i : Nat) (j : Nat → Value) => [.slice aa an ac, .slice ba bn bc, j 2, j 3, j 4, .int .i64 (i : Int), .slice aa an ac, j 7, .slice ba bn bc, j 9, .bool false, j 11, j 12, j 13, j 14, j 15, j 16, j 17, j 18, j 19, j 20, j 21, j 22, j 23, j 24, j 25]) (fun (i : Nat) => []) (fun (i : Nat) => i ≤ an ∧ ∀ k, k < i → at_ l k = at_ m k) (fun (i : Nat) => an - i) 0 (by kernel_rfl) hW ⟨by omega, all_zero⟩ ?_
    intro i j W hx hW
    refine c_seq ?_
    refine c_seq ?_
    refine c_reg ?_
    refine l_val (r_move (v := .int _ _) rfl rfl) rfl rfl ?_
    refine l_val (r_move (v := .slice _ _ _) rfl rfl) rfl rfl ?_
    refine l_val (r_lenSlice Try.underlying35 rfl rfl) rfl rfl ?_
    refine l_val (r_lssN rfl rfl rfl rfl) rfl rfl ?_
    refine l_split ?_ ?_
    · intro hc2
      replace hc2 := of_decide_eq_true hc2
      obtain ⟨b0, o0, ha, hc⟩ := hP.1.ptr (by omega)
      simp only at ha
      subst ha
      obtain ⟨b1, o1, ha, hd⟩ := hP.2.ptr (by omega)
      simp only at ha
      subst ha
      refine l_end ?_
      refine n_then ?_
      refine c_true rfl ?_
      refine c_skip ?_
      refine n_then ?_
      refine c_seq ?_
      refine c_block ?_
      refine c_seq ?_
      refine c_regY hW [] [.q, .q, .q, .q, .q, .q, .q, .q, .q] [0, 0, 3, 7, 0, 0, 48, 112, 255] (by kernel_rfl) (by kernel_rfl) ?_
      refine y_val (r_move (v := .slice _ _ _) rfl rfl) rfl rfl ?_
      refine y_val (r_move (v := .int _ _) rfl rfl) rfl rfl ?_
      refine y_val (r_indexAddrSl2 (n := i) Try.underlying35 tyC3.size rfl rfl rfl (by omega)) rfl rfl ?_
      refine y_loadF tyC3 (v := .int .i64 (at_ l (i))) (hc (i) (by omega)) (by kernel_rfl) rfl rfl rfl ?_
      refine y_val (r_move (v := .slice _ _ _) rfl rfl) rfl rfl ?_
      refine y_val (r_move (v := .int _ _) rfl rfl) rfl rfl ?_
      refine y_val (r_indexAddrSl2 (n := i) Try.underlying35 tyC3.size rfl rfl rfl (by omega)) rfl rfl ?_
      refine y_loadF tyC3 (v := .int .i64 (at_ m (i))) (hd (i) (by omega)) (by kernel_rfl) rfl rfl rfl ?_
      refine y_val (r_neq rfl rfl rfl rfl) rfl rfl ?_
      refine y_split ?_ ?_
      · intro hc3
        replace hc3 := of_decide_eq_true hc3
        refine y_end ?_
        intro W hW
        refine n_then ?_
        refine c_true rfl ?_
        refine c_seq ?_
        refine c_reg ?_
        refine l_val (r_assign (v := .bool _) rfl rfl) rfl rfl ?_
        refine l_end ?_
        refine n_then ?_
        refine c_ret ?_
        refine r_block ?_
        refine r_then ?_
        refine r_then ?_
        refine r_block ?_
        refine r_then ?_
        refine ret_tmp (v := .bool (decide (l = m))) rfl ?_ ⟨rfl, hW.below⟩
        rw [same_no (i := i) (by omega)]; rfl
      · intro hc3
        replace hc3 := of_decide_eq_false hc3
        refine y_end ?_
        intro W hW
        refine n_then ?_
        refine c_false rfl ?_
        refine c_skip ?_
        refine n_block ?_
        refine n_then ?_
        refine c_reg ?_
        refine l_val (r_move (v := .int _ _) rfl rfl) rfl rfl ?_
        refine l_val (r_addN (n := 1) rfl rfl rfl (by omega)) rfl rfl ?_
        refine l_val (r_assign (v := .int _ _) rfl rfl) rfl rfl ?_
        refine l_end ?_
        refine n_then ?_
        exact loop_next (i + 1) (by kernel_rfl) hW ⟨by omega, all_step hx.2 (by omega)⟩ (by omega)
    · intro hc2
      replace hc2 := of_decide_eq_false hc2
      refine l_end ?_
      refine n_then ?_
      refine c_false rfl ?_
      refine c_exit ?_
      refine x_then ?_
      refine x_then ?_
      refine x_hit ?_
      refine n_then ?_
      refine c_seq ?_
      refine c_reg ?_
      refine l_val (r_assign (v := .bool _) rfl rfl) rfl rfl ?_
      refine l_end ?_
      refine n_then ?_
      refine c_ret ?_
      refine ret_tmp (v := .bool (decide (l = m))) rfl ?_ ⟨rfl, hW.below⟩
      rw [same_yes (by omega) fun k hk => hx.2 k (by omega)]; rfl

end Go.Proofs.Ytoegpalacppllaa

/- Groups of a hunt. -/
namespace Go.Proofs.Ytoegpalacppllaa
open Go.RowKit Pl
open Tr Hn
set_option maxRecDepth 10000 in
/-- headend/headendref08.Groups -/
theorem g_Groups (h : Hu) (pa : Option Addr) (pn pc : Nat) (r q : Sl) (ss : List Sl) (hfit : pn * 48 ≤ 140737488351232) : GivesX Try.prog 29 [.agg [.int .i64 h.users, .slice pa pn pc, .slice r.a r.n r.c, .slice q.a q.n q.c, .int .i64 h.rounds].toArray].toArray (fun w => RdHu w h ⟨pa, pn, pc⟩ r q ss) (NewSl 35 1 (2 + 2 * pn) (r.v :: q.v :: ss.map Sl.v)) := by
  refine givesX_of Try.func29 rfl (bs := [.agg [.int .i64 h.users, .slice pa pn pc, .slice r.a r.n r.c, .slice q.a q.n q.c, .int .i64 h.rounds].toArray, undef, undef, undef, undef, undef, undef, undef, undef, undef, undef, undef, undef, undef, undef, undef, undef, undef, undef, undef, undef, undef, undef, undef, undef, undef, undef, undef, undef, undef, undef, undef, undef]) rfl ?_
  intro w hP hW
  refine c_seq ?_
  refine c_reg ?_
  refine l_box hW rfl rfl rfl rfl ?_
  intro g1 W hW
  refine l_val (r_assign (v := .slice _ _ _) rfl rfl) rfl rfl ?_
  refine l_end ?_
  refine n_then ?_
  refine c_seq ?_
  refine c_reg ?_
  refine l_val (r_fieldAddr 2 Try.underlying52 rfl tyC35.size rfl rfl rfl) rfl rfl ?_
  refine l_loadC hW 0 tyC35 rfl rfl rfl rfl rfl rfl ?_
  refine l_val (r_fieldAddr 3 Try.underlying52 rfl tyC35.size rfl rfl rfl) rfl rfl ?_
  refine l_loadC hW 0 tyC35 rfl rfl rfl rfl rfl rfl ?_
  refine l_buildSliceF hW (bsl69_2_0_1 _ _ _ _ _ _) rfl rfl rfl rfl ?_
  intro g0 W hW
  refine l_val (r_assign (v := .slice _ _ _) rfl rfl) rfl rfl ?_
  refine l_end ?_
  refine n_then ?_
  refine c_seq ?_
  refine c_seq ?_
  refine c_reg ?_
  refine l_val (r_assign (v := .int _ _) rfl rfl) rfl rfl ?_
  refine l_end ?_
  refine n_then ?_
  refine c_block ?_
  refine c_loop (fun (x : Nat × Option Addr × Nat × List Blk) (j : Nat → Value) => [.agg [.int .i64 h.users, .slice pa pn pc, .slice r.a r.n r.c, .slice q.a q.n q.c, .int .i64 h.rounds].toArray, .pointer (some ⟨g1, 0, none⟩), j 2, .slice x.2.1 (2 + 2 * x.1) x.2.2.1, .int .i64 (x.1 : Int), .pointer (some ⟨g1, 2, none⟩), .slice r.a r.n r.c, .pointer (some ⟨g1, 3, none⟩), .slice q.a q.n q.c, j 9, j 10, j 11, j 12, j 13, j 14, j 15, j 16, j 17, j 18, j 19, j 20, j 21, j 22, j 23, j 24, j 25, j 26, j 27, j 28, j 29, j 30, j 31, j 32]) (fun (x : Nat × Option Addr × Nat × List Blk) => [⟨g1, [.int .i64 h.users, .slice pa pn pc, .slice r.a r.n r.c, .slice q.a q.n q.c, .int .i64 h.rounds], 52⟩] ++ x.2.2.2) (fun (x : Nat × Option Addr × Nat × List Blk) => x.1 ≤ pn ∧ OwnSl 35 1 x.2.1 (2 + 2 * x.1) x.2.2.1 (r.v :: q.v :: (ss.take (2 * x.1)).map Sl.v) x.2.2.2) (fun (x : Nat × Option Addr × Nat × List Blk) => pn - x.1) (0, some ⟨g0, 0, none⟩, 2, [⟨g0, [r.v, q.v], 35⟩]) (by kernel_rfl) (hW.perm (List.Perm.swap _ _ _)) ⟨Nat.zero_le _, OwnSl.full rfl (by show 2 ≤ maxLen; decide)⟩ ?_
  intro x j W hx hW
  obtain ⟨hx, hO⟩ := hx
  refine c_seq ?_
  refine c_seq ?_
  refine c_reg ?_
  refine l_val (r_move (v := .int _ _) rfl rfl) rfl rfl ?_
  refine l_val (r_fieldAddr 1 Try.underlying52 rfl tyC50.size rfl rfl rfl) rfl rfl ?_
  refine l_loadC hW 0 tyC50 rfl rfl rfl rfl rfl rfl ?_
  refine l_val (r_lenSlice Try.underlying50 rfl rfl) rfl rfl ?_
  refine l_val (r_lssN rfl rfl rfl rfl) rfl rfl ?_
  refine l_split ?_ ?_
  · intro hc1
    replace hc1 := of_decide_eq_true hc1
    have hlt : x.1 < pn := by omega
    obtain ⟨b0, o0, rfl⟩ := hP.ptr (by omega)
    obtain ⟨s0, s1, e0, e1, ht, c0, c1⟩ := hP.side hlt
    refine l_end ?_
    refine n_then ?_
    refine c_true rfl ?_
    refine c_skip ?_
    refine n_then ?_
    refine c_seq ?_
    refine c_block ?_
    refine c_regM hW [] [.q, .q, .q, .q, .q, .q, .q, .q, .q, .q, .q, .q, .q, .mk 0, .tail, .tail] [⟨30, bslX 35 2⟩] [[s0.v, s1.v]] [13] [0, 0, 2, 0, 14, 30, 62, 0, 128, 0, 896, 1920, 3968, 8190, 16383, 32767] (by kernel_rfl) (by kernel_rfl) rfl (by kernel_rfl) ?_
    refine y_val (r_move (v := .slice _ _ _) rfl rfl) rfl rfl ?_
    refine y_val (r_fieldAddr 1 Try.underlying52 rfl tyC50.size rfl rfl rfl) rfl rfl ?_
    refine y_loadC 0 tyC50 rfl rfl rfl rfl rfl rfl (by decide) ?_
    refine y_val (r_move (v := .int _ _) rfl rfl) rfl rfl ?_
    refine y_val (r_indexAddrSl Try.underlying50 tyA99.size rfl rfl rfl (by omega)) rfl rfl ?_
    refine y_val (r_fieldAddr _ Try.underlying99 rfl tyC35.size rfl rfl rfl) rfl rfl ?_
    refine y_loadF tyC35 (v := s0.v) (c0) (by kernel_rfl) rfl rfl rfl ?_
    refine y_val (r_fieldAddr 1 Try.underlying52 rfl tyC50.size rfl rfl rfl) rfl rfl ?_
    refine y_loadC 0 tyC50 rfl rfl rfl rfl rfl rfl (by decide) ?_
    refine y_val (r_move (v := .int _ _) rfl rfl) rfl rfl ?_
    refine y_val (r_indexAddrSl Try.underlying50 tyA99.size rfl rfl rfl (by omega)) rfl rfl ?_
    refine y_val (r_fieldAddr _ Try.underlying99 rfl tyC35.size rfl rfl rfl) rfl rfl ?_
    refine y_loadF tyC35 (v := s1.v) (c1) (by kernel_rfl) rfl rfl rfl ?_
    refine y_buildSliceF 0 (bsl69_2_0_1 _ _ _ _ _ _) rfl rfl rfl rfl ?_
    refine y_tail ?_
    refine y_made ?_
    rintro _ _ ⟨g2, rfl, rfl⟩
    intro W hW
    refine l_appendB tyE69 (L := [_, _]) hO hW 0 (N := 2 + 2 * (x.1 + 1)) (by omega) rfl rfl rfl rfl rfl rfl rfl (by simp [Value.oneCell']) (by unfold maxLen; omega) (by omega) ?_
    intro a1 c1 Bs1 W hO1 hW
    replace hO1 := hO1.castx rfl (xs' := r.v :: q.v :: (ss.take (2 * (x.1 + 1))).map Sl.v) (by rw [ht]; simp)
    refine l_val (r_assign (v := .slice _ _ _) rfl rfl) rfl rfl ?_
    refine l_end ?_
    refine n_block ?_
    refine n_then ?_
    refine c_reg ?_
    refine l_val (r_move (v := .int _ _) rfl rfl) rfl rfl ?_
    refine l_val (r_addN (n := 1) rfl rfl rfl (by omega)) rfl rfl ?_
    refine l_val (r_assign (v := .int _ _) rfl rfl) rfl rfl ?_
    refine l_end ?_
    refine n_then ?_
    exact loop_next (x.1 + 1, a1, c1, Bs1) (by kernel_rfl) (hW.drop 1) ⟨by omega, hO1⟩ (by simp only; omega)
  · intro hc1
    replace hc1 := of_decide_eq_false hc1
    have e : x.1 = pn := by omega
    have hss : ss.take (2 * x.1) = ss := List.take_of_length_le (by have := hP.pn; simp only at this; omega)
    rw [hss, e] at hO
    refine l_end ?_
    refine n_then ?_
    refine c_false rfl ?_
    refine c_exit ?_
    refine x_then ?_
    refine x_then ?_
    refine x_hit ?_
    refine n_then ?_
    refine c_seq ?_
    refine c_reg ?_
    refine l_val (r_move (v := .slice _ _ _) rfl rfl) rfl rfl ?_
    refine l_val (r_assign (v := .slice _ _ _) rfl rfl) rfl rfl ?_
    refine l_end ?_
    refine n_then ?_
    refine c_ret ?_
    refine ret_tmp (v := .slice _ _ _) rfl rfl ?_
    exact ⟨_, _, rfl, ⟨_, _, by rw [e], hO⟩, hW.sub (List.sublist_append_right _ _)⟩

end Go.Proofs.Ytoegpalacppllaa

/- Whether a hunt is great. -/
namespace Go.Proofs.Ytoegpalacppllaa
open Go.RowKit Pl
open Tr Hn
set_option maxRecDepth 10000 in
/-- headend/headendref08.GreatHunt -/
theorem g_GreatHunt (h : Hu) (pa : Option Addr) (pn pc : Nat) (r q : Sl) (ss : List Sl) (hfit : pn * 48 ≤ 140737488351232) (hlen : ∀ l ∈ groups h, l.length ≤ 17592186043904) : GivesR Try.prog 17 [.agg [.int .i64 h.users, .slice pa pn pc, .slice r.a r.n r.c, .slice q.a q.n q.c, .int .i64 h.rounds].toArray].toArray (fun w => RdHu w h ⟨pa, pn, pc⟩ r q ss) (.bool (greatB h)) := by
  refine givesR_of Try.func17 rfl (bs := [.agg [.int .i64 h.users, .slice pa pn pc, .slice r.a r.n r.c, .slice q.a q.n q.c, .int .i64 h.rounds].toArray, undef, undef, undef, undef, undef, undef, undef, undef, undef, undef, undef, undef, undef, undef, undef, undef, undef, undef, undef, undef, undef, undef, undef, undef, undef, undef, undef, undef, undef, undef, undef, undef, undef, undef]) rfl ?_
  intro w hP hW
  refine c_seq ?_
  refine c_reg ?_
  refine l_box hW rfl rfl rfl rfl ?_
  intro g1 W hW
  refine l_val (r_assign (v := .bool _) rfl rfl) rfl rfl ?_
  refine l_end ?_
  refine n_then ?_
  refine c_seq ?_
  refine c_reg ?_
  refine l_loadA hW 0 tyA52 rfl rfl rfl rfl rfl (by first | rfl | exact kc_len _ | exact kcf_len _ | (simp; done)) ?_
  refine l_callX hW (g_Groups h pa pn pc r q ss hfit) en29 (hP.past hW.below) rfl rfl rfl rfl ?_
  rintro _ Bs W ⟨a1, c1, rfl, hO⟩ hW
  obtain ⟨gq, cur, rfl, rfl, -, -, htk⟩ := hO.row (by omega)
  have hv : ∀ i (s : Sl), (r :: q :: ss)[i]? = some s → cur[i]? = some s.v := fun i s hs => take_get htk (by
    have := congrArg (Option.map Sl.v) hs
    rw [← List.getElem?_map] at this
    exact this)
  refine l_val (r_assign (v := .slice _ _ _) rfl rfl) rfl rfl ?_
  refine l_end ?_
  refine n_then ?_
  refine c_seq ?_
  refine c_reg ?_
  refine l_val (r_assign (v := .int _ _) rfl rfl) rfl rfl ?_
  refine l_end ?_
  refine n_then ?_
  refine c_seq ?_
  refine c_seq ?_
  refine c_reg ?_
  refine l_val (r_assign (v := .int _ _) rfl rfl) rfl rfl ?_
  refine l_end ?_
  refine n_then ?_
  refine c_block ?_
  refine c_loop (fun (x : Nat × Nat) (j : Nat → Value) => [.agg [.int .i64 h.users, .slice pa pn pc, .slice r.a r.n r.c, .slice q.a q.n q.c, .int .i64 h.rounds].toArray, .pointer (some ⟨g1, 0, none⟩), j 2, .slice (some ⟨gq, 0, none⟩) (2 + 2 * pn) c1, .int .i64 (x.2 : Int), .int .i64 (x.1 : Int), .agg ([.int .i64 h.users, .slice pa pn pc, .slice r.a r.n r.c, .slice q.a q.n q.c, .int .i64 h.rounds]).toArray, .slice (some ⟨gq, 0, none⟩) (2 + 2 * pn) c1, j 8, j 9, j 10, j 11, j 12, j 13, j 14, j 15, j 16, j 17, j 18, j 19, j 20, j 21, j 22, j 23, j 24, j 25, j 26, j 27, j 28, j 29, j 30, j 31, j 32, j 33, j 34]) (fun (x : Nat × Nat) => [⟨g1, [.int .i64 h.users, .slice pa pn pc, .slice r.a r.n r.c, .slice q.a q.n q.c, .int .i64 h.rounds], 52⟩, ⟨gq, cur, 35⟩]) (fun (x : Nat × Nat) => x.1 ≤ 2 + 2 * pn ∧ x.2 ≤ 200 ∧ greatTo ((groups h).drop x.1) x.2 = greatTo (groups h) 0) (fun (x : Nat × Nat) => 2 + 2 * pn - x.1) (0, 0) (by kernel_rfl) hW ⟨Nat.zero_le _, Nat.zero_le _, rfl⟩ ?_
  intro x j W hx hW
  obtain ⟨hx, hm, hg⟩ := hx
  refine c_seq ?_
  refine c_seq ?_
  refine c_reg ?_
  refine l_val (r_move (v := .int _ _) rfl rfl) rfl rfl ?_
  refine l_val (r_move (v := .slice _ _ _) rfl rfl) rfl rfl ?_
  refine l_val (r_lenSlice Try.underlying69 rfl rfl) rfl rfl ?_
  refine l_val (r_lssN rfl rfl rfl rfl) rfl rfl ?_
  refine l_split ?_ ?_
  · intro hc1
    replace hc1 := of_decide_eq_true hc1
    have hi : x.1 < 2 + 2 * pn := by omega
    obtain ⟨s, l, e, f, hr⟩ := hP.grp hi
    have hs := hr.len
    have hll := hlen l (List.mem_of_getElem? f)
    rw [drop_at f, greatTo] at hg
    refine l_end ?_
    refine n_then ?_
    refine c_true rfl ?_
    refine c_skip ?_
    refine n_then ?_
    refine c_seq ?_
    refine c_block ?_
    refine c_seq ?_
    refine c_reg ?_
    refine l_val (r_move (v := .int _ _) rfl rfl) rfl rfl ?_
    refine l_val (r_move (v := .slice _ _ _) rfl rfl) rfl rfl ?_
    refine l_val (r_move (v := .int _ _) rfl rfl) rfl rfl ?_
    refine l_val (r_indexAddrSl1 (n := x.1) Try.underlying69 tyC35.size rfl rfl rfl (by omega)) rfl rfl ?_
    refine l_loadC hW 1 tyC35 (v := s.v) rfl rfl rfl rfl rfl (hv _ _ e) ?_
    refine l_val (r_lenSlice Try.underlying35 rfl rfl) rfl rfl ?_
    refine l_val (r_addN rfl rfl rfl (by omega)) rfl rfl ?_
    refine l_val (r_assign (v := .int _ _) rfl rfl) rfl rfl ?_
    refine l_end ?_
    refine n_then ?_
    refine c_seq ?_
    refine c_reg ?_
    refine l_val (r_move (v := .slice _ _ _) rfl rfl) rfl rfl ?_
    refine l_val (r_move (v := .int _ _) rfl rfl) rfl rfl ?_
    refine l_val (r_indexAddrSl1 (n := x.1) Try.underlying69 tyC35.size rfl rfl rfl (by omega)) rfl rfl ?_
    refine l_loadC hW 1 tyC35 (v := s.v) rfl rfl rfl rfl rfl (hv _ _ e) ?_
    refine l_val (r_lenSlice Try.underlying35 rfl rfl) rfl rfl ?_
    refine l_val (r_gtrN (n := 100) rfl rfl rfl rfl) rfl rfl ?_
    refine l_split ?_ ?_
    · intro hc2
      replace hc2 := of_decide_eq_true hc2
      refine l_val (r_move (v := .bool _) rfl rfl) rfl rfl ?_
      refine l_not (by kernel_rfl) rfl ?_
      refine l_not (by kernel_rfl) rfl ?_
      refine l_val (r_pick (v := .bool _) rfl rfl rfl) rfl rfl ?_
      refine l_end ?_
      refine n_then ?_
      refine c_true rfl ?_
      refine c_seq ?_
      refine c_reg ?_
      refine l_val (r_assign (v := .bool _) rfl rfl) rfl rfl ?_
      refine l_end ?_
      refine n_then ?_
      refine c_ret ?_
      refine r_block ?_
      refine r_then ?_
      refine r_then ?_
      refine r_block ?_
      refine r_then ?_
      refine ret_tmp (v := .bool (greatB h)) rfl ?_ ⟨rfl, hW.below⟩
      rw [greatB, great_a hg (by omega)]; rfl
    · intro hc2
      replace hc2 := of_decide_eq_false hc2
      refine l_val (r_move (v := .bool _) rfl rfl) rfl rfl ?_
      refine l_valG (r_move (v := .int _ _) rfl rfl) (by kernel_rfl) rfl ?_
      refine l_valG (r_gtrN (n := 200) rfl rfl rfl rfl) (by kernel_rfl) rfl ?_
      refine l_split ?_ ?_
      · intro hc3
        replace hc3 := of_decide_eq_true hc3
        refine l_val (r_pick (v := .bool _) rfl rfl rfl) rfl rfl ?_
        refine l_end ?_
        refine n_then ?_
        refine c_true rfl ?_
        refine c_seq ?_
        refine c_reg ?_
        refine l_val (r_assign (v := .bool _) rfl rfl) rfl rfl ?_
        refine l_end ?_
        refine n_then ?_
        refine c_ret ?_
        refine r_block ?_
        refine r_then ?_
        refine r_then ?_
        refine r_block ?_
        refine r_then ?_
        refine ret_tmp (v := .bool (greatB h)) rfl ?_ ⟨rfl, hW.below⟩
        rw [greatB, great_a hg (by omega)]; rfl
      · intro hc3
        replace hc3 := of_decide_eq_false hc3
        refine l_val (r_pick (v := .bool _) rfl rfl rfl) rfl rfl ?_
        refine l_end ?_
        refine n_then ?_
        refine c_false rfl ?_
        refine c_skip ?_
        refine n_block ?_
        refine n_then ?_
        refine c_reg ?_
        refine l_val (r_move (v := .int _ _) rfl rfl) rfl rfl ?_
        refine l_val (r_addN (n := 1) rfl rfl rfl (by omega)) rfl rfl ?_
        refine l_val (r_assign (v := .int _ _) rfl rfl) rfl rfl ?_
        refine l_end ?_
        refine n_then ?_
        exact loop_next (x.1 + 1, x.2 + s.n) (by kernel_rfl) hW ⟨by omega, by simp only; omega, by simp only; rw [hs]; exact great_b hg (by omega) (by omega)⟩ (by simp only; omega)
  · intro hc1
    replace hc1 := of_decide_eq_false hc1
    have h0 := great_end hg (by have := hP.gl; omega)
    refine l_end ?_
    refine n_then ?_
    refine c_false rfl ?_
    refine c_exit ?_
    refine x_then ?_
    refine x_then ?_
    refine x_hit ?_
    refine n_then ?_
    refine c_seq ?_
    refine c_reg ?_
    refine l_val (r_fieldAddr 1 Try.underlying52 rfl tyC50.size rfl rfl rfl) rfl rfl ?_
    refine l_loadC hW 0 tyC50 rfl rfl rfl rfl rfl rfl ?_
    refine l_val (r_lenSlice Try.underlying50 rfl rfl) rfl rfl ?_
    refine l_val (r_gtrN (n := 100) rfl rfl rfl rfl) rfl rfl ?_
    refine l_val (r_assign (v := .bool _) rfl rfl) rfl rfl ?_
    refine l_end ?_
    refine n_then ?_
    refine c_ret ?_
    refine ret_tmp (v := .bool (greatB h)) rfl ?_ ⟨rfl, hW.below⟩
    rw [greatB_end (pn := pn) h0 (by have := hP.pn; have := hP.len; simp only at *; omega)]; rfl

end Go.Proofs.Ytoegpalacppllaa

/- Whether a hunt is valid, by the reference. -/
namespace Go.Proofs.Ytoegpalacppllaa
open Go.RowKit Pl
open Tr Hn
set_option maxRecDepth 10000 in
/-- headend/headendref08.ValidHunt -/
theorem g_ValidHunt (h : Hu) (pa : Option Addr) (pn pc : Nat) (r q : Sl) (ss : List Sl) (hsm : Small h) (hfit : pn * 48 ≤ 140737488351232) : GivesR Try.prog 46 [.agg [.int .i64 h.users, .slice pa pn pc, .slice r.a r.n r.c, .slice q.a q.n q.c, .int .i64 h.rounds].toArray].toArray (fun w => RdHu w h ⟨pa, pn, pc⟩ r q ss) (.bool (validB h)) := by
  refine givesR_of Try.func46 rfl (bs := [.agg [.int .i64 h.users, .slice pa pn pc, .slice r.a r.n r.c, .slice q.a q.n q.c, .int .i64 h.rounds].toArray, undef, undef, undef, undef, undef, undef, undef, undef, undef, undef, undef, undef, undef, undef, undef, undef, undef, undef, undef, undef, undef, undef, undef, undef, undef, undef, undef, undef, undef, undef, undef, undef, undef, undef, undef, undef, undef, undef, undef, undef, undef, undef, undef, undef, undef, undef, undef, undef, undef, undef, undef, undef, undef, undef, undef, undef, undef, undef, undef, undef, undef, undef, undef, undef, undef, undef, undef, undef, undef, undef, undef, undef, undef, undef, undef, undef, undef, undef, undef, undef, undef, undef, undef, undef, undef, undef, undef, undef, undef, undef, undef, undef, undef, undef]) rfl ?_
  intro w hP hW
  have hpn := hP.pn
  have hpl := hP.len
  simp only at hpn
  have hgl := hP.gl
  have hgs := hsm.sum
  have hone := hsm.one
  refine c_seq ?_
  refine c_reg ?_
  refine l_box hW rfl rfl rfl rfl ?_
  intro g1 W hW
  refine l_val (r_assign (v := .bool _) rfl rfl) rfl rfl ?_
  refine l_end ?_
  refine n_then ?_
  refine c_seq ?_
  refine c_seq ?_
  refine c_reg ?_
  refine l_val (r_fieldAddr 0 Try.underlying52 rfl tyC3.size rfl rfl rfl) rfl rfl ?_
  refine l_loadC hW 0 tyC3 rfl rfl rfl rfl rfl rfl ?_
  refine l_val (r_lss rfl rfl rfl rfl) rfl rfl ?_
  refine l_split ?_ ?_
  · intro hc1
    replace hc1 := of_decide_eq_true hc1
    refine l_val (r_move (v := .bool _) rfl rfl) rfl rfl ?_
    refine l_not (by kernel_rfl) rfl ?_
    refine l_not (by kernel_rfl) rfl ?_
    refine l_not (by kernel_rfl) rfl ?_
    refine l_val (r_pick (v := .bool _) rfl rfl rfl) rfl rfl ?_
    refine l_val (r_move (v := .bool _) rfl rfl) rfl rfl ?_
    refine l_not (by kernel_rfl) rfl ?_
    refine l_not (by kernel_rfl) rfl ?_
    refine l_not (by kernel_rfl) rfl ?_
    refine l_val (r_pick (v := .bool _) rfl rfl rfl) rfl rfl ?_
    refine l_val (r_move (v := .bool _) rfl rfl) rfl rfl ?_
    refine l_not (by kernel_rfl) rfl ?_
    refine l_not (by kernel_rfl) rfl ?_
    refine l_not (by kernel_rfl) rfl ?_
    refine l_val (r_pick (v := .bool _) rfl rfl rfl) rfl rfl ?_
    refine l_val (r_move (v := .bool _) rfl rfl) rfl rfl ?_
    refine l_not (by kernel_rfl) rfl ?_
    refine l_not (by kernel_rfl) rfl ?_
    refine l_not (by kernel_rfl) rfl ?_
    refine l_not (by kernel_rfl) rfl ?_
    refine l_val (r_pick (v := .bool _) rfl rfl rfl) rfl rfl ?_
    refine l_end ?_
    refine n_then ?_
    refine c_true rfl ?_
    refine c_seq ?_
    refine c_reg ?_
    refine l_val (r_assign (v := .bool _) rfl rfl) rfl rfl ?_
    refine l_end ?_
    refine n_then ?_
    refine c_ret ?_
    refine r_then ?_
    refine ret_tmp (v := .bool (validB h)) rfl ?_ ⟨rfl, hW.below⟩
    rw [vb_bounds (by omega)]; rfl
  · intro hc1
    replace hc1 := of_decide_eq_false hc1
    refine l_val (r_move (v := .bool _) rfl rfl) rfl rfl ?_
    refine l_valG (r_fieldAddr 0 Try.underlying52 rfl tyC3.size rfl rfl rfl) (by kernel_rfl) rfl ?_
    refine l_loadCG hW 0 tyC3 (by kernel_rfl) rfl rfl rfl rfl rfl ?_
    refine l_valG (r_gtr rfl rfl rfl rfl) (by kernel_rfl) rfl ?_
    refine l_split ?_ ?_
    · intro hc2
      replace hc2 := of_decide_eq_true hc2
      refine l_val (r_pick (v := .bool _) rfl rfl rfl) rfl rfl ?_
      refine l_val (r_move (v := .bool _) rfl rfl) rfl rfl ?_
      refine l_not (by kernel_rfl) rfl ?_
      refine l_not (by kernel_rfl) rfl ?_
      refine l_not (by kernel_rfl) rfl ?_
      refine l_val (r_pick (v := .bool _) rfl rfl rfl) rfl rfl ?_
      refine l_val (r_move (v := .bool _) rfl rfl) rfl rfl ?_
      refine l_not (by kernel_rfl) rfl ?_
      refine l_not (by kernel_rfl) rfl ?_
      refine l_not (by kernel_rfl) rfl ?_
      refine l_val (r_pick (v := .bool _) rfl rfl rfl) rfl rfl ?_
      refine l_val (r_move (v := .bool _) rfl rfl) rfl rfl ?_
      refine l_not (by kernel_rfl) rfl ?_
      refine l_not (by kernel_rfl) rfl ?_
      refine l_not (by kernel_rfl) rfl ?_
      refine l_not (by kernel_rfl) rfl ?_
      refine l_val (r_pick (v := .bool _) rfl rfl rfl) rfl rfl ?_
      refine l_end ?_
      refine n_then ?_
      refine c_true rfl ?_
      refine c_seq ?_
      refine c_reg ?_
      refine l_val (r_assign (v := .bool _) rfl rfl) rfl rfl ?_
      refine l_end ?_
      refine n_then ?_
      refine c_ret ?_
      refine r_then ?_
      refine ret_tmp (v := .bool (validB h)) rfl ?_ ⟨rfl, hW.below⟩
      rw [vb_bounds (by omega)]; rfl
    · intro hc2
      replace hc2 := of_decide_eq_false hc2
      refine l_val (r_pick (v := .bool _) rfl rfl rfl) rfl rfl ?_
      refine l_val (r_move (v := .bool _) rfl rfl) rfl rfl ?_
      refine l_valG (r_fieldAddr 4 Try.underlying52 rfl tyC3.size rfl rfl rfl) (by kernel_rfl) rfl ?_
      refine l_loadCG hW 0 tyC3 (by kernel_rfl) rfl rfl rfl rfl rfl ?_
      refine l_valG (r_lss rfl rfl rfl rfl) (by kernel_rfl) rfl ?_
      refine l_split ?_ ?_
      · intro hc3
        replace hc3 := of_decide_eq_true hc3
        refine l_val (r_pick (v := .bool _) rfl rfl rfl) rfl rfl ?_
        refine l_val (r_move (v := .bool _) rfl rfl) rfl rfl ?_
        refine l_not (by kernel_rfl) rfl ?_
        refine l_not (by kernel_rfl) rfl ?_
        refine l_not (by kernel_rfl) rfl ?_
        refine l_val (r_pick (v := .bool _) rfl rfl rfl) rfl rfl ?_
        refine l_val (r_move (v := .bool _) rfl rfl) rfl rfl ?_
        refine l_not (by kernel_rfl) rfl ?_
        refine l_not (by kernel_rfl) rfl ?_
        refine l_not (by kernel_rfl) rfl ?_
        refine l_not (by kernel_rfl) rfl ?_
        refine l_val (r_pick (v := .bool _) rfl rfl rfl) rfl rfl ?_
        refine l_end ?_
        refine n_then ?_
        refine c_true rfl ?_
        refine c_seq ?_
        refine c_reg ?_
        refine l_val (r_assign (v := .bool _) rfl rfl) rfl rfl ?_
        refine l_end ?_
        refine n_then ?_
        refine c_ret ?_
        refine r_then ?_
        refine ret_tmp (v := .bool (validB h)) rfl ?_ ⟨rfl, hW.below⟩
        rw [vb_bounds (by omega)]; rfl
      · intro hc3
        replace hc3 := of_decide_eq_false hc3
        refine l_val (r_pick (v := .bool _) rfl rfl rfl) rfl rfl ?_
        refine l_val (r_move (v := .bool _) rfl rfl) rfl rfl ?_
        refine l_valG (r_fieldAddr 4 Try.underlying52 rfl tyC3.size rfl rfl rfl) (by kernel_rfl) rfl ?_
        refine l_loadCG hW 0 tyC3 (by kernel_rfl) rfl rfl rfl rfl rfl ?_
        refine l_valG (r_gtr rfl rfl rfl rfl) (by kernel_rfl) rfl ?_
        refine l_split ?_ ?_
        · intro hc4
          replace hc4 := of_decide_eq_true hc4
          refine l_val (r_pick (v := .bool _) rfl rfl rfl) rfl rfl ?_
          refine l_val (r_move (v := .bool _) rfl rfl) rfl rfl ?_
          refine l_not (by kernel_rfl) rfl ?_
          refine l_not (by kernel_rfl) rfl ?_
          refine l_not (by kernel_rfl) rfl ?_
          refine l_not (by kernel_rfl) rfl ?_
          refine l_val (r_pick (v := .bool _) rfl rfl rfl) rfl rfl ?_
          refine l_end ?_
          refine n_then ?_
          refine c_true rfl ?_
          refine c_seq ?_
          refine c_reg ?_
          refine l_val (r_assign (v := .bool _) rfl rfl) rfl rfl ?_
          refine l_end ?_
          refine n_then ?_
          refine c_ret ?_
          refine r_then ?_
          refine ret_tmp (v := .bool (validB h)) rfl ?_ ⟨rfl, hW.below⟩
          rw [vb_bounds (by omega)]; rfl
        · intro hc4
          replace hc4 := of_decide_eq_false hc4
          refine l_val (r_pick (v := .bool _) rfl rfl rfl) rfl rfl ?_
          refine l_val (r_move (v := .bool _) rfl rfl) rfl rfl ?_
          refine l_valG (r_fieldAddr 1 Try.underlying52 rfl tyC50.size rfl rfl rfl) (by kernel_rfl) rfl ?_
          refine l_loadCG hW 0 tyC50 (by kernel_rfl) rfl rfl rfl rfl rfl ?_
          refine l_valG (r_lenSlice Try.underlying50 rfl rfl) (by kernel_rfl) rfl ?_
          refine l_valG (r_gtrN (n := 64) rfl rfl rfl rfl) (by kernel_rfl) rfl ?_
          refine l_split ?_ ?_
          · intro hc5
            replace hc5 := of_decide_eq_true hc5
            refine l_val (r_pick (v := .bool _) rfl rfl rfl) rfl rfl ?_
            refine l_end ?_
            refine n_then ?_
            refine c_true rfl ?_
            refine c_seq ?_
            refine c_reg ?_
            refine l_val (r_assign (v := .bool _) rfl rfl) rfl rfl ?_
            refine l_end ?_
            refine n_then ?_
            refine c_ret ?_
            refine r_then ?_
            refine ret_tmp (v := .bool (validB h)) rfl ?_ ⟨rfl, hW.below⟩
            rw [vb_bounds (by omega)]; rfl
          · intro hc5
            replace hc5 := of_decide_eq_false hc5
            refine l_val (r_pick (v := .bool _) rfl rfl rfl) rfl rfl ?_
            refine l_end ?_
            refine n_then ?_
            refine c_false rfl ?_
            refine c_skip ?_
            refine n_then ?_
            refine c_seq ?_
            refine c_reg ?_
            refine l_loadA hW 0 tyA52 rfl rfl rfl rfl rfl (by first | rfl | exact kc_len _ | exact kcf_len _ | (simp; done)) ?_
            refine l_callX hW (g_Groups h pa pn pc r q ss hfit) en29 (hP.past hW.below) rfl rfl rfl rfl ?_
            rintro _ Bs W ⟨a1, c1, rfl, hO⟩ hW
            obtain ⟨gq, cur, rfl, rfl, -, -, htk⟩ := hO.row (by omega)
            have hv : ∀ i (s : Sl), (r :: q :: ss)[i]? = some s → cur[i]? = some s.v := fun i s hs => take_get htk (by
              have := congrArg (Option.map Sl.v) hs
              rw [← List.getElem?_map] at this
              exact this)
            refine l_val (r_assign (v := .slice _ _ _) rfl rfl) rfl rfl ?_
            refine l_end ?_
            refine n_then ?_
            refine c_seq ?_
            refine c_reg ?_
            refine l_val (r_assign (v := .int _ _) rfl rfl) rfl rfl ?_
            refine l_end ?_
            refine n_then ?_
            refine c_seq ?_
            refine c_seq ?_
            refine c_reg ?_
            refine l_val (r_assign (v := .int _ _) rfl rfl) rfl rfl ?_
            refine l_end ?_
            refine n_then ?_
            refine c_block ?_
            refine c_loop (fun (x : Nat × Nat) (j : Nat → Value) => [.agg [.int .i64 h.users, .slice pa pn pc, .slice r.a r.n r.c, .slice q.a q.n q.c, .int .i64 h.rounds].toArray, .pointer (some ⟨g1, 0, none⟩), j 2, .slice (some ⟨gq, 0, none⟩) (2 + 2 * pn) c1, .int .i64 (x.2 : Int), .int .i64 (x.1 : Int), j 6, j 7, j 8, .pointer (some ⟨g1, 0, none⟩), .int .i64 h.users, .bool false, .bool false, .pointer (some ⟨g1, 0, none⟩), .int .i64 h.users, .bool false, .bool false, .bool false, .pointer (some ⟨g1, 4, none⟩), .int .i64 h.rounds, .bool false, .bool false, .bool false, .pointer (some ⟨g1, 4, none⟩), .int .i64 h.rounds, .bool false, .bool false, .bool false, .pointer (some ⟨g1, 1, none⟩), .slice pa pn pc, j 30, .bool false, .bool false, .agg ([.int .i64 h.users, .slice pa pn pc, .slice r.a r.n r.c, .slice q.a q.n q.c, .int .i64 h.rounds]).toArray, .slice (some ⟨gq, 0, none⟩) (2 + 2 * pn) c1, j 35, j 36, j 37, j 38, j 39, j 40, j 41, j 42, j 43, j 44, j 45, j 46, j 47, j 48, j 49, j 50, j 51, j 52, j 53, j 54, j 55, j 56, j 57, j 58, j 59, j 60, j 61, j 62, j 63, j 64, j 65, j 66, j 67, j 68, j 69, j 70, j 71, j 72, j 73, j 74, j 75, j 76, j 77, j 78, j 79, j 80, j 81, j 82, j 83, j 84, j 85, j 86, j 87, j 88, j 89, j 90, j 91, j 92, j 93, j 94]) (fun (x : Nat × Nat) => [⟨g1, [.int .i64 h.users, .slice pa pn pc, .slice r.a r.n r.c, .slice q.a q.n q.c, .int .i64 h.rounds], 52⟩, ⟨gq, cur, 35⟩]) (fun (x : Nat × Nat) => x.1 ≤ 2 + 2 * pn ∧ x.2 = sumL ((groups h).take x.1) ∧ ∀ k, k < x.1 → okG h k) (fun (x : Nat × Nat) => 2 + 2 * pn - x.1) (0, 0) (by kernel_rfl) hW ⟨Nat.zero_le _, rfl, all_zero⟩ ?_
            intro x j W hx hW
            obtain ⟨i, m⟩ := x
            obtain ⟨hx, hm, hg⟩ := hx
            simp only at hx hm hg
            subst hm
            have hle := sumL_take_le (groups h) i
            refine c_seq ?_
            refine c_seq ?_
            refine c_reg ?_
            refine l_val (r_move (v := .int _ _) rfl rfl) rfl rfl ?_
            refine l_val (r_move (v := .slice _ _ _) rfl rfl) rfl rfl ?_
            refine l_val (r_lenSlice Try.underlying69 rfl rfl) rfl rfl ?_
            refine l_val (r_lssN rfl rfl rfl rfl) rfl rfl ?_
            refine l_split ?_ ?_
            · intro hc6
              replace hc6 := of_decide_eq_true hc6
              have hi : i < 2 + 2 * pn := by omega
              obtain ⟨s, l, e, f, hr⟩ := hP.grp hi
              have hs := hr.len
              have hll := hone l (List.mem_of_getElem? f)
              refine l_end ?_
              refine n_then ?_
              refine c_true rfl ?_
              refine c_skip ?_
              refine n_then ?_
              refine c_seq ?_
              refine c_block ?_
              refine c_seq ?_
              refine c_seq ?_
              refine c_regY hW [] [.q, .q, .q, .q, .q, .q, .q, .q, .q, .q, .q, .q, .q, .q, .q, .q, .q, .q, .q, .q] [0, 0, 3, 7, 0, 16, 63, 127, 255, 511, 1023, 2047, 4095, 4095, 16383, 32767, 65535, 131071, 262143, 524287] (by kernel_rfl) (by kernel_rfl) ?_
              refine y_val (r_move (v := .slice _ _ _) rfl rfl) rfl rfl ?_
              refine y_val (r_move (v := .int _ _) rfl rfl) rfl rfl ?_
              refine y_val (r_indexAddrSl1 (n := i) Try.underlying69 tyC35.size rfl rfl rfl (by omega)) rfl rfl ?_
              refine y_loadC 1 tyC35 (v := s.v) (by kernel_rfl) rfl rfl rfl rfl (hv _ _ e) (by decide) ?_
              refine y_val (r_fieldAddr 0 Try.underlying52 rfl tyC3.size rfl rfl rfl) rfl rfl ?_
              refine y_loadC 0 tyC3 rfl rfl rfl rfl rfl rfl (by decide) ?_
              refine y_callR (g_Users s.a s.n s.c l h.users (by omega)) en78 (fun L2 w hs hC => hr.past hC.below) (by kernel_rfl) rfl rfl rfl ?_
              refine y_split ?_ ?_
              · intro hc7
                refine y_val (r_not rfl rfl) rfl rfl ?_
                refine y_val (r_move (v := .bool _) rfl rfl) rfl rfl ?_
                refine y_val (r_move (v := .int _ _) rfl rfl) (by kernel_rfl) rfl ?_
                refine y_val (r_geqN (n := 2) rfl rfl rfl rfl) (by kernel_rfl) rfl ?_
                refine y_split ?_ ?_
                · intro hc8
                  replace hc8 := of_decide_eq_true hc8
                  refine y_val (r_move (v := .bool _) rfl rfl) (by kernel_rfl) rfl ?_
                  refine y_val (r_move (v := .slice _ _ _) rfl rfl) (by kernel_rfl) rfl ?_
                  refine y_val (r_move (v := .int _ _) rfl rfl) (by kernel_rfl) rfl ?_
                  refine y_val (r_indexAddrSl1 (n := i) Try.underlying69 tyC35.size rfl rfl rfl (by omega)) (by kernel_rfl) rfl ?_
                  refine y_loadC 1 tyC35 (v := s.v) (by kernel_rfl) rfl rfl rfl rfl (hv _ _ e) (by decide) ?_
                  refine y_val (r_lenSlice Try.underlying35 rfl rfl) (by kernel_rfl) rfl ?_
                  refine y_val (r_eqlN (n := 0) rfl rfl rfl rfl) (by kernel_rfl) rfl ?_
                  refine y_split ?_ ?_
                  · intro hc9
                    replace hc9 := of_decide_eq_true hc9
                    refine y_val (r_pick (v := .bool _) rfl rfl rfl) (by kernel_rfl) rfl ?_
                    refine y_val (r_pick (v := .bool _) rfl rfl rfl) rfl rfl ?_
                    refine y_end ?_
                    intro W hW
                    refine n_then ?_
                    refine c_true rfl ?_
                    refine c_seq ?_
                    refine c_reg ?_
                    refine l_val (r_assign (v := .bool _) rfl rfl) rfl rfl ?_
                    refine l_end ?_
                    refine n_then ?_
                    refine c_ret ?_
                    refine r_then ?_
                    refine r_block ?_
                    refine r_then ?_
                    refine r_then ?_
                    refine r_block ?_
                    refine r_then ?_
                    refine ret_tmp (v := .bool (validB h)) rfl ?_ ⟨rfl, hW.below⟩
                    rw [vb_group f (by first | exact .inl (by assumption) | exact .inr ⟨by omega, by omega⟩)]; rfl
                  · intro hc9
                    replace hc9 := of_decide_eq_false hc9
                    refine y_val (r_pick (v := .bool _) rfl rfl rfl) (by kernel_rfl) rfl ?_
                    refine y_val (r_pick (v := .bool _) rfl rfl rfl) rfl rfl ?_
                    refine y_end ?_
                    intro W hW
                    refine n_then ?_
                    refine c_false rfl ?_
                    refine c_skip ?_
                    refine n_then ?_
                    refine c_reg ?_
                    refine l_val (r_move (v := .int _ _) rfl rfl) rfl rfl ?_
                    refine l_val (r_move (v := .slice _ _ _) rfl rfl) rfl rfl ?_
                    refine l_val (r_move (v := .int _ _) rfl rfl) rfl rfl ?_
                    refine l_val (r_indexAddrSl1 (n := i) Try.underlying69 tyC35.size rfl rfl rfl (by omega)) rfl rfl ?_
                    refine l_loadC hW 1 tyC35 (v := s.v) rfl rfl rfl rfl rfl (hv _ _ e) ?_
                    refine l_val (r_lenSlice Try.underlying35 rfl rfl) rfl rfl ?_
                    refine l_val (r_addN rfl rfl rfl (by omega)) rfl rfl ?_
                    refine l_val (r_assign (v := .int _ _) rfl rfl) rfl rfl ?_
                    refine l_end ?_
                    refine n_block ?_
                    refine n_then ?_
                    refine c_reg ?_
                    refine l_val (r_move (v := .int _ _) rfl rfl) rfl rfl ?_
                    refine l_val (r_addN (n := 1) rfl rfl rfl (by omega)) rfl rfl ?_
                    refine l_val (r_assign (v := .int _ _) rfl rfl) rfl rfl ?_
                    refine l_end ?_
                    refine n_then ?_
                    exact loop_next (i + 1, sumL ((groups h).take i) + s.n) (by kernel_rfl) hW ⟨by simp only; omega, by simp only; rw [sumL_take f, hs], all_step hg (okG_of f (by assumption) fun h2 => by omega)⟩ (by simp only; omega)
                · intro hc8
                  replace hc8 := of_decide_eq_false hc8
                  refine y_val (r_move (v := .bool _) rfl rfl) (by kernel_rfl) rfl ?_
                  refine y_not (by kernel_rfl) rfl ?_
                  refine y_not (by kernel_rfl) rfl ?_
                  refine y_not (by kernel_rfl) rfl ?_
                  refine y_not (by kernel_rfl) rfl ?_
                  refine y_not (by kernel_rfl) rfl ?_
                  refine y_not (by kernel_rfl) rfl ?_
                  refine y_val (r_pick (v := .bool _) rfl rfl rfl) (by kernel_rfl) rfl ?_
                  refine y_val (r_pick (v := .bool _) rfl rfl rfl) rfl rfl ?_
                  refine y_end ?_
                  intro W hW
                  refine n_then ?_
                  refine c_false rfl ?_
                  refine c_skip ?_
                  refine n_then ?_
                  refine c_reg ?_
                  refine l_val (r_move (v := .int _ _) rfl rfl) rfl rfl ?_
                  refine l_val (r_move (v := .slice _ _ _) rfl rfl) rfl rfl ?_
                  refine l_val (r_move (v := .int _ _) rfl rfl) rfl rfl ?_
                  refine l_val (r_indexAddrSl1 (n := i) Try.underlying69 tyC35.size rfl rfl rfl (by omega)) rfl rfl ?_
                  refine l_loadC hW 1 tyC35 (v := s.v) rfl rfl rfl rfl rfl (hv _ _ e) ?_
                  refine l_val (r_lenSlice Try.underlying35 rfl rfl) rfl rfl ?_
                  refine l_val (r_addN rfl rfl rfl (by omega)) rfl rfl ?_
                  refine l_val (r_assign (v := .int _ _) rfl rfl) rfl rfl ?_
                  refine l_end ?_
                  refine n_block ?_
                  refine n_then ?_
                  refine c_reg ?_
                  refine l_val (r_move (v := .int _ _) rfl rfl) rfl rfl ?_
                  refine l_val (r_addN (n := 1) rfl rfl rfl (by omega)) rfl rfl ?_
                  refine l_val (r_assign (v := .int _ _) rfl rfl) rfl rfl ?_
                  refine l_end ?_
                  refine n_then ?_
                  exact loop_next (i + 1, sumL ((groups h).take i) + s.n) (by kernel_rfl) hW ⟨by simp only; omega, by simp only; rw [sumL_take f, hs], all_step hg (okG_of f (by assumption) fun h2 => by omega)⟩ (by simp only; omega)
              · intro hc7
                refine y_val (r_not rfl rfl) rfl rfl ?_
                refine y_val (r_move (v := .bool _) rfl rfl) rfl rfl ?_
                refine y_not (by kernel_rfl) rfl ?_
                refine y_not (by kernel_rfl) rfl ?_
                refine y_not (by kernel_rfl) rfl ?_
                refine y_not (by kernel_rfl) rfl ?_
                refine y_not (by kernel_rfl) rfl ?_
                refine y_not (by kernel_rfl) rfl ?_
                refine y_not (by kernel_rfl) rfl ?_
                refine y_not (by kernel_rfl) rfl ?_
                refine y_not (by kernel_rfl) rfl ?_
                refine y_not (by kernel_rfl) rfl ?_
                refine y_val (r_pick (v := .bool _) rfl rfl rfl) rfl rfl ?_
                refine y_end ?_
                intro W hW
                refine n_then ?_
                refine c_true rfl ?_
                refine c_seq ?_
                refine c_reg ?_
                refine l_val (r_assign (v := .bool _) rfl rfl) rfl rfl ?_
                refine l_end ?_
                refine n_then ?_
                refine c_ret ?_
                refine r_then ?_
                refine r_block ?_
                refine r_then ?_
                refine r_then ?_
                refine r_block ?_
                refine r_then ?_
                refine ret_tmp (v := .bool (validB h)) rfl ?_ ⟨rfl, hW.below⟩
                rw [vb_group f (by first | exact .inl (by assumption) | exact .inr ⟨by omega, by omega⟩)]; rfl
            · intro hc6
              replace hc6 := of_decide_eq_false hc6
              obtain rfl : i = 2 + 2 * pn := by omega
              refine l_end ?_
              refine n_then ?_
              refine c_false rfl ?_
              refine c_exit ?_
              refine x_then ?_
              refine x_then ?_
              refine x_hit ?_
              refine n_then ?_
              refine c_seq ?_
              refine c_seq ?_
              refine c_reg ?_
              refine l_val (r_assign (v := .int _ _) rfl rfl) rfl rfl ?_
              refine l_end ?_
              refine n_then ?_
              refine c_block ?_
              refine c_loop (fun (u : Nat) (j : Nat → Value) => [.agg [.int .i64 h.users, .slice pa pn pc, .slice r.a r.n r.c, .slice q.a q.n q.c, .int .i64 h.rounds].toArray, .pointer (some ⟨g1, 0, none⟩), j 2, .slice (some ⟨gq, 0, none⟩) (2 + 2 * pn) c1, .int .i64 ((sumL ((groups h).take (2 + 2 * pn)) : Nat) : Int), j 5, .int .i64 (u : Int), j 7, j 8, .pointer (some ⟨g1, 0, none⟩), .int .i64 h.users, .bool false, .bool false, .pointer (some ⟨g1, 0, none⟩), .int .i64 h.users, .bool false, .bool false, .bool false, .pointer (some ⟨g1, 4, none⟩), .int .i64 h.rounds, .bool false, .bool false, .bool false, .pointer (some ⟨g1, 4, none⟩), .int .i64 h.rounds, .bool false, .bool false, .bool false, .pointer (some ⟨g1, 1, none⟩), .slice pa pn pc, j 30, .bool false, .bool false, .agg ([.int .i64 h.users, .slice pa pn pc, .slice r.a r.n r.c, .slice q.a q.n q.c, .int .i64 h.rounds]).toArray, .slice (some ⟨gq, 0, none⟩) (2 + 2 * pn) c1, j 35, .slice (some ⟨gq, 0, none⟩) (2 + 2 * pn) c1, j 37, .bool false, j 39, j 40, j 41, j 42, j 43, j 44, j 45, j 46, j 47, j 48, j 49, j 50, j 51, j 52, j 53, j 54, j 55, j 56, j 57, j 58, j 59, j 60, j 61, j 62, j 63, j 64, j 65, j 66, j 67, j 68, j 69, j 70, j 71, j 72, j 73, j 74, j 75, j 76, j 77, j 78, j 79, j 80, j 81, j 82, j 83, j 84, j 85, j 86, j 87, j 88, j 89, j 90, j 91, j 92, j 93, j 94]) (fun (u : Nat) => [⟨g1, [.int .i64 h.users, .slice pa pn pc, .slice r.a r.n r.c, .slice q.a q.n q.c, .int .i64 h.rounds], 52⟩, ⟨gq, cur, 35⟩]) (fun (u : Nat) => (u : Int) ≤ h.users ∧ ∀ k : Nat, k < u → (groups h).any (fun g => g.contains (k : Int)) = true) (fun (u : Nat) => h.users.toNat - u) 0 (by kernel_rfl) hW ⟨by omega, all_zero⟩ ?_
              intro u j W hx hW
              obtain ⟨hu, hcov⟩ := hx
              refine c_seq ?_
              refine c_seq ?_
              refine c_reg ?_
              refine l_val (r_move (v := .int _ _) rfl rfl) rfl rfl ?_
              refine l_val (r_fieldAddr 0 Try.underlying52 rfl tyC3.size rfl rfl rfl) rfl rfl ?_
              refine l_loadC hW 0 tyC3 rfl rfl rfl rfl rfl rfl ?_
              refine l_val (r_lss rfl rfl rfl rfl) rfl rfl ?_
              refine l_split ?_ ?_
              · intro hc10
                replace hc10 := of_decide_eq_true hc10
                refine l_end ?_
                refine n_then ?_
                refine c_true rfl ?_
                refine c_skip ?_
                refine n_then ?_
                refine c_seq ?_
                refine c_block ?_
                refine c_seq ?_
                refine c_reg ?_
                refine l_val (r_assign (v := .bool _) rfl rfl) rfl rfl ?_
                refine l_end ?_
                refine n_then ?_
                refine c_seq ?_
                refine c_seq ?_
                refine c_reg ?_
                refine l_val (r_assign (v := .int _ _) rfl rfl) rfl rfl ?_
                refine l_end ?_
                refine n_then ?_
                refine c_block ?_
                refine c_loop (fun (y : Nat × Bool) (j : Nat → Value) => [.agg [.int .i64 h.users, .slice pa pn pc, .slice r.a r.n r.c, .slice q.a q.n q.c, .int .i64 h.rounds].toArray, .pointer (some ⟨g1, 0, none⟩), j 2, .slice (some ⟨gq, 0, none⟩) (2 + 2 * pn) c1, .int .i64 ((sumL ((groups h).take (2 + 2 * pn)) : Nat) : Int), j 5, .int .i64 (u : Int), .bool y.2, .int .i64 (y.1 : Int), .pointer (some ⟨g1, 0, none⟩), .int .i64 h.users, .bool false, .bool false, .pointer (some ⟨g1, 0, none⟩), .int .i64 h.users, .bool false, .bool false, .bool false, .pointer (some ⟨g1, 4, none⟩), .int .i64 h.rounds, .bool false, .bool false, .bool false, .pointer (some ⟨g1, 4, none⟩), .int .i64 h.rounds, .bool false, .bool false, .bool false, .pointer (some ⟨g1, 1, none⟩), .slice pa pn pc, j 30, .bool false, .bool false, .agg ([.int .i64 h.users, .slice pa pn pc, .slice r.a r.n r.c, .slice q.a q.n q.c, .int .i64 h.rounds]).toArray, .slice (some ⟨gq, 0, none⟩) (2 + 2 * pn) c1, j 35, .slice (some ⟨gq, 0, none⟩) (2 + 2 * pn) c1, j 37, .bool false, j 39, j 40, j 41, j 42, j 43, j 44, j 45, j 46, j 47, j 48, j 49, j 50, j 51, j 52, j 53, j 54, j 55, j 56, j 57, j 58, j 59, j 60, j 61, j 62, j 63, j 64, j 65, j 66, j 67, .int .i64 (u : Int), .pointer (some ⟨g1, 0, none⟩), .int .i64 h.users, .bool true, j 72, j 73, j 74, j 75, j 76, j 77, j 78, j 79, j 80, j 81, j 82, j 83, j 84, j 85, j 86, j 87, j 88, j 89, j 90, j 91, j 92, j 93, j 94]) (fun (y : Nat × Bool) => [⟨g1, [.int .i64 h.users, .slice pa pn pc, .slice r.a r.n r.c, .slice q.a q.n q.c, .int .i64 h.rounds], 52⟩, ⟨gq, cur, 35⟩]) (fun (y : Nat × Bool) => y.1 ≤ 2 + 2 * pn ∧ y.2 = ((groups h).take y.1).any (fun g => g.contains (u : Int))) (fun (y : Nat × Bool) => 2 + 2 * pn - y.1) (0, false) (by kernel_rfl) hW ⟨Nat.zero_le _, rfl⟩ ?_
                intro y j W hx hW
                obtain ⟨k, b⟩ := y
                obtain ⟨hy, hb⟩ := hx
                simp only at hy hb
                refine c_seq ?_
                refine c_seq ?_
                refine c_reg ?_
                refine l_val (r_move (v := .int _ _) rfl rfl) rfl rfl ?_
                refine l_val (r_move (v := .slice _ _ _) rfl rfl) rfl rfl ?_
                refine l_val (r_lenSlice Try.underlying69 rfl rfl) rfl rfl ?_
                refine l_val (r_lssN rfl rfl rfl rfl) rfl rfl ?_
                refine l_split ?_ ?_
                · intro hc11
                  replace hc11 := of_decide_eq_true hc11
                  have hi : k < 2 + 2 * pn := by omega
                  obtain ⟨s, l, e, f, hr⟩ := hP.grp hi
                  have hs := hr.len
                  have hll := hone l (List.mem_of_getElem? f)
                  refine l_end ?_
                  refine n_then ?_
                  refine c_true rfl ?_
                  refine c_skip ?_
                  refine n_then ?_
                  refine c_seq ?_
                  refine c_block ?_
                  refine c_reg ?_
                  refine l_val (r_move (v := .bool _) rfl rfl) rfl rfl ?_
                  refine l_split ?_ ?_
                  · intro hc12
                    refine l_val (r_move (v := .bool _) rfl rfl) rfl rfl ?_
                    refine l_not (by kernel_rfl) rfl ?_
                    refine l_not (by kernel_rfl) rfl ?_
                    refine l_not (by kernel_rfl) rfl ?_
                    refine l_not (by kernel_rfl) rfl ?_
                    refine l_not (by kernel_rfl) rfl ?_
                    refine l_not (by kernel_rfl) rfl ?_
                    refine l_val (r_pick (v := .bool _) rfl rfl rfl) rfl rfl ?_
                    refine l_val (r_assign (v := .bool _) rfl rfl) rfl rfl ?_
                    refine l_end ?_
                    refine n_block ?_
                    refine n_then ?_
                    refine c_reg ?_
                    refine l_val (r_move (v := .int _ _) rfl rfl) rfl rfl ?_
                    refine l_val (r_addN (n := 1) rfl rfl rfl (by omega)) rfl rfl ?_
                    refine l_val (r_assign (v := .int _ _) rfl rfl) rfl rfl ?_
                    refine l_end ?_
                    refine n_then ?_
                    exact loop_next (k + 1, true) (by kernel_rfl) hW ⟨by simp only; omega, by simp only; exact any_next f hb (by rw [show b = true from hc12]; rfl)⟩ (by simp only; omega)
                  · intro hc12
                    refine l_val (r_move (v := .bool _) rfl rfl) rfl rfl ?_
                    refine l_valG (r_move (v := .slice _ _ _) rfl rfl) (by kernel_rfl) rfl ?_
                    refine l_valG (r_move (v := .int _ _) rfl rfl) (by kernel_rfl) rfl ?_
                    refine l_valG (r_indexAddrSl1 (n := k) Try.underlying69 tyC35.size rfl rfl rfl (by omega)) (by kernel_rfl) rfl ?_
                    refine l_loadCG hW 1 tyC35 (v := s.v) (by kernel_rfl) rfl rfl rfl rfl (hv _ _ e) ?_
                    refine l_valG (r_move (v := .int _ _) rfl rfl) (by kernel_rfl) rfl ?_
                    refine l_callRG hW (g_rin s.a s.n s.c l (u : Int) (by omega)) en79 (hr.past hW.below) (by kernel_rfl) rfl rfl rfl ?_
                    intro W hW
                    refine l_split ?_ ?_
                    · intro hc13
                      refine l_val (r_pick (v := .bool _) rfl rfl rfl) rfl rfl ?_
                      refine l_val (r_assign (v := .bool _) rfl rfl) rfl rfl ?_
                      refine l_end ?_
                      refine n_block ?_
                      refine n_then ?_
                      refine c_reg ?_
                      refine l_val (r_move (v := .int _ _) rfl rfl) rfl rfl ?_
                      refine l_val (r_addN (n := 1) rfl rfl rfl (by omega)) rfl rfl ?_
                      refine l_val (r_assign (v := .int _ _) rfl rfl) rfl rfl ?_
                      refine l_end ?_
                      refine n_then ?_
                      exact loop_next (k + 1, true) (by kernel_rfl) hW ⟨by simp only; omega, by simp only; exact any_next f hb (by rw [show b = false from hc12, hc13]; rfl)⟩ (by simp only; omega)
                    · intro hc13
                      refine l_val (r_pick (v := .bool _) rfl rfl rfl) rfl rfl ?_
                      refine l_val (r_assign (v := .bool _) rfl rfl) rfl rfl ?_
                      refine l_end ?_
                      refine n_block ?_
                      refine n_then ?_
                      refine c_reg ?_
                      refine l_val (r_move (v := .int _ _) rfl rfl) rfl rfl ?_
                      refine l_val (r_addN (n := 1) rfl rfl rfl (by omega)) rfl rfl ?_
                      refine l_val (r_assign (v := .int _ _) rfl rfl) rfl rfl ?_
                      refine l_end ?_
                      refine n_then ?_
                      exact loop_next (k + 1, false) (by kernel_rfl) hW ⟨by simp only; omega, by simp only; exact any_next f hb (by rw [show b = false from hc12, hc13]; rfl)⟩ (by simp only; omega)
                · intro hc11
                  replace hc11 := of_decide_eq_false hc11
                  obtain rfl : k = 2 + 2 * pn := by omega
                  rw [List.take_of_length_le (by omega)] at hb
                  refine l_end ?_
                  refine n_then ?_
                  refine c_false rfl ?_
                  refine c_exit ?_
                  refine x_then ?_
                  refine x_then ?_
                  refine x_hit ?_
                  refine n_then ?_
                  refine c_seq ?_
                  refine c_reg ?_
                  refine l_val (r_move (v := .bool _) rfl rfl) rfl rfl ?_
                  refine l_split ?_ ?_
                  · intro hc14
                    refine l_val (r_not rfl rfl) rfl rfl ?_
                    refine l_end ?_
                    refine n_then ?_
                    refine c_false rfl ?_
                    refine c_skip ?_
                    refine n_block ?_
                    refine n_then ?_
                    refine c_reg ?_
                    refine l_val (r_move (v := .int _ _) rfl rfl) rfl rfl ?_
                    refine l_val (r_addN (n := 1) rfl rfl rfl (by omega)) rfl rfl ?_
                    refine l_val (r_assign (v := .int _ _) rfl rfl) rfl rfl ?_
                    refine l_end ?_
                    refine n_then ?_
                    exact loop_next (u + 1) (by kernel_rfl) hW ⟨by omega, all_step hcov (by rw [← hb]; exact hc14)⟩ (by omega)
                  · intro hc14
                    refine l_val (r_not rfl rfl) rfl rfl ?_
                    refine l_end ?_
                    refine n_then ?_
                    refine c_true rfl ?_
                    refine c_seq ?_
                    refine c_reg ?_
                    refine l_val (r_assign (v := .bool _) rfl rfl) rfl rfl ?_
                    refine l_end ?_
                    refine n_then ?_
                    refine c_ret ?_
                    refine r_block ?_
                    refine r_then ?_
                    refine r_then ?_
                    refine r_block ?_
                    refine r_then ?_
                    refine ret_tmp (v := .bool (validB h)) rfl ?_ ⟨rfl, hW.below⟩
                    rw [vb_cover (u := u) (by omega) (by rw [← hb]; exact hc14)]; rfl
              · intro hc10
                replace hc10 := of_decide_eq_false hc10
                refine l_end ?_
                refine n_then ?_
                refine c_false rfl ?_
                refine c_exit ?_
                refine x_then ?_
                refine x_then ?_
                refine x_hit ?_
                refine n_then ?_
                refine c_seq ?_
                refine c_reg ?_
                refine l_val (r_move (v := .int _ _) rfl rfl) rfl rfl ?_
                refine l_val (r_fieldAddr 0 Try.underlying52 rfl tyC3.size rfl rfl rfl) rfl rfl ?_
                refine l_loadC hW 0 tyC3 rfl rfl rfl rfl rfl rfl ?_
                refine l_val (r_eql rfl rfl rfl rfl) rfl rfl ?_
                refine l_val (r_assign (v := .bool _) rfl rfl) rfl rfl ?_
                refine l_end ?_
                refine n_then ?_
                refine c_ret ?_
                refine ret_tmp (v := .bool (validB h)) rfl ?_ ⟨rfl, hW.below⟩
                rw [vb_end (N := 2 + 2 * pn) (by omega) (by omega) hg fun k hk => hcov k (by omega)]
                exact congrArg (fun g => Value.bool (decide ((sumL g : Int) = h.users))) (List.take_of_length_le (by omega))

end Go.Proofs.Ytoegpalacppllaa

/- Variants, by the reference. -/
namespace Go.Proofs.Ytoegpalacppllaa
open Go.RowKit Pl
open Tr Hn
set_option maxRecDepth 10000 in
/-- headend/headendref08.CheckHunt -/
theorem g_rCheckHunt (h : Hu) (pa : Option Addr) (pn pc : Nat) (r q : Sl) (ss : List Sl) (hsm : Small h) (hfit : pn * 48 ≤ 140737488351232) : GivesR Try.prog 28 [.agg [.int .i64 h.users, .slice pa pn pc, .slice r.a r.n r.c, .slice q.a q.n q.c, .int .i64 h.rounds].toArray].toArray (fun w => RdHu w h ⟨pa, pn, pc⟩ r q ss) (.int .i64 (chkH h)) := by
  refine givesR_of Try.func28 rfl (bs := [.agg [.int .i64 h.users, .slice pa pn pc, .slice r.a r.n r.c, .slice q.a q.n q.c, .int .i64 h.rounds].toArray, undef, undef, undef, undef, undef]) rfl ?_
  intro w hP hW
  refine c_seq ?_
  refine c_reg ?_
  refine l_box hW rfl rfl rfl rfl ?_
  intro g1 W hW
  refine l_val (r_assign (v := .int _ _) rfl rfl) rfl rfl ?_
  refine l_end ?_
  refine n_then ?_
  refine c_seq ?_
  refine c_seq ?_
  refine c_reg ?_
  refine l_loadA hW 0 tyA52 rfl rfl rfl rfl rfl (by first | rfl | exact kc_len _ | exact kcf_len _ | (simp; done)) ?_
  refine l_callR hW (g_ValidHunt h pa pn pc r q ss hsm hfit) en46 (hP.past hW.below) rfl rfl rfl rfl ?_
  intro W hW
  refine l_split ?_ ?_
  · intro hc1
    refine l_val (r_not rfl rfl) rfl rfl ?_
    refine l_end ?_
    refine n_then ?_
    refine c_false rfl ?_
    refine c_skip ?_
    refine n_then ?_
    refine c_seq ?_
    refine c_reg ?_
    refine l_val (r_assign (v := .int _ _) rfl rfl) rfl rfl ?_
    refine l_end ?_
    refine n_then ?_
    refine c_ret ?_
    refine ret_tmp (v := .int .i64 (chkH h)) rfl ?_ ⟨rfl, hW.below⟩
    rw [chkH_yes hc1]; rfl
  · intro hc1
    refine l_val (r_not rfl rfl) rfl rfl ?_
    refine l_end ?_
    refine n_then ?_
    refine c_true rfl ?_
    refine c_seq ?_
    refine c_reg ?_
    refine l_val (r_assign (v := .int _ _) rfl rfl) rfl rfl ?_
    refine l_end ?_
    refine n_then ?_
    refine c_ret ?_
    refine r_then ?_
    refine ret_tmp (v := .int .i64 (chkH h)) rfl ?_ ⟨rfl, hW.below⟩
    rw [chkH_no hc1]; rfl

set_option maxRecDepth 10000 in
/-- headend/headendref08.variant -/
theorem g_variant (h : Hu) (pa : Option Addr) (pn pc : Nat) (r q : Sl) (ss : List Sl) (u : Int) (hsm : Small h) (hfit : pn * 48 ≤ 140737488351232) : GivesR Try.prog 47 [.agg [.int .i64 h.users, .slice pa pn pc, .slice r.a r.n r.c, .slice q.a q.n q.c, .int .i64 h.rounds].toArray, .int .i64 u].toArray (fun w => RdHu w h ⟨pa, pn, pc⟩ r q ss) (.int .i64 (variantB h u)) := by
  refine givesR_of Try.func47 rfl (bs := [.agg [.int .i64 h.users, .slice pa pn pc, .slice r.a r.n r.c, .slice q.a q.n q.c, .int .i64 h.rounds].toArray, .int .i64 u, undef, undef, undef, undef, undef, undef, undef, undef, undef, undef, undef, undef, undef, undef, undef, undef, undef, undef, undef, undef, undef, undef, undef, undef, undef, undef, undef, undef, undef, undef, undef, undef, undef, undef, undef, undef, undef]) rfl ?_
  intro w hP hW
  have hpn := hP.pn
  have hpl := hP.len
  simp only at hpn
  have hgl := hP.gl
  have hgs := hsm.sum
  have hone := hsm.one
  refine c_seq ?_
  refine c_reg ?_
  refine l_box hW rfl rfl rfl rfl ?_
  intro g1 W hW
  refine l_val (r_assign (v := .int _ _) rfl rfl) rfl rfl ?_
  refine l_end ?_
  refine n_then ?_
  refine c_seq ?_
  refine c_seq ?_
  refine c_reg ?_
  refine l_val (r_assign (v := .int _ _) rfl rfl) rfl rfl ?_
  refine l_end ?_
  refine n_then ?_
  refine c_block ?_
  refine c_loop (fun (i : Nat) (j : Nat → Value) => [.agg [.int .i64 h.users, .slice pa pn pc, .slice r.a r.n r.c, .slice q.a q.n q.c, .int .i64 h.rounds].toArray, .int .i64 u, .pointer (some ⟨g1, 0, none⟩), j 3, j 4, .int .i64 (i : Int), j 6, j 7, j 8, j 9, j 10, j 11, j 12, j 13, j 14, j 15, j 16, j 17, j 18, j 19, j 20, j 21, j 22, j 23, j 24, j 25, j 26, j 27, j 28, j 29, j 30, j 31, j 32, j 33, j 34, j 35, j 36, j 37, j 38]) (fun (i : Nat) => [⟨g1, [.int .i64 h.users, .slice pa pn pc, .slice r.a r.n r.c, .slice q.a q.n q.c, .int .i64 h.rounds], 52⟩]) (fun (i : Nat) => i ≤ pn ∧ varF h.named u (h.ps.drop (2 * i)) (2 * i) = variantB h u) (fun (i : Nat) => pn - i) 0 (by kernel_rfl) hW ⟨Nat.zero_le _, rfl⟩ ?_
  intro i j W hx hW
  obtain ⟨hx, hg⟩ := hx
  refine c_seq ?_
  refine c_seq ?_
  refine c_reg ?_
  refine l_val (r_move (v := .int _ _) rfl rfl) rfl rfl ?_
  refine l_val (r_fieldAddr 1 Try.underlying52 rfl tyC50.size rfl rfl rfl) rfl rfl ?_
  refine l_loadC hW 0 tyC50 rfl rfl rfl rfl rfl rfl ?_
  refine l_val (r_lenSlice Try.underlying50 rfl rfl) rfl rfl ?_
  refine l_val (r_lssN rfl rfl rfl rfl) rfl rfl ?_
  refine l_split ?_ ?_
  · intro hc1
    replace hc1 := of_decide_eq_true hc1
    have hlt : i < pn := by omega
    obtain ⟨b0, o0, rfl⟩ := hP.ptr (by omega)
    obtain ⟨s0, s1, l0, l1, e0, e1, f0, f1, c0, c1, hr0, hr1⟩ := hP.side2 hlt
    have hl0 := hsm.one l0 (by simp [groups, List.mem_of_getElem? f0])
    have hl1 := hsm.one l1 (by simp [groups, List.mem_of_getElem? f1])
    rw [varF_two f0 f1] at hg
    refine l_end ?_
    refine n_then ?_
    refine c_true rfl ?_
    refine c_skip ?_
    refine n_then ?_
    refine c_seq ?_
    refine c_block ?_
    refine c_seq ?_
    refine c_seq ?_
    refine c_reg ?_
    refine l_val (r_fieldAddr 1 Try.underlying52 rfl tyC50.size rfl rfl rfl) rfl rfl ?_
    refine l_loadC hW 0 tyC50 rfl rfl rfl rfl rfl rfl ?_
    refine l_val (r_move (v := .int _ _) rfl rfl) rfl rfl ?_
    refine l_val (r_indexAddrSl Try.underlying50 tyA99.size rfl rfl rfl (by omega)) rfl rfl ?_
    refine l_val (r_fieldAddr _ Try.underlying99 rfl tyC35.size rfl rfl rfl) rfl rfl ?_
    refine l_loadF hW tyC35 (v := s0.v) (c0) rfl rfl rfl rfl ?_
    refine l_val (r_move (v := .int _ _) rfl rfl) rfl rfl ?_
    refine l_callR hW (g_rin s0.a s0.n s0.c l0 u (by omega)) en79 (hr0.past hW.below) rfl rfl rfl rfl ?_
    intro W hW
    refine l_split ?_ ?_
    · intro hc2
      refine l_end ?_
      refine n_then ?_
      refine c_true rfl ?_
      refine c_seq ?_
      refine c_reg ?_
      refine l_val (r_move (v := .int _ _) rfl rfl) rfl rfl ?_
      refine l_val (r_mulN (m := 2) rfl rfl rfl (by omega)) rfl rfl ?_
      refine l_val (r_addN (n := 1) rfl rfl rfl (by omega)) rfl rfl ?_
      refine l_val (r_assign (v := .int _ _) rfl rfl) rfl rfl ?_
      refine l_end ?_
      refine n_then ?_
      refine c_ret ?_
      refine r_then ?_
      refine r_block ?_
      refine r_then ?_
      refine r_then ?_
      refine r_block ?_
      refine r_then ?_
      refine ret_tmp (v := .int .i64 (variantB h u)) rfl ?_ ⟨rfl, hW.below⟩
      rw [← var_a hg hc2]; rfl
    · intro hc2
      refine l_end ?_
      refine n_then ?_
      refine c_false rfl ?_
      refine c_skip ?_
      refine n_then ?_
      refine c_seq ?_
      refine c_reg ?_
      refine l_val (r_fieldAddr 1 Try.underlying52 rfl tyC50.size rfl rfl rfl) rfl rfl ?_
      refine l_loadC hW 0 tyC50 rfl rfl rfl rfl rfl rfl ?_
      refine l_val (r_move (v := .int _ _) rfl rfl) rfl rfl ?_
      refine l_val (r_indexAddrSl Try.underlying50 tyA99.size rfl rfl rfl (by omega)) rfl rfl ?_
      refine l_val (r_fieldAddr _ Try.underlying99 rfl tyC35.size rfl rfl rfl) rfl rfl ?_
      refine l_loadF hW tyC35 (v := s1.v) (c1) rfl rfl rfl rfl ?_
      refine l_val (r_move (v := .int _ _) rfl rfl) rfl rfl ?_
      refine l_callR hW (g_rin s1.a s1.n s1.c l1 u (by omega)) en79 (hr1.past hW.below) rfl rfl rfl rfl ?_
      intro W hW
      refine l_split ?_ ?_
      · intro hc3
        refine l_end ?_
        refine n_then ?_
        refine c_true rfl ?_
        refine c_seq ?_
        refine c_reg ?_
        refine l_val (r_move (v := .int _ _) rfl rfl) rfl rfl ?_
        refine l_val (r_mulN (m := 2) rfl rfl rfl (by omega)) rfl rfl ?_
        refine l_val (r_addN (n := 2) rfl rfl rfl (by omega)) rfl rfl ?_
        refine l_val (r_assign (v := .int _ _) rfl rfl) rfl rfl ?_
        refine l_end ?_
        refine n_then ?_
        refine c_ret ?_
        refine r_block ?_
        refine r_then ?_
        refine r_then ?_
        refine r_block ?_
        refine r_then ?_
        refine ret_tmp (v := .int .i64 (variantB h u)) rfl ?_ ⟨rfl, hW.below⟩
        rw [← var_b hg hc2 hc3]; rfl
      · intro hc3
        refine l_end ?_
        refine n_then ?_
        refine c_false rfl ?_
        refine c_skip ?_
        refine n_block ?_
        refine n_then ?_
        refine c_reg ?_
        refine l_val (r_move (v := .int _ _) rfl rfl) rfl rfl ?_
        refine l_val (r_addN (n := 1) rfl rfl rfl (by omega)) rfl rfl ?_
        refine l_val (r_assign (v := .int _ _) rfl rfl) rfl rfl ?_
        refine l_end ?_
        refine n_then ?_
        exact loop_next (i + 1) (by kernel_rfl) hW ⟨by omega, var_c hg hc2 hc3⟩ (by omega)
  · intro hc1
    replace hc1 := of_decide_eq_false hc1
    replace hg := var_end hg (by omega)
    have hln := hone h.named (by simp [groups])
    refine l_end ?_
    refine n_then ?_
    refine c_false rfl ?_
    refine c_exit ?_
    refine x_then ?_
    refine x_then ?_
    refine x_hit ?_
    refine n_then ?_
    refine c_seq ?_
    refine c_seq ?_
    refine c_reg ?_
    refine l_val (r_fieldAddr 3 Try.underlying52 rfl tyC35.size rfl rfl rfl) rfl rfl ?_
    refine l_loadC hW 0 tyC35 rfl rfl rfl rfl rfl rfl ?_
    refine l_val (r_move (v := .int _ _) rfl rfl) rfl rfl ?_
    refine l_callR hW (g_rin q.a q.n q.c h.named u (by omega)) en79 (hP.named.past hW.below) rfl rfl rfl rfl ?_
    intro W hW
    refine l_split ?_ ?_
    · intro hc4
      refine l_end ?_
      refine n_then ?_
      refine c_true rfl ?_
      refine c_seq ?_
      refine c_reg ?_
      refine l_val (r_assign (v := .int _ _) rfl rfl) rfl rfl ?_
      refine l_end ?_
      refine n_then ?_
      refine c_ret ?_
      refine r_then ?_
      refine ret_tmp (v := .int .i64 (variantB h u)) rfl ?_ ⟨rfl, hW.below⟩
      rw [if_pos hc4] at hg
      rw [← hg]; rfl
    · intro hc4
      refine l_end ?_
      refine n_then ?_
      refine c_false rfl ?_
      refine c_skip ?_
      refine n_then ?_
      refine c_seq ?_
      refine c_reg ?_
      refine l_val (r_assign (v := .int _ _) rfl rfl) rfl rfl ?_
      refine l_end ?_
      refine n_then ?_
      refine c_ret ?_
      refine ret_tmp (v := .int .i64 (variantB h u)) rfl ?_ ⟨rfl, hW.below⟩
      rw [if_neg (by rw [hc4]; exact Bool.false_ne_true)] at hg
      rw [← hg]; rfl

set_option maxRecDepth 10000 in
/-- headend/headendref08.Variants -/
theorem g_rVariants (h : Hu) (pa : Option Addr) (pn pc : Nat) (r q : Sl) (ss : List Sl) (hsm : Small h) (hfit : pn * 48 ≤ 140737488351232) : GivesX Try.prog 22 [.agg [.int .i64 h.users, .slice pa pn pc, .slice r.a r.n r.c, .slice q.a q.n q.c, .int .i64 h.rounds].toArray].toArray (fun w => RdHu w h ⟨pa, pn, pc⟩ r q ss) (fun v Bs => ∃ s : Sl, v = .tuple #[s.v, .int .i64 (chkH h)] ∧ NewI s (varsR h) Bs) := by
  refine givesX_of Try.func22 rfl (bs := [.agg [.int .i64 h.users, .slice pa pn pc, .slice r.a r.n r.c, .slice q.a q.n q.c, .int .i64 h.rounds].toArray, undef, undef, undef, undef, undef, undef, undef, undef, undef, undef, undef, undef, undef, undef, undef, undef, undef, undef, undef, undef, undef]) rfl ?_
  intro w hP hW
  refine c_seq ?_
  refine c_reg ?_
  refine l_box hW rfl rfl rfl rfl ?_
  intro g1 W hW
  refine l_val (r_assign (v := .slice _ _ _) rfl rfl) rfl rfl ?_
  refine l_val (r_assign (v := .int _ _) rfl rfl) rfl rfl ?_
  refine l_end ?_
  refine n_then ?_
  refine c_seq ?_
  refine c_seq ?_
  refine c_reg ?_
  refine l_loadA hW 0 tyA52 rfl rfl rfl rfl rfl (by first | rfl | exact kc_len _ | exact kcf_len _ | (simp; done)) ?_
  refine l_callR hW (g_ValidHunt h pa pn pc r q ss hsm hfit) en46 (hP.past hW.below) rfl rfl rfl rfl ?_
  intro W hW
  refine l_split ?_ ?_
  · intro hc1
    have hu := ((valid_iff h).1 hc1).u1
    have hu2 := ((valid_iff h).1 hc1).u2
    refine l_val (r_not rfl rfl) rfl rfl ?_
    refine l_end ?_
    refine n_then ?_
    refine c_false rfl ?_
    refine c_skip ?_
    refine n_then ?_
    refine c_seq ?_
    refine c_reg ?_
    refine l_val (r_assign (v := .slice _ _ _) rfl rfl) rfl rfl ?_
    refine l_end ?_
    refine n_then ?_
    refine c_seq ?_
    refine c_seq ?_
    refine c_reg ?_
    refine l_val (r_assign (v := .int _ _) rfl rfl) rfl rfl ?_
    refine l_end ?_
    refine n_then ?_
    refine c_block ?_
    refine c_loop (fun (x : Nat × Option Addr × Nat × List Blk) (j : Nat → Value) => [.agg [.int .i64 h.users, .slice pa pn pc, .slice r.a r.n r.c, .slice q.a q.n q.c, .int .i64 h.rounds].toArray, .pointer (some ⟨g1, 0, none⟩), j 2, .int .i64 0, .slice x.2.1 x.1 x.2.2.1, .int .i64 (x.1 : Int), .agg ([.int .i64 h.users, .slice pa pn pc, .slice r.a r.n r.c, .slice q.a q.n q.c, .int .i64 h.rounds]).toArray, .bool true, .bool false, j 9, j 10, j 11, j 12, j 13, j 14, j 15, j 16, j 17, j 18, j 19, j 20, j 21]) (fun (x : Nat × Option Addr × Nat × List Blk) => [⟨g1, [.int .i64 h.users, .slice pa pn pc, .slice r.a r.n r.c, .slice q.a q.n q.c, .int .i64 h.rounds], 52⟩] ++ x.2.2.2) (fun (x : Nat × Option Addr × Nat × List Blk) => (x.1 : Int) ≤ h.users ∧ OwnSl 3 1 x.2.1 x.1 x.2.2.1 (il ((variants h).take x.1)) x.2.2.2) (fun (x : Nat × Option Addr × Nat × List Blk) => h.users.toNat - x.1) (0, none, 0, []) (by kernel_rfl) hW ⟨by omega, OwnSl.nil 3 1⟩ ?_
    intro x j W hx hW
    obtain ⟨hx, hO⟩ := hx
    refine c_seq ?_
    refine c_seq ?_
    refine c_reg ?_
    refine l_val (r_move (v := .int _ _) rfl rfl) rfl rfl ?_
    refine l_val (r_fieldAddr 0 Try.underlying52 rfl tyC3.size rfl rfl rfl) rfl rfl ?_
    refine l_loadC hW 0 tyC3 rfl rfl rfl rfl rfl rfl ?_
    refine l_val (r_lss rfl rfl rfl rfl) rfl rfl ?_
    refine l_split ?_ ?_
    · intro hc2
      replace hc2 := of_decide_eq_true hc2
      refine l_end ?_
      refine n_then ?_
      refine c_true rfl ?_
      refine c_skip ?_
      refine n_then ?_
      refine c_seq ?_
      refine c_block ?_
      refine c_reg ?_
      refine l_val (r_move (v := .slice _ _ _) rfl rfl) rfl rfl ?_
      refine l_loadA hW 0 tyA52 rfl rfl rfl rfl rfl (by first | rfl | exact kc_len _ | exact kcf_len _ | (simp; done)) ?_
      refine l_val (r_move (v := .int _ _) rfl rfl) rfl rfl ?_
      refine l_callR hW (g_variant h pa pn pc r q ss (x.1 : Int) hsm hfit) en47 (hP.past hW.below) rfl rfl rfl rfl ?_
      intro W hW
      refine l_buildSliceF hW (bsl35_1_0 _) rfl rfl rfl rfl ?_
      intro gb W hW
      refine l_appendB tyE35 (L := [_, _]) hO hW 0 (N := x.1 + 1) rfl rfl rfl rfl rfl rfl rfl rfl (by simp [Value.oneCell']) (by unfold maxLen; omega) (by omega) ?_
      intro a1 c1 Bs1 W hO1 hW
      replace hO1 := hO1.castx rfl (xs' := il ((variants h).take (x.1 + 1))) (by rw [vars_take (by omega), il_append]; rfl)
      refine l_val (r_assign (v := .slice _ _ _) rfl rfl) rfl rfl ?_
      refine l_end ?_
      refine n_block ?_
      refine n_then ?_
      refine c_reg ?_
      refine l_val (r_move (v := .int _ _) rfl rfl) rfl rfl ?_
      refine l_val (r_addN (n := 1) rfl rfl rfl (by omega)) rfl rfl ?_
      refine l_val (r_assign (v := .int _ _) rfl rfl) rfl rfl ?_
      refine l_end ?_
      refine n_then ?_
      exact loop_next (x.1 + 1, a1, c1, Bs1) (by kernel_rfl) (hW.drop 1) ⟨by simp only; omega, hO1⟩ (by simp only; omega)
    · intro hc2
      replace hc2 := of_decide_eq_false hc2
      have e : (x.1 : Int) = h.users := by omega
      have ht : (variants h).take x.1 = variants h := List.take_of_length_le (by rw [vars_len]; omega)
      rw [ht] at hO
      refine l_end ?_
      refine n_then ?_
      refine c_false rfl ?_
      refine c_exit ?_
      refine x_then ?_
      refine x_then ?_
      refine x_hit ?_
      refine n_then ?_
      refine c_seq ?_
      refine c_reg ?_
      refine l_val (r_move (v := .slice _ _ _) rfl rfl) rfl rfl ?_
      refine l_val (r_assign (v := .slice _ _ _) rfl rfl) rfl rfl ?_
      refine l_val (r_assign (v := .int _ _) rfl rfl) rfl rfl ?_
      refine l_end ?_
      refine n_then ?_
      refine c_ret ?_
      refine ret_tmp2 rfl rfl rfl ?_
      exact ⟨_, _, rfl, ⟨⟨x.2.1, x.1, x.2.2.1⟩, by rw [chkH_yes hc1]; rfl, by rw [varsR_yes hc1]; exact hO.newI⟩, hW.sub (List.sublist_append_right _ _)⟩
  · intro hc1
    refine l_val (r_not rfl rfl) rfl rfl ?_
    refine l_end ?_
    refine n_then ?_
    refine c_true rfl ?_
    refine c_seq ?_
    refine c_reg ?_
    refine l_val (r_assign (v := .slice _ _ _) rfl rfl) rfl rfl ?_
    refine l_val (r_assign (v := .int _ _) rfl rfl) rfl rfl ?_
    refine l_end ?_
    refine n_then ?_
    refine c_ret ?_
    refine r_then ?_
    refine ret_tmp2 rfl rfl rfl ?_
    exact ⟨_, _, rfl, ⟨Sl.no, by rw [chkH_no hc1]; rfl, by rw [varsR_no hc1]; exact NewI.no.sub (List.nil_sublist _)⟩, hW⟩

end Go.Proofs.Ytoegpalacppllaa

/- New hunts and merged lists, by the reference. -/
namespace Go.Proofs.Ytoegpalacppllaa
open Go.RowKit Pl
open Tr Hn
set_option maxRecDepth 10000 in
/-- headend/headendref08.NewHunt -/
theorem g_rNewHunt (u : Int) : GivesX Try.prog 20 [.int .i64 u].toArray (fun _ => True) (fun v Bs => ∃ a : Value, v = .tuple #[a, .int .i64 (newE u)] ∧ huX (newH u) a Bs) := by
  refine givesX_of Try.func20 rfl (bs := [.int .i64 u, undef, undef, undef, undef, undef, undef, undef, undef, undef, undef, undef, undef, undef, undef, undef, undef, undef, undef, undef, undef, undef, undef, undef, undef, undef, undef]) rfl ?_
  intro w hP hW
  refine c_seq ?_
  refine c_reg ?_
  refine l_alloc hW tyZ52 rfl rfl rfl ?_
  intro g1 W hW
  refine l_val (r_assign (v := .int _ _) rfl rfl) rfl rfl ?_
  refine l_end ?_
  refine n_then ?_
  refine c_seq ?_
  refine c_seq ?_
  refine c_reg ?_
  refine l_val (r_move (v := .int _ _) rfl rfl) rfl rfl ?_
  refine l_val (r_lss rfl rfl rfl rfl) rfl rfl ?_
  refine l_split ?_ ?_
  · intro hc1
    replace hc1 := of_decide_eq_true hc1
    refine l_val (r_move (v := .bool _) rfl rfl) rfl rfl ?_
    refine l_not (by kernel_rfl) rfl ?_
    refine l_not (by kernel_rfl) rfl ?_
    refine l_val (r_pick (v := .bool _) rfl rfl rfl) rfl rfl ?_
    refine l_end ?_
    refine n_then ?_
    refine c_true rfl ?_
    refine c_seq ?_
    refine c_reg ?_
    refine l_val (r_build (ps := []) (bld52_) rfl rfl) rfl rfl ?_
    refine l_storeA hW 0 tyA52 rfl rfl rfl rfl rfl rfl (by first | rfl | exact kc_len _ | exact kcf_len _ | (simp; done)) (by first | rfl | exact kc_len _ | exact kcf_len _ | (simp; done)) (by first | exact kc_one _ | exact kcf_one _ | (simp [Value.oneCell']; done)) ?_
    intro W hW
    refine l_val (r_assign (v := .int _ _) rfl rfl) rfl rfl ?_
    refine l_end ?_
    refine n_then ?_
    refine c_ret ?_
    refine r_then ?_
    refine ret_cell_tmp hW 0 tyA52 rfl rfl rfl (by first | rfl | exact kc_len _ | exact kcf_len _ | (simp; done)) rfl ?_
    exact ⟨_, [], rfl, ⟨.agg (huC noHunt Sl.no Sl.no Sl.no).toArray, by rw [newE, if_neg (by omega)]; rfl, by rw [newH, if_neg (by omega)]; exact ⟨_, _, _, _, rfl, no_newHu⟩⟩, hW.sub (List.nil_sublist _)⟩
  · intro hc1
    replace hc1 := of_decide_eq_false hc1
    refine l_val (r_move (v := .bool _) rfl rfl) rfl rfl ?_
    refine l_valG (r_move (v := .int _ _) rfl rfl) (by kernel_rfl) rfl ?_
    refine l_valG (r_gtr rfl rfl rfl rfl) (by kernel_rfl) rfl ?_
    refine l_split ?_ ?_
    · intro hc2
      replace hc2 := of_decide_eq_true hc2
      refine l_val (r_pick (v := .bool _) rfl rfl rfl) rfl rfl ?_
      refine l_end ?_
      refine n_then ?_
      refine c_true rfl ?_
      refine c_seq ?_
      refine c_reg ?_
      refine l_val (r_build (ps := []) (bld52_) rfl rfl) rfl rfl ?_
      refine l_storeA hW 0 tyA52 rfl rfl rfl rfl rfl rfl (by first | rfl | exact kc_len _ | exact kcf_len _ | (simp; done)) (by first | rfl | exact kc_len _ | exact kcf_len _ | (simp; done)) (by first | exact kc_one _ | exact kcf_one _ | (simp [Value.oneCell']; done)) ?_
      intro W hW
      refine l_val (r_assign (v := .int _ _) rfl rfl) rfl rfl ?_
      refine l_end ?_
      refine n_then ?_
      refine c_ret ?_
      refine r_then ?_
      refine ret_cell_tmp hW 0 tyA52 rfl rfl rfl (by first | rfl | exact kc_len _ | exact kcf_len _ | (simp; done)) rfl ?_
      exact ⟨_, [], rfl, ⟨.agg (huC noHunt Sl.no Sl.no Sl.no).toArray, by rw [newE, if_neg (by omega)]; rfl, by rw [newH, if_neg (by omega)]; exact ⟨_, _, _, _, rfl, no_newHu⟩⟩, hW.sub (List.nil_sublist _)⟩
    · intro hc2
      replace hc2 := of_decide_eq_false hc2
      refine l_val (r_pick (v := .bool _) rfl rfl rfl) rfl rfl ?_
      refine l_end ?_
      refine n_then ?_
      refine c_false rfl ?_
      refine c_skip ?_
      refine n_then ?_
      refine c_seq ?_
      refine c_reg ?_
      refine l_val (r_move (v := .int _ _) rfl rfl) rfl rfl ?_
      refine l_val (r_build (ps := [(0, .int _ _)]) (bld52_0 _) rfl rfl) rfl rfl ?_
      refine l_alloc hW tyZ52 rfl rfl rfl ?_
      intro g2 W hW
      refine l_storeA hW 0 tyA52 rfl rfl rfl rfl rfl rfl (by first | rfl | exact kc_len _ | exact kcf_len _ | (simp; done)) (by first | rfl | exact kc_len _ | exact kcf_len _ | (simp; done)) (by first | exact kc_one _ | exact kcf_one _ | (simp [Value.oneCell']; done)) ?_
      intro W hW
      refine l_end ?_
      refine n_then ?_
      refine c_seq ?_
      refine c_seq ?_
      refine c_reg ?_
      refine l_val (r_assign (v := .int _ _) rfl rfl) rfl rfl ?_
      refine l_end ?_
      refine n_then ?_
      refine c_block ?_
      refine c_loop (fun (x : Nat × Option Addr × Nat × List Blk) (j : Nat → Value) => [.int .i64 u, j 1, .pointer (some ⟨g1, 0, none⟩), .int .i64 0, .pointer (some ⟨g2, 0, none⟩), .int .i64 (x.1 : Int), .int .i64 u, .bool false, .bool false, .int .i64 u, .bool false, .bool false, j 12, .int .i64 u, .agg ([.int .i64 u, .slice none 0 0, .slice none 0 0, .slice none 0 0, .int .i64 0]).toArray, j 15, j 16, j 17, j 18, j 19, j 20, j 21, j 22, j 23, j 24, j 25, j 26]) (fun (x : Nat × Option Addr × Nat × List Blk) => [⟨g2, [.int .i64 u, .slice none 0 0, .slice x.2.1 x.1 x.2.2.1, .slice none 0 0, .int .i64 0], 52⟩, ⟨g1, z52, 52⟩] ++ x.2.2.2) (fun (x : Nat × Option Addr × Nat × List Blk) => (x.1 : Int) ≤ u ∧ OwnSl 3 1 x.2.1 x.1 x.2.2.1 (il (rangeI x.1)) x.2.2.2) (fun (x : Nat × Option Addr × Nat × List Blk) => u.toNat - x.1) (0, none, 0, []) (by kernel_rfl) hW ⟨by omega, OwnSl.nil 3 1⟩ ?_
      intro x j W hx hW
      obtain ⟨hx, hO⟩ := hx
      refine c_seq ?_
      refine c_seq ?_
      refine c_reg ?_
      refine l_val (r_move (v := .int _ _) rfl rfl) rfl rfl ?_
      refine l_val (r_move (v := .int _ _) rfl rfl) rfl rfl ?_
      refine l_val (r_lss rfl rfl rfl rfl) rfl rfl ?_
      refine l_split ?_ ?_
      · intro hc3
        replace hc3 := of_decide_eq_true hc3
        refine l_end ?_
        refine n_then ?_
        refine c_true rfl ?_
        refine c_skip ?_
        refine n_then ?_
        refine c_seq ?_
        refine c_block ?_
        refine c_reg ?_
        refine l_val (r_fieldAddr 2 Try.underlying52 rfl tyC35.size rfl rfl rfl) rfl rfl ?_
        refine l_loadC hW 0 tyC35 rfl rfl rfl rfl rfl rfl ?_
        refine l_val (r_move (v := .int _ _) rfl rfl) rfl rfl ?_
        refine l_buildSliceF hW (bsl35_1_0 _) rfl rfl rfl rfl ?_
        intro gb W hW
        refine l_appendB tyE35 (L := [_, _, _]) hO hW 0 (N := x.1 + 1) rfl rfl rfl rfl rfl rfl rfl rfl (by simp [Value.oneCell']) (by unfold maxLen; omega) (by omega) ?_
        intro a1 c1 Bs1 W hO1 hW
        replace hO1 := hO1.castx rfl (xs' := il (rangeI (x.1 + 1))) (by rw [rangeI_succ, il_append]; rfl)
        refine l_val (r_fieldAddr 2 Try.underlying52 rfl tyC35.size rfl rfl rfl) rfl rfl ?_
        refine l_storeC hW 1 tyC35 (v := .slice _ _ _) rfl rfl rfl rfl rfl rfl (by first | rfl | omega | (simp; done) | (simp; omega)) rfl ?_
        intro W hW
        refine l_end ?_
        refine n_block ?_
        refine n_then ?_
        refine c_reg ?_
        refine l_val (r_move (v := .int _ _) rfl rfl) rfl rfl ?_
        refine l_val (r_addN (n := 1) rfl rfl rfl (by omega)) rfl rfl ?_
        refine l_val (r_assign (v := .int _ _) rfl rfl) rfl rfl ?_
        refine l_end ?_
        refine n_then ?_
        exact loop_next (x.1 + 1, a1, c1, Bs1) (by kernel_rfl) (hW.drop 1) ⟨by simp only; omega, hO1⟩ (by simp only; omega)
      · intro hc3
        replace hc3 := of_decide_eq_false hc3
        have e : x.1 = u.toNat := by omega
        have hr : rangeI x.1 = rangeI u.toNat := by rw [e]
        rw [hr] at hO
        refine l_end ?_
        refine n_then ?_
        refine c_false rfl ?_
        refine c_exit ?_
        refine x_then ?_
        refine x_then ?_
        refine x_hit ?_
        refine n_then ?_
        refine c_seq ?_
        refine c_reg ?_
        refine l_loadA hW 0 tyA52 rfl rfl rfl rfl rfl (by first | rfl | exact kc_len _ | exact kcf_len _ | (simp; done)) ?_
        refine l_storeA hW 1 tyA52 rfl rfl rfl rfl rfl rfl (by first | rfl | exact kc_len _ | exact kcf_len _ | (simp; done)) (by first | rfl | exact kc_len _ | exact kcf_len _ | (simp; done)) (by first | exact kc_one _ | exact kcf_one _ | (simp [Value.oneCell']; done)) ?_
        intro W hW
        refine l_val (r_assign (v := .int _ _) rfl rfl) rfl rfl ?_
        refine l_end ?_
        refine n_then ?_
        refine c_ret ?_
        refine ret_cell_tmp hW 1 tyA52 rfl rfl rfl (by first | rfl | exact kc_len _ | exact kcf_len _ | (simp; done)) rfl ?_
        exact ⟨_, _, rfl, ⟨.agg (huC ⟨u, [], rangeI u.toNat, [], 0⟩ Sl.no ⟨x.2.1, x.1, x.2.2.1⟩ Sl.no).toArray, by rw [newE, if_pos (by omega)]; rfl, by rw [newH, if_pos (by omega)]; exact ⟨_, _, _, _, rfl, rest_newHu hO.newI⟩⟩, (show Cl _ ([_, _] ++ x.2.2.2) _ from hW).sub (List.sublist_append_right _ _)⟩

set_option maxRecDepth 10000 in
/-- headend/trace.NewHunt -/
theorem g_NewHunt (u : Int) : GivesX Try.prog 19 [.int .i64 u].toArray (fun _ => True) (fun v Bs => ∃ a : Value, v = .tuple #[a, .int .i64 (newE u)] ∧ huX (newH u) a Bs) := by
  refine givesX_of Try.func19 rfl (bs := [.int .i64 u, undef, undef, undef, undef, undef, undef, undef, undef, undef, undef, undef, undef, undef, undef, undef, undef, undef, undef, undef, undef, undef, undef, undef, undef, undef, undef]) rfl ?_
  intro w hP hW
  refine c_seq ?_
  refine c_reg ?_
  refine l_alloc hW tyZ52 rfl rfl rfl ?_
  intro g1 W hW
  refine l_val (r_assign (v := .int _ _) rfl rfl) rfl rfl ?_
  refine l_end ?_
  refine n_then ?_
  refine c_seq ?_
  refine c_seq ?_
  refine c_reg ?_
  refine l_val (r_move (v := .int _ _) rfl rfl) rfl rfl ?_
  refine l_val (r_lss rfl rfl rfl rfl) rfl rfl ?_
  refine l_split ?_ ?_
  · intro hc1
    replace hc1 := of_decide_eq_true hc1
    refine l_val (r_move (v := .bool _) rfl rfl) rfl rfl ?_
    refine l_not (by kernel_rfl) rfl ?_
    refine l_not (by kernel_rfl) rfl ?_
    refine l_val (r_pick (v := .bool _) rfl rfl rfl) rfl rfl ?_
    refine l_end ?_
    refine n_then ?_
    refine c_true rfl ?_
    refine c_seq ?_
    refine c_reg ?_
    refine l_val (r_build (ps := []) (bld52_) rfl rfl) rfl rfl ?_
    refine l_storeA hW 0 tyA52 rfl rfl rfl rfl rfl rfl (by first | rfl | exact kc_len _ | exact kcf_len _ | (simp; done)) (by first | rfl | exact kc_len _ | exact kcf_len _ | (simp; done)) (by first | exact kc_one _ | exact kcf_one _ | (simp [Value.oneCell']; done)) ?_
    intro W hW
    refine l_val (r_assign (v := .int _ _) rfl rfl) rfl rfl ?_
    refine l_end ?_
    refine n_then ?_
    refine c_ret ?_
    refine r_then ?_
    refine ret_cell_tmp hW 0 tyA52 rfl rfl rfl (by first | rfl | exact kc_len _ | exact kcf_len _ | (simp; done)) rfl ?_
    exact ⟨_, [], rfl, ⟨.agg (huC noHunt Sl.no Sl.no Sl.no).toArray, by rw [newE, if_neg (by omega)]; rfl, by rw [newH, if_neg (by omega)]; exact ⟨_, _, _, _, rfl, no_newHu⟩⟩, hW.sub (List.nil_sublist _)⟩
  · intro hc1
    replace hc1 := of_decide_eq_false hc1
    refine l_val (r_move (v := .bool _) rfl rfl) rfl rfl ?_
    refine l_valG (r_move (v := .int _ _) rfl rfl) (by kernel_rfl) rfl ?_
    refine l_valG (r_gtr rfl rfl rfl rfl) (by kernel_rfl) rfl ?_
    refine l_split ?_ ?_
    · intro hc2
      replace hc2 := of_decide_eq_true hc2
      refine l_val (r_pick (v := .bool _) rfl rfl rfl) rfl rfl ?_
      refine l_end ?_
      refine n_then ?_
      refine c_true rfl ?_
      refine c_seq ?_
      refine c_reg ?_
      refine l_val (r_build (ps := []) (bld52_) rfl rfl) rfl rfl ?_
      refine l_storeA hW 0 tyA52 rfl rfl rfl rfl rfl rfl (by first | rfl | exact kc_len _ | exact kcf_len _ | (simp; done)) (by first | rfl | exact kc_len _ | exact kcf_len _ | (simp; done)) (by first | exact kc_one _ | exact kcf_one _ | (simp [Value.oneCell']; done)) ?_
      intro W hW
      refine l_val (r_assign (v := .int _ _) rfl rfl) rfl rfl ?_
      refine l_end ?_
      refine n_then ?_
      refine c_ret ?_
      refine r_then ?_
      refine ret_cell_tmp hW 0 tyA52 rfl rfl rfl (by first | rfl | exact kc_len _ | exact kcf_len _ | (simp; done)) rfl ?_
      exact ⟨_, [], rfl, ⟨.agg (huC noHunt Sl.no Sl.no Sl.no).toArray, by rw [newE, if_neg (by omega)]; rfl, by rw [newH, if_neg (by omega)]; exact ⟨_, _, _, _, rfl, no_newHu⟩⟩, hW.sub (List.nil_sublist _)⟩
    · intro hc2
      replace hc2 := of_decide_eq_false hc2
      refine l_val (r_pick (v := .bool _) rfl rfl rfl) rfl rfl ?_
      refine l_end ?_
      refine n_then ?_
      refine c_false rfl ?_
      refine c_skip ?_
      refine n_then ?_
      refine c_seq ?_
      refine c_reg ?_
      refine l_val (r_move (v := .int _ _) rfl rfl) rfl rfl ?_
      refine l_val (r_build (ps := [(0, .int _ _)]) (bld52_0 _) rfl rfl) rfl rfl ?_
      refine l_alloc hW tyZ52 rfl rfl rfl ?_
      intro g2 W hW
      refine l_storeA hW 0 tyA52 rfl rfl rfl rfl rfl rfl (by first | rfl | exact kc_len _ | exact kcf_len _ | (simp; done)) (by first | rfl | exact kc_len _ | exact kcf_len _ | (simp; done)) (by first | exact kc_one _ | exact kcf_one _ | (simp [Value.oneCell']; done)) ?_
      intro W hW
      refine l_end ?_
      refine n_then ?_
      refine c_seq ?_
      refine c_seq ?_
      refine c_reg ?_
      refine l_val (r_move (v := .int _ _) rfl rfl) rfl rfl ?_
      refine l_val (r_move (v := .int _ _) rfl rfl) rfl rfl ?_
      refine l_end ?_
      refine n_then ?_
      refine c_block ?_
      refine c_loop (fun (x : Nat × Option Addr × Nat × List Blk) (j : Nat → Value) => [.int .i64 u, j 1, .pointer (some ⟨g1, 0, none⟩), .int .i64 0, .pointer (some ⟨g2, 0, none⟩), j 5, .int .i64 u, .bool false, .bool false, .int .i64 u, .bool false, .bool false, j 12, .int .i64 u, .agg ([.int .i64 u, .slice none 0 0, .slice none 0 0, .slice none 0 0, .int .i64 0]).toArray, .int .i64 u, .int .i64 (x.1 : Int), j 17, j 18, j 19, j 20, j 21, j 22, j 23, j 24, j 25, j 26]) (fun (x : Nat × Option Addr × Nat × List Blk) => [⟨g2, [.int .i64 u, .slice none 0 0, .slice x.2.1 x.1 x.2.2.1, .slice none 0 0, .int .i64 0], 52⟩, ⟨g1, z52, 52⟩] ++ x.2.2.2) (fun (x : Nat × Option Addr × Nat × List Blk) => (x.1 : Int) ≤ u ∧ OwnSl 3 1 x.2.1 x.1 x.2.2.1 (il (rangeI x.1)) x.2.2.2) (fun (x : Nat × Option Addr × Nat × List Blk) => u.toNat - x.1) (0, none, 0, []) (by kernel_rfl) hW ⟨by omega, OwnSl.nil 3 1⟩ ?_
      intro x j W hx hW
      obtain ⟨hx, hO⟩ := hx
      refine c_seq ?_
      refine c_reg ?_
      refine l_val (r_lss rfl rfl rfl rfl) rfl rfl ?_
      refine l_split ?_ ?_
      · intro hc3
        replace hc3 := of_decide_eq_true hc3
        refine l_end ?_
        refine n_then ?_
        refine c_seq ?_
        refine c_true rfl ?_
        refine c_skip ?_
        refine n_then ?_
        refine c_seq ?_
        refine c_block ?_
        refine c_seq ?_
        refine c_reg ?_
        refine l_val (r_move (v := .int _ _) rfl rfl) rfl rfl ?_
        refine l_val (r_assign (v := .int _ _) rfl rfl) rfl rfl ?_
        refine l_end ?_
        refine n_then ?_
        refine c_reg ?_
        refine l_val (r_fieldAddr 2 Try.underlying52 rfl tyC35.size rfl rfl rfl) rfl rfl ?_
        refine l_loadC hW 0 tyC35 rfl rfl rfl rfl rfl rfl ?_
        refine l_val (r_move (v := .int _ _) rfl rfl) rfl rfl ?_
        refine l_buildSliceF hW (bsl35_1_0 _) rfl rfl rfl rfl ?_
        intro gb W hW
        refine l_appendB tyE35 (L := [_, _, _]) hO hW 0 (N := x.1 + 1) rfl rfl rfl rfl rfl rfl rfl rfl (by simp [Value.oneCell']) (by unfold maxLen; omega) (by omega) ?_
        intro a1 c1 Bs1 W hO1 hW
        replace hO1 := hO1.castx rfl (xs' := il (rangeI (x.1 + 1))) (by rw [rangeI_succ, il_append]; rfl)
        refine l_val (r_fieldAddr 2 Try.underlying52 rfl tyC35.size rfl rfl rfl) rfl rfl ?_
        refine l_storeC hW 1 tyC35 (v := .slice _ _ _) rfl rfl rfl rfl rfl rfl (by first | rfl | omega | (simp; done) | (simp; omega)) rfl ?_
        intro W hW
        refine l_end ?_
        refine n_block ?_
        refine n_then ?_
        refine c_reg ?_
        refine l_val (r_addN (n := 1) rfl rfl rfl (by omega)) rfl rfl ?_
        refine l_val (r_move (v := .int _ _) rfl rfl) rfl rfl ?_
        refine l_end ?_
        refine n_then ?_
        exact loop_next (x.1 + 1, a1, c1, Bs1) (by kernel_rfl) (hW.drop 1) ⟨by simp only; omega, hO1⟩ (by simp only; omega)
      · intro hc3
        replace hc3 := of_decide_eq_false hc3
        have e : x.1 = u.toNat := by omega
        have hr : rangeI x.1 = rangeI u.toNat := by rw [e]
        rw [hr] at hO
        refine l_end ?_
        refine n_then ?_
        refine c_seq ?_
        refine c_false rfl ?_
        refine c_exit ?_
        refine x_then ?_
        refine x_then ?_
        refine x_hit ?_
        refine n_then ?_
        refine c_seq ?_
        refine c_reg ?_
        refine l_loadA hW 0 tyA52 rfl rfl rfl rfl rfl (by first | rfl | exact kc_len _ | exact kcf_len _ | (simp; done)) ?_
        refine l_storeA hW 1 tyA52 rfl rfl rfl rfl rfl rfl (by first | rfl | exact kc_len _ | exact kcf_len _ | (simp; done)) (by first | rfl | exact kc_len _ | exact kcf_len _ | (simp; done)) (by first | exact kc_one _ | exact kcf_one _ | (simp [Value.oneCell']; done)) ?_
        intro W hW
        refine l_val (r_assign (v := .int _ _) rfl rfl) rfl rfl ?_
        refine l_end ?_
        refine n_then ?_
        refine c_ret ?_
        refine ret_cell_tmp hW 1 tyA52 rfl rfl rfl (by first | rfl | exact kc_len _ | exact kcf_len _ | (simp; done)) rfl ?_
        exact ⟨_, _, rfl, ⟨.agg (huC ⟨u, [], rangeI u.toNat, [], 0⟩ Sl.no ⟨x.2.1, x.1, x.2.2.1⟩ Sl.no).toArray, by rw [newE, if_pos (by omega)]; rfl, by rw [newH, if_pos (by omega)]; exact ⟨_, _, _, _, rfl, rest_newHu hO.newI⟩⟩, (show Cl _ ([_, _] ++ x.2.2.2) _ from hW).sub (List.sublist_append_right _ _)⟩

set_option maxRecDepth 10000 in
/-- headend/headendref08.merged -/
theorem g_rmerged (aa : Option Addr) (an ac : Nat) (l : List Int) (ba : Option Addr) (bn bc : Nat) (m : List Int) (hl : l.length ≤ 4294967296) (hm : m.length ≤ 4294967296) : GivesX Try.prog 53 [.slice aa an ac, .slice ba bn bc].toArray (fun w => RdI w ⟨aa, an, ac⟩ l ∧ RdI w ⟨ba, bn, bc⟩ m) (fun v Bs => ∃ s : Sl, v = s.v ∧ NewI s (merged l m) Bs) := by
  refine givesX_of Try.func53 rfl (bs := [.slice aa an ac, .slice ba bn bc, undef, undef, undef, undef, undef, undef, undef, undef, undef, undef, undef, undef, undef, undef, undef, undef, undef, undef, undef, undef, undef, undef]) rfl ?_
  intro w hP hW
  refine c_seq ?_
  refine c_reg ?_
  refine l_val (r_assign (v := .slice _ _ _) rfl rfl) rfl rfl ?_
  refine l_end ?_
  refine n_then ?_
  refine c_seq ?_
  refine c_reg ?_
  refine l_val (r_assign (v := .slice _ _ _) rfl rfl) rfl rfl ?_
  refine l_end ?_
  refine n_then ?_
  refine c_seq ?_
  refine c_seq ?_
  refine c_reg ?_
  refine l_val (r_assign (v := .int _ _) rfl rfl) rfl rfl ?_
  refine l_end ?_
  refine n_then ?_
  refine c_block ?_
  refine c_loop (fun (x : Nat × Option Addr × Nat × Nat × List Blk) (j : Nat → Value) => [.slice aa an ac, .slice ba bn bc, j 2, j 3, j 4, .slice x.2.1 x.2.2.1 x.2.2.2.1, .int .i64 (x.1 : Int), j 7, j 8, j 9, j 10, j 11, j 12, j 13, j 14, j 15, j 16, j 17, j 18, j 19, j 20, j 21, j 22, j 23]) (fun (x : Nat × Option Addr × Nat × Nat × List Blk) => [] ++ x.2.2.2.2) (fun (x : Nat × Option Addr × Nat × Nat × List Blk) => x.1 ≤ 64 ∧ x.2.2.1 ≤ x.1 ∧ OwnSl 3 1 x.2.1 x.2.2.1 x.2.2.2.1 (il (mergedTo l m x.1)) x.2.2.2.2) (fun (x : Nat × Option Addr × Nat × Nat × List Blk) => 64 - x.1) (0, none, 0, 0, []) (by kernel_rfl) hW ⟨Nat.zero_le _, Nat.zero_le _, OwnSl.nil 3 1⟩ ?_
  intro x j W hx hW
  obtain ⟨hx, hml, hO⟩ := hx
  refine c_seq ?_
  refine c_seq ?_
  refine c_reg ?_
  refine l_val (r_move (v := .int _ _) rfl rfl) rfl rfl ?_
  refine l_val (r_lssN (n := 64) rfl rfl rfl rfl) rfl rfl ?_
  refine l_split ?_ ?_
  · intro hc1
    replace hc1 := of_decide_eq_true hc1
    refine l_end ?_
    refine n_then ?_
    refine c_true rfl ?_
    refine c_skip ?_
    refine n_then ?_
    refine c_seq ?_
    refine c_block ?_
    refine c_seq ?_
    refine c_reg ?_
    refine l_val (r_move (v := .slice _ _ _) rfl rfl) rfl rfl ?_
    refine l_val (r_move (v := .int _ _) rfl rfl) rfl rfl ?_
    refine l_callR hW (g_rin aa an ac l (x.1 : Int) hl) en79 (hP.1.past hW.below) rfl rfl rfl rfl ?_
    intro W hW
    refine l_split ?_ ?_
    · intro hc2
      refine l_val (r_move (v := .bool _) rfl rfl) rfl rfl ?_
      refine l_not (by kernel_rfl) rfl ?_
      refine l_not (by kernel_rfl) rfl ?_
      refine l_not (by kernel_rfl) rfl ?_
      refine l_val (r_pick (v := .bool _) rfl rfl rfl) rfl rfl ?_
      refine l_end ?_
      refine n_then ?_
      refine c_true rfl ?_
      refine c_reg ?_
      refine l_val (r_move (v := .slice _ _ _) rfl rfl) rfl rfl ?_
      refine l_val (r_move (v := .int _ _) rfl rfl) rfl rfl ?_
      refine l_buildSliceF hW (bsl35_1_0 _) rfl rfl rfl rfl ?_
      intro gb W hW
      refine l_appendB tyE35 (L := [_]) hO hW 0 (N := x.2.2.1 + 1) rfl rfl rfl rfl rfl rfl rfl rfl (by simp [Value.oneCell']) (by unfold maxLen; omega) (by omega) ?_
      intro a1 c1 Bs1 W hO1 hW
      replace hO1 := hO1.castx rfl (xs' := il (mergedTo l m (x.1 + 1))) (by rw [mergedTo_yes (by rw [hc2]; rfl), il_append]; rfl)
      refine l_val (r_assign (v := .slice _ _ _) rfl rfl) rfl rfl ?_
      refine l_end ?_
      refine n_block ?_
      refine n_then ?_
      refine c_reg ?_
      refine l_val (r_move (v := .int _ _) rfl rfl) rfl rfl ?_
      refine l_val (r_addN (n := 1) rfl rfl rfl (by omega)) rfl rfl ?_
      refine l_val (r_assign (v := .int _ _) rfl rfl) rfl rfl ?_
      refine l_end ?_
      refine n_then ?_
      exact loop_next (x.1 + 1, a1, x.2.2.1 + 1, c1, Bs1) (by kernel_rfl) (hW.drop 1) ⟨by simp only; omega, by simp only; omega, hO1⟩ (by simp only; omega)
    · intro hc2
      refine l_val (r_move (v := .bool _) rfl rfl) rfl rfl ?_
      refine l_valG (r_move (v := .slice _ _ _) rfl rfl) (by kernel_rfl) rfl ?_
      refine l_valG (r_move (v := .int _ _) rfl rfl) (by kernel_rfl) rfl ?_
      refine l_callRG hW (g_rin ba bn bc m (x.1 : Int) hm) en79 (hP.2.past hW.below) (by kernel_rfl) rfl rfl rfl ?_
      intro W hW
      refine l_split ?_ ?_
      · intro hc3
        refine l_val (r_pick (v := .bool _) rfl rfl rfl) rfl rfl ?_
        refine l_end ?_
        refine n_then ?_
        refine c_true rfl ?_
        refine c_reg ?_
        refine l_val (r_move (v := .slice _ _ _) rfl rfl) rfl rfl ?_
        refine l_val (r_move (v := .int _ _) rfl rfl) rfl rfl ?_
        refine l_buildSliceF hW (bsl35_1_0 _) rfl rfl rfl rfl ?_
        intro gb W hW
        refine l_appendB tyE35 (L := [_]) hO hW 0 (N := x.2.2.1 + 1) rfl rfl rfl rfl rfl rfl rfl rfl (by simp [Value.oneCell']) (by unfold maxLen; omega) (by omega) ?_
        intro a1 c1 Bs1 W hO1 hW
        replace hO1 := hO1.castx rfl (xs' := il (mergedTo l m (x.1 + 1))) (by rw [mergedTo_yes (by rw [hc2, hc3]; rfl), il_append]; rfl)
        refine l_val (r_assign (v := .slice _ _ _) rfl rfl) rfl rfl ?_
        refine l_end ?_
        refine n_block ?_
        refine n_then ?_
        refine c_reg ?_
        refine l_val (r_move (v := .int _ _) rfl rfl) rfl rfl ?_
        refine l_val (r_addN (n := 1) rfl rfl rfl (by omega)) rfl rfl ?_
        refine l_val (r_assign (v := .int _ _) rfl rfl) rfl rfl ?_
        refine l_end ?_
        refine n_then ?_
        exact loop_next (x.1 + 1, a1, x.2.2.1 + 1, c1, Bs1) (by kernel_rfl) (hW.drop 1) ⟨by simp only; omega, by simp only; omega, hO1⟩ (by simp only; omega)
      · intro hc3
        refine l_val (r_pick (v := .bool _) rfl rfl rfl) rfl rfl ?_
        refine l_end ?_
        refine n_then ?_
        refine c_false rfl ?_
        refine c_skip ?_
        refine n_block ?_
        refine n_then ?_
        refine c_reg ?_
        refine l_val (r_move (v := .int _ _) rfl rfl) rfl rfl ?_
        refine l_val (r_addN (n := 1) rfl rfl rfl (by omega)) rfl rfl ?_
        refine l_val (r_assign (v := .int _ _) rfl rfl) rfl rfl ?_
        refine l_end ?_
        refine n_then ?_
        exact loop_next (x.1 + 1, x.2.1, x.2.2.1, x.2.2.2.1, x.2.2.2.2) (by kernel_rfl) hW ⟨by simp only; omega, by simp only; omega, by simp only; rw [mergedTo_no (by rw [hc2, hc3]; rfl)]; exact hO⟩ (by simp only; omega)
  · intro hc1
    replace hc1 := of_decide_eq_false hc1
    have e : x.1 = 64 := by omega
    rw [e] at hO
    refine l_end ?_
    refine n_then ?_
    refine c_false rfl ?_
    refine c_exit ?_
    refine x_then ?_
    refine x_then ?_
    refine x_hit ?_
    refine n_then ?_
    refine c_seq ?_
    refine c_reg ?_
    refine l_val (r_move (v := .slice _ _ _) rfl rfl) rfl rfl ?_
    refine l_val (r_assign (v := .slice _ _ _) rfl rfl) rfl rfl ?_
    refine l_end ?_
    refine n_then ?_
    refine c_ret ?_
    refine ret_tmp (v := .slice _ _ _) rfl rfl ?_
    exact ⟨_, _, rfl, ⟨⟨x.2.1, x.2.2.1, x.2.2.2.1⟩, rfl, hO.newI⟩, hW⟩

end Go.Proofs.Ytoegpalacppllaa

/- A region that draws its order, walked in an order that is given. No function of the program is in sight here. -/
namespace Go.Proofs.Ytoegpalacppllaa
open Go.RowKit

def pickL (ops : Array Oper) : List Nat → List Oper
  | [] => []
  | k :: r => match ops[k]? with
    | some o => o :: pickL ops r
    | none => []
def lexO (md : Region.Mode) (ops : Array Oper) (kd : Nat → Kd) (ix : List Nat) (M : List Nat) (tl : List Nat → Array Bool → Bool) : List Nat → Array Bool → Bool
  | [], done => (Region.ready md ops done).isEmpty && madeB ix done
  | k :: ord, done => match kd k with
    | .tail => cutB ops kd done && madeB ix done && !(Region.ready md ops done).isEmpty && tl (k :: ord) done
    | _ => (Region.ready md ops done).contains k && ((List.range ops.size).all fun j => j == k || done.getD j true || (M.getD j 0).testBit k || match ops[k]?, ops[j]? with
      | some ok, some oj => ok.apart ops oj && mayB (kd k) (kd j)
      | _, _ => false) && lexO md ops kd ix M tl ord (done.setIfInBounds k true)

section
variable {P : Program} {ops : Array Oper} {Q : Exit → Act → World → Prop} {a : Act} {w0 : Base} {W : World} {L : List Blk} {md : Region.Mode} {S : List Nat} {r : Option (Option Nat)} {m : Nat} {ms : List Mk} {bs : List Value} {us : List (Nat × Value)} {ds : List Deferred}
theorem anyC_lexO {kd : Nat → Kd} {ix : List Nat} {R : Act → St → Prop} {T : List Oper → Act → St → Prop} {U : Nat → Array Bool → Act → St → Prop} {M : List Nat} {tl : List Nat → Array Bool → Bool} (hM : masksB md ops M = true) (hsel : Region.noSelect ops = true)
    (hU : ∀ ord done a s, Closed md ops done → tl ord done = true → T (pickL ops ord) a s → U ord.length done a s) : ∀ (ord : List Nat) (done : Array Bool) (a : Act) (s : St), (∀ k ∈ ord, k < ops.size) → Closed md ops done →
    lexO md ops kd ix M tl ord done = true → lx P ops w0 S ms R T (ord.map kd) (pickL ops ord) a s → anyC P md ops w0 S ms kd ix R U ord.length done a s
  | [], done, a, s, _, _, hB, h => by
    simp only [lexO, Bool.and_eq_true] at hB
    exact ⟨by simpa using hB.1, hB.2, by simpa [lx, pickL] using h⟩
  | k :: ord, done, a, s, hv, hc, hB, h => by
    have hlt : k < ops.size := hv k (by simp)
    obtain ⟨o, h0⟩ : ∃ o, ops[k]? = some o := ⟨ops[k], by simp [hlt]⟩
    have hp : pickL ops (k :: ord) = o :: pickL ops ord := by simp [pickL, h0]
    have step : ∀ (v : Value) (s' : St), (Region.ready md ops done).contains k = true → ((List.range ops.size).all fun j => j == k || done.getD j true || (M.getD j 0).testBit k || match ops[k]?, ops[j]? with
        | some ok, some oj => ok.apart ops oj && mayB (kd k) (kd j)
        | _, _ => false) = true → lexO md ops kd ix M tl ord (done.setIfInBounds k true) = true →
        StepK P ops w0 S ms (kd k) o a s v s' → lx P ops w0 S ms R T (ord.map kd) (pickL ops ord) (putK (kd k) a o.dst v) s' → anyC P md ops w0 S ms kd ix R U (ord.length + 1) done a s := by
      intro v s' hr hf hB' hs hn
      have hr' : k ∈ Region.ready md ops done := by simpa using hr
      refine anyC_first hM h0 (Region.noSelect_spec hsel) ord.length done a s v s' hc (fun j oj hj hne hun hno => ?_) hr' hs
        (anyC_lexO hM hsel hU ord _ _ _ (fun x hx => hv x (by simp [hx])) (hc.set hr') hB' hn)
      have := List.all_eq_true.1 hf j (List.mem_range.2 (Array.getElem?_eq_some_iff.1 hj).1)
      simp only [Bool.or_eq_true, beq_iff_eq, hne, false_or, hun, Bool.false_eq_true, hno, h0, hj, Bool.and_eq_true] at this
      exact this
    simp only [lexO] at hB
    rw [List.map_cons] at h
    cases hkd : kd k with
    | tail =>
      rw [hkd] at hB h
      simp only [Bool.and_eq_true] at hB
      exact ⟨by have := hB.1.2; intro e; rw [e] at this; simp at this, .inl ⟨hB.1.1.1, hB.1.1.2, hU (k :: ord) done a s hc hB.2 (by rw [hp] at h ⊢; exact h)⟩⟩
    | _ =>
      rw [hkd, hp] at h
      rw [hkd] at hB
      simp only [Bool.and_eq_true] at hB
      obtain ⟨v, s', hs, hn⟩ := h
      exact step v s' hB.1.1 (by rw [hkd]; exact hB.1.2) hB.2 (by rw [hkd]; exact hs) (by rw [hkd]; exact hn)

theorem made0 {ix : List Nat} {n : Nat} {done : Array Bool} (h : ∀ i ∈ ix, done.getD i false = false) : ∀ (q i : Nat), ix[q]? = some i → ((∃ v, (List.replicate n (none : Option Value))[q]? = some (some v)) ↔ done.getD i false = true) := fun q i hq => by
  constructor
  · rintro ⟨v, hv⟩
    rw [List.getElem?_replicate] at hv
    split at hv
    · injection hv with hv; cases hv
    · cases hv
  · intro hd
    rw [h i (List.mem_of_getElem? hq)] at hd; cases hd
theorem puts_size : ∀ (ms : List Mk) (vs : List (Option Value)) (a : Act), (puts a ms vs).tmps.size = a.tmps.size
  | [], vs, a => by simp [puts]
  | k :: ms, [], a => by simp [puts]
  | k :: ms, none :: vs, a => by rw [puts]; exact puts_size ms vs a
  | k :: ms, some v :: vs, a => by rw [puts, puts_size ms vs, put_size]
/-- each of the rest waits for the one ahead of it -/
def seqO (md : Region.Mode) (ops : Array Oper) : List Nat → Array Bool → Bool
  | [], done => (Region.ready md ops done).isEmpty
  | k :: o, done => (Region.ready md ops done == [k]) && Nat.blt k ops.size && seqO md ops o (done.setIfInBounds k true)
theorem AW_seqO : ∀ (l : List Nat) (done : Array Bool) (a : Act) (w : World), seqO md ops l done = true → LW r m P ops Q (pickL ops l) a w → AW r m P md ops Q l.length done a w
  | [], _, _, _, hB, h => AW.zero (by simpa [seqO] using hB) (by have h := h.h; cases r <;> exact h)
  | k :: l, done, a, w, hB, h => by
    simp only [seqO, Bool.and_eq_true, beq_iff_eq, Nat.blt_eq] at hB
    obtain ⟨⟨hr, hlt⟩, hB⟩ := hB
    have h0 : ops[k]? = some ops[k] := by simp [hlt]
    have hp : pickL ops (k :: l) = ops[k] :: pickL ops l := by simp [pickL, hlt]
    rw [hp] at h
    refine AW.succ (by rw [hr]; simp) fun i hi => ?_
    rw [hr] at hi
    obtain rfl : i = k := by simpa using hi
    exact (OW.of_LW h0 h).mono fun a w h => AW_seqO l _ a w hB ⟨h⟩
/-! ### a quiet operation that may come at any time, beside the tail, too -/
/-- what is asked of it -/
structure Zed (md : Region.Mode) (ops : Array Oper) (ms : List Mk) (ix : List Nat) (kd : Nat → Kd) (z : Nat) (oz : Oper) : Prop where
  at_ : ops[z]? = some oz
  guard : oz.guard = none
  after : ∀ e ∈ oz.after, Region.binds md e = false
  apart : ∀ (j : Nat) oj, ops[j]? = some oj → j ≠ z → (kd j).isTail = false → oz.apart ops oj = true
  ds : ∀ k ∈ ms, k.d ∉ oz.looksAt ops ∧ oz.dst ≠ some k.d
  ix : ∀ i ∈ ix, i ≠ z
def zB (md : Region.Mode) (ops : Array Oper) (D ix : List Nat) (kd : Nat → Kd) (z : Nat) : Bool := match ops[z]? with
  | some oz => oz.guard.isNone && oz.after.all (fun e => !Region.binds md e) && D.all (fun d => !(oz.looksAt ops).contains d && oz.dst != some d) &&
      ((List.range ops.size).all fun j => j == z || (kd j).isTail || match ops[j]? with | some oj => oz.apart ops oj | none => true) && ix.all (fun i => !(i == z))
  | none => false
theorem zB_spec {ix : List Nat} {kd : Nat → Kd} {z : Nat} (h : zB md ops (ms.map Mk.d) ix kd z = true) : ∃ oz, Zed md ops ms ix kd z oz := by
  unfold zB at h
  cases hz : ops[z]? with
  | none => rw [hz] at h; cases h
  | some oz =>
    rw [hz] at h
    simp only [Bool.and_eq_true, Option.isNone_iff_eq_none] at h
    obtain ⟨⟨⟨⟨h1, h2⟩, h3⟩, h4⟩, h5⟩ := h
    refine ⟨oz, hz, h1, fun e he => ?_, fun j oj hj hne ht => ?_, fun k hk => ?_, fun i hi e => ?_⟩
    · have := Array.all_eq_true_iff_forall_mem.1 h2 e he
      simpa using this
    · have := List.all_eq_true.1 h4 j (List.mem_range.2 (Array.getElem?_eq_some_iff.1 hj).1)
      rw [hj] at this
      simpa [hne, ht] using this
    · have := List.all_eq_true.1 h3 k.d (List.mem_map.2 ⟨k, hk, rfl⟩)
      simpa using this
    · have := List.all_eq_true.1 h5 i hi
      simp [e] at this
def Zok (P : Program) (w0 : Base) (S : List Nat) (L0 : List Blk) (a : Act) (oz : Oper) (vz : Value) : Prop := ∀ L2 w, Sim S L0 L2 → Cl w0 L2 w → (execOp a.eval oz).run P w = .ok (.value vz) w
theorem StepK.sim {k : Kd} {o : Oper} {s s' : St} {v : Value} (h : StepK P ops w0 S ms k o a s v s') : Sim S s.1 s'.1 := by
  cases k with
  | q => rw [h.2]; exact Sim.refl _ _
  | r => rw [h.2]; exact Sim.refl _ _
  | s => exact h.2.2.2.1
  | mk i => rw [h.2.1]; exact Sim.refl _ _
  | mkd i j => rw [h.2.1]; exact Sim.refl _ _
  | rd i => rw [h.1]; exact Sim.refl _ _
  | st i =>
    obtain ⟨_, k, vs, _, _, rfl⟩ := h
    exact Sim.refl _ _
  | tail => exact h.elim
theorem mk_full {ix : List Nat} {kd : Nat → Kd} (hA : AllB md ops ms ix kd) {done : Array Bool} {vs : List (Option Value)} (hl : vs.length = ms.length) (hrel : ∀ (q i : Nat), ix[q]? = some i → ((∃ v, vs[q]? = some (some v)) ↔ done.getD i false = true)) (hm : madeB ix done = true) : ∀ v ∈ vs, v.isSome = true := by
  intro v hv
  obtain ⟨q, hq⟩ := List.getElem?_of_mem hv
  have hlt := (List.getElem?_eq_some_iff.1 hq).1
  have hq2 : ix[q]? = some (ix[q]'(by rw [hA.len]; omega)) := List.getElem?_eq_getElem _
  have hd : done.getD (ix[q]'(by rw [hA.len]; omega)) false = true := List.all_eq_true.1 hm _ (List.getElem_mem _)
  obtain ⟨u, hu⟩ := (hrel q _ hq2).2 hd
  rw [hq] at hu
  injection hu with hu
  rw [hu]; rfl
theorem anyC_z {N : Nat} {L0 : List Blk} {kd : Nat → Kd} {ix : List Nat} {R : Act → St → Prop} {U : Nat → Array Bool → Act → St → Prop} {z : Nat} {oz : Oper} {vz : Value} (hA : AllB md ops ms ix kd) (hsel : ∀ (j : Nat) (o : Oper) cs b, ops[j]? = some o → o.op ≠ .select cs b) (hz : Zed md ops ms ix kd z oz)
    (hR1 : ∀ a s vs Ns w, Made ms s.2 vs Ns → (∀ v ∈ vs, v.isSome = true) → Cl w0 (s.1 ++ Ns.flatten) w → R a s → Q .normal (puts (a.put oz.dst vz) ms vs) w)
    (hT1 : ∀ f done a s vs Ns w, Made ms s.2 vs Ns → (∀ v ∈ vs, v.isSome = true) → Cl w0 (s.1 ++ Ns.flatten) w → a.tmps.size = N → Sim S L0 s.1 → Zok P w0 S L0 a oz vz → U f done a s → AW r m P md ops Q f done (puts (a.put oz.dst vz) ms vs) w)
    (hT2 : ∀ f done a s vs Ns w, Made ms s.2 vs Ns → (∀ v ∈ vs, v.isSome = true) → Cl w0 (s.1 ++ Ns.flatten) w → a.tmps.size = N → Closed md ops done → done.getD z true = false → U f (done.setIfInBounds z true) a s → AW r m P md ops Q (f + 1) done (puts a ms vs) w) (f : Nat) :
    ∀ (done : Array Bool) (a : Act) (s : St) (vs : List (Option Value)) (Ns : List (List Blk)) (w : World), Sim S L0 s.1 → Zok P w0 S L0 a oz vz → Closed md ops done → done.getD z true = false → Made ms s.2 vs Ns → (∀ (q i : Nat), ix[q]? = some i → ((∃ v, vs[q]? = some (some v)) ↔ done.getD i false = true)) → (∀ m ∈ ms, m.d < a.tmps.size) → a.tmps.size = N →
      Cl w0 (s.1 ++ Ns.flatten) w → anyC P md ops w0 S ms kd ix R U f (done.setIfInBounds z true) a s → AW r m P md ops Q (f + 1) done (puts a ms vs) w := by
  have relz : ∀ {done : Array Bool} {vs : List (Option Value)}, (∀ (q i : Nat), ix[q]? = some i → ((∃ v, vs[q]? = some (some v)) ↔ done.getD i false = true)) → ∀ (q i : Nat), ix[q]? = some i → ((∃ v, vs[q]? = some (some v)) ↔ (done.setIfInBounds z true).getD i false = true) := fun hrel q i hq => by
    rw [getD_set_ne false (Ne.symm (hz.ix i (List.mem_of_getElem? hq)))]; exact hrel q i hq
  have hds : ∀ k ∈ ms, k.d ∉ oz.looksAt ops := fun k hk => (hz.ds k hk).1
  have zstep : ∀ (f : Nat) (done : Array Bool) (a : Act) (s : St) (vs : List (Option Value)) (Ns : List (List Blk)) (w : World), Sim S L0 s.1 → Zok P w0 S L0 a oz vz → Made ms s.2 vs Ns → (∀ (q i : Nat), ix[q]? = some i → ((∃ v, vs[q]? = some (some v)) ↔ done.getD i false = true)) → (∀ m ∈ ms, m.d < a.tmps.size) → a.tmps.size = N →
      Cl w0 (s.1 ++ Ns.flatten) w → done.getD z true = false → anyC P md ops w0 S ms kd ix R U f (done.setIfInBounds z true) a s → OW r m P ops Q z (AW r m P md ops Q f (done.setIfInBounds z true)) (puts a ms vs) w := by
    intro f done a s vs Ns w hS hZ hM hrel hsz hN hC hd h
    have hput : anyC P md ops w0 S ms kd ix (fun a1 s => ∃ a0, a1 = a0.put oz.dst vz ∧ R a0 s) (fun f done a1 s => ∃ a0, a1 = a0.put oz.dst vz ∧ a0.tmps.size = N ∧ Sim S L0 s.1 ∧ Zok P w0 S L0 a0 oz vz ∧ U f done a0 s) f (done.setIfInBounds z true) (a.put oz.dst vz) s := by
      clear hM hrel hC
      induction f generalizing done a s with
      | zero => exact ⟨h.1, h.2.1, a, rfl, h.2.2⟩
      | succ f ih =>
        refine ⟨h.1, h.2.imp (fun ⟨x, y, u⟩ => ⟨x, y, a, rfl, hN, hS, hZ, u⟩) fun h2 i hi => ?_⟩
        obtain ⟨oi, ho, v, s', hk, hn⟩ := h2 i hi
        have hiz : i ≠ z := fun e => by
          have := (mem_ready.1 hi).1
          rw [e, Array.getD_eq_getD_getElem?] at this
          simp [getD_false_lt hd] at this
        cases ht : (kd i).isTail with
        | true =>
          have e : kd i = .tail := by cases hkd : kd i <;> rw [hkd] at ht <;> simp [Kd.isTail] at ht <;> rfl
          rw [e] at hk; exact hk.elim
        | false =>
          obtain ⟨h1, h2', h3⟩ := Oper.apart_spec (hz.apart i oi ho hiz ht)
          refine ⟨oi, ho, v, s', (StepK.eq (hsel i oi · · ho) h1).2 hk, ?_⟩
          have hc : putK (kd i) (a.put oz.dst vz) oi.dst v = (putK (kd i) a oi.dst v).put oz.dst vz := putK_comm (a := a) (j := Kd.q) (k := kd i) (x := oz.dst) (y := oi.dst) vz v h2'
          rw [hc, Array.setIfInBounds_comm _ _ (Ne.symm hiz)]
          rw [Array.setIfInBounds_comm _ _ (Ne.symm hiz)] at hn
          have hsz2 : (putK (kd i) a oi.dst v).tmps.size = a.tmps.size := by cases kd i <;> simp [putK, put_size]
          refine ih (done.setIfInBounds i true) (putK (kd i) a oi.dst v) s' (hS.trans hk.sim) ?_ (fun m hm => by rw [hsz2]; exact hsz m hm) (by rw [hsz2]; exact hN) (by rw [getD_set_ne true hiz]; exact hd) hn
          intro L2 w hs2 hc2
          have e : execOp (putK (kd i) a oi.dst v).eval oz = execOp a.eval oz := by
            cases kd i <;> first | rfl | exact execs_put (hsel z oz · · hz.at_) h3
          rw [e]; exact hZ L2 w hs2 hc2
    have hexec : (execOp (puts a ms vs).eval oz).run P w = .ok (.value vz) w := by
      rw [puts_exec (ops := ops) (hsel z oz · · hz.at_) ms vs a hds]; exact hZ _ w (hS.trans (Sim.more S s.1 Ns.flatten)) hC
    refine OW.val hz.at_ (by simp [Region.wanted, hz.guard]) hexec ?_
    rw [puts_put ms vs a fun k hk => (hz.ds k hk).2]
    refine anyC_any (N := N) hA hsel (R := fun a1 s => ∃ a0, a1 = a0.put oz.dst vz ∧ R a0 s) (U := fun f done a1 s => ∃ a0, a1 = a0.put oz.dst vz ∧ a0.tmps.size = N ∧ Sim S L0 s.1 ∧ Zok P w0 S L0 a0 oz vz ∧ U f done a0 s) ?_ ?_ f _ _ s vs Ns w hM (relz hrel) (fun m hm => by rw [put_size]; exact hsz m hm) (by rw [put_size]; exact hN) hC hput
    · rintro _ s vs Ns w hM hs hC ⟨a0, rfl, hR⟩
      exact hR1 a0 s vs Ns w hM hs hC hR
    · rintro f done _ s vs Ns w hM hs hC _ ⟨a0, rfl, hN0, hS0, hZ0, hU⟩
      exact hT1 f done a0 s vs Ns w hM hs hC hN0 hS0 hZ0 hU
  have zready : ∀ {done : Array Bool}, done.getD z true = false → z ∈ Region.ready md ops done := fun hd => mem_ready.2 ⟨hd, oz, hz.at_, fun e he hb => by rw [hz.after e he] at hb; cases hb⟩
  induction f with
  | zero =>
    intro done a s vs Ns w hS hZ hc hd hM hrel hsz hN hC h
    refine AW.succ (List.ne_nil_of_mem (zready hd)) fun i hi => ?_
    have : i = z := by
      apply Classical.byContradiction
      intro hne
      have := ready_mono hi hne
      rw [h.1] at this; cases this
    subst this
    exact zstep 0 done a s vs Ns w hS hZ hM hrel hsz hN hC hd h
  | succ f ih =>
    intro done a s vs Ns w hS hZ hc hd hM hrel hsz hN hC h
    rcases h.2 with ⟨_, hmade, hU⟩ | h2
    · exact hT2 _ done a s vs Ns w hM (mk_full hA hM.len (relz hrel) hmade) hC hN hc hd hU
    refine AW.succ (List.ne_nil_of_mem (zready hd)) fun i hi => ?_
    by_cases hiz : i = z
    · subst hiz
      exact zstep (f + 1) done a s vs Ns w hS hZ hM hrel hsz hN hC hd h
    · obtain ⟨oi, ho, v, s', hk, hn⟩ := h2 i (ready_mono hi hiz)
      refine step_any hA hsel hM hrel hsz hC hi ho hk fun vs' Ns' w' hM' hrel' hC' => ?_
      have hsz2 : (putK (kd i) a oi.dst v).tmps.size = a.tmps.size := by cases kd i <;> simp [putK, put_size]
      have ht : (kd i).isTail = false := by
        cases hkd : kd i <;> first | rfl | (rw [hkd] at hk; exact hk.elim)
      obtain ⟨h1, h2', h3⟩ := Oper.apart_spec (hz.apart i oi ho hiz ht)
      refine ih (done.setIfInBounds i true) _ s' vs' Ns' w' (hS.trans hk.sim) ?_ (hc.set hi) (by rw [getD_set_ne true hiz]; exact hd) hM' hrel' (fun m hm => by rw [hsz2]; exact hsz m hm) (by rw [hsz2]; exact hN) hC' (by rw [Array.setIfInBounds_comm _ _ hiz]; exact hn)
      intro L2 w hs2 hc2
      have e : execOp (putK (kd i) a oi.dst v).eval oz = execOp a.eval oz := by
        cases kd i <;> first | rfl | exact execs_put (hsel z oz · · hz.at_) h3
      rw [e]; exact hZ L2 w hs2 hc2

def regionZ (ops : Array Oper) (ks ks2 : List Kd) (D ix M D2 ix2 ord rest : List Nat) (z : Nat) : Bool :=
  Region.noSelect ops && allB .any ops D ix (fun j => ks.getD j .tail) && masksB .any ops M && allB .any ops D2 ix2 (fun j => ks2.getD j .tail) && ((z :: (ord ++ rest)).all fun k => Nat.blt k ops.size) && ((ord ++ rest).length + 1 == ops.size) &&
    zB .any ops D ix (fun j => ks.getD j .tail) z && (match ks2.getD z .tail with | .q => true | _ => false) &&
    lexO .any ops (fun j => ks.getD j .tail) ix M (fun o done => (o == rest) && (done.getD z false && (ix2.all fun i => !(i == z) && !done.getD i false) && lexO .any ops (fun j => ks2.getD j .tail) ix2 M (fun o done => seqO .any ops o done) (z :: rest) (done.setIfInBounds z false))) (ord ++ rest) ((Array.replicate ops.size false).setIfInBounds z true)
theorem getD_true_lt {done : Array Bool} {i : Nat} (h : done.getD i false = true) : i < done.size := by
  rcases Nat.lt_or_ge i done.size with h' | h'
  · exact h'
  · simp [Array.getElem?_eq_none h'] at h
theorem set_back {done : Array Bool} {z : Nat} (h : done.getD z true = false) : (done.setIfInBounds z true).setIfInBounds z false = done := by
  have hlt := getD_false_lt h
  have h0 : done[z] = false := by simpa [hlt] using h
  apply Array.ext_getElem?
  intro i
  by_cases hi : z = i
  · subst hi
    simp [hlt, h0]
  · simp [Array.getElem?_setIfInBounds_ne hi]
theorem set_again {done : Array Bool} {z : Nat} (h : done.getD z false = true) : (done.setIfInBounds z false).setIfInBounds z true = done := by
  have hlt := getD_true_lt h
  have h0 : done[z] = true := by simpa [hlt] using h
  apply Array.ext_getElem?
  intro i
  by_cases hi : z = i
  · subst hi
    simp [hlt, h0]
  · simp [Array.getElem?_setIfInBounds_ne hi]
/-- makers first; then, beside a quiet operation z that may come at any time: whatever order again, its last operations in order -/
theorem c_regZ (hW : Cl w0 L W) {id : Nat} {os : List Oper} {oz : Oper} {vz : Value} (S : List Nat) (ks : List Kd) (ms : List Mk) (V : List (List Value)) (ix M S2 : List Nat) (ks2 : List Kd) (D2 ix2 ord rest : List Nat) (z : Nat) (hm : P.follows .mixedOrders = true) (hB : regionZ os.toArray ks ks2 (ms.map Mk.d) ix M D2 ix2 ord rest z = true) (hV : V.length = ms.length) (hd : (ms.all fun k => Nat.blt k.d bs.length) = true) (hd2 : (D2.all fun k => Nat.blt k bs.length) = true)
    (hoz : os[z]? = some oz) (hzr : ∀ L2 w, Sim S L L2 → Cl w0 L2 w → (execOp (ev bs us) oz).run P w = .ok (.value vz) w)
    (h : lx P os.toArray w0 S ms (fun _ _ => False)
      (fun _ a' s' => Full ms s'.2 a' s'.1 fun a' L' => ∃ (ms2 : List Mk) (V2 : List (List Value)), (ms2.map Mk.d = D2 ∧ V2.length = ms2.length) ∧ lx P os.toArray w0 S2 ms2 (fun a' s' => Full ms2 s'.2 a' s'.1 fun a' L' => ∀ w', Cl w0 L' w' → Q .normal a' w') (fun l' a' s' => Full ms2 s'.2 a' s'.1 fun a' L' => ∀ w', Cl w0 L' w' → LW r m P os.toArray Q l' a' w') ((z :: rest).map fun j => ks2.getD j .tail) (pickL os.toArray (z :: rest)) a' (L', V2)) ((ord ++ rest).map fun j => ks.getD j .tail) (pickL os.toArray (ord ++ rest)) (fr bs us ds) (L, V)) : CW r m P (Code.region id os.toArray true) Q (fr bs us ds) W := by
  simp only [regionZ, Bool.and_eq_true, beq_iff_eq] at hB
  obtain ⟨⟨⟨⟨⟨⟨⟨⟨hsel, hall⟩, hM⟩, hall2⟩, hv⟩, hlen⟩, hzB⟩, hkz⟩, hlex⟩ := hB
  obtain ⟨oz', hz⟩ := zB_spec hzB
  have hoz' : oz' = oz := by
    have h1 := hz.at_
    simp only [List.getElem?_toArray] at h1
    rw [hoz] at h1; injection h1 with h1; exact h1.symm
  subst hoz'
  have hkz' : ks2.getD z .tail = .q := by
    cases hk : ks2.getD z .tail <;> rw [hk] at hkz <;> first | rfl | cases hkz
  have hv' : ∀ k ∈ z :: (ord ++ rest), k < os.toArray.size := fun k hk => by
    have := List.all_eq_true.1 hv k hk
    rwa [Nat.blt_eq] at this
  have hzlt := hv' z (by simp)
  have sz : ∀ {k : Mk} {l : List Mk}, (l.all fun k => Nat.blt k.d bs.length) = true → k ∈ l → k.d < (fr bs us ds).tmps.size := fun hl hk => by
    have := List.all_eq_true.1 hl _ hk
    rw [Nat.blt_eq] at this
    simpa [fr, toL_len] using this
  have hZ : Zok P w0 S L (fr bs us ds) oz' vz := fun L2 w h1 h2 => by rw [eval_ev]; exact hzr L2 w h1 h2
  obtain ⟨T, hT⟩ : ∃ T : Act → List Blk → Prop, T = fun a' L' => ∃ (ms2 : List Mk) (V2 : List (List Value)), (ms2.map Mk.d = D2 ∧ V2.length = ms2.length) ∧ lx P os.toArray w0 S2 ms2 (fun a' s' => Full ms2 s'.2 a' s'.1 fun a' L' => ∀ w', Cl w0 L' w' → Q .normal a' w') (fun l' a' s' => Full ms2 s'.2 a' s'.1 fun a' L' => ∀ w', Cl w0 L' w' → LW r m P os.toArray Q l' a' w') ((z :: rest).map fun j => ks2.getD j .tail) (pickL os.toArray (z :: rest)) a' (L', V2) := ⟨_, rfl⟩
  rw [← hT] at h
  obtain ⟨ck, hck⟩ : ∃ ck : Array Bool → Bool, ck = fun done => done.getD z false && (ix2.all fun i => !(i == z) && !done.getD i false) && lexO .any os.toArray (fun j => ks2.getD j .tail) ix2 M (fun o done => seqO .any os.toArray o done) (z :: rest) (done.setIfInBounds z false) := ⟨_, rfl⟩
  have ne0 : ∀ i, (Array.replicate os.toArray.size false).getD i false = false := fun i => none_done _ _
  -- what is left of a second layer
  have lay2 : ∀ (l : List Nat) (done : Array Bool) (a : Act) (L' : List Blk) (w : World) (ms2 : List Mk) (V2 : List (List Value)), (∀ k ∈ l, k < os.toArray.size) → Closed .any os.toArray done → (∀ i ∈ ix2, done.getD i false = false) → ms2.map Mk.d = D2 → V2.length = ms2.length → a.tmps.size = (fr bs us ds).tmps.size →
      lexO .any os.toArray (fun j => ks2.getD j .tail) ix2 M (fun o done => seqO .any os.toArray o done) l done = true → lx P os.toArray w0 S2 ms2 (fun a' s' => Full ms2 s'.2 a' s'.1 fun a' L' => ∀ w', Cl w0 L' w' → Q .normal a' w') (fun l' a' s' => Full ms2 s'.2 a' s'.1 fun a' L' => ∀ w', Cl w0 L' w' → LW r m P os.toArray Q l' a' w') (l.map fun j => ks2.getD j .tail) (pickL os.toArray l) a (L', V2) → Cl w0 L' w → AW r m P .any os.toArray Q l.length done a w := by
    intro l done a L' w ms2 V2 hl hc hix hD hV2 hsz ht hk hC
    subst hD
    have h1 := anyC_lexO (P := P) (w0 := w0) (S := S2) (ms := ms2) (md := .any) (kd := fun j => ks2.getD j .tail) (ix := ix2) (U := fun f done a s => ∃ o, o.length = f ∧ seqO .any os.toArray o done = true ∧ Full ms2 s.2 a s.1 fun a' L' => ∀ w', Cl w0 L' w' → LW r m P os.toArray Q (pickL os.toArray o) a' w') hM hsel (fun o done a s _ ht hT => ⟨o, rfl, ht, hT⟩) l done a (L', V2) hl hc ht hk
    have h2 := anyC_any (N := a.tmps.size) (P := P) (r := r) (m := m) (Q := Q) (ms := ms2) (allB_spec hall2) (Region.noSelect_spec hsel)
      (fun a s vs Ns w hM hs hC hR => by obtain ⟨L', hp, hk⟩ := Full.use hM hs hR; exact hk w (hC.perm hp)) (fun f done a s vs Ns w hM hs hC _ ⟨o, hf, ht, hT⟩ => by obtain ⟨L', hp, hk⟩ := Full.use hM hs hT; subst hf; exact AW_seqO o done _ w ht (hk w (hC.perm hp))) l.length done a (L', V2) _ _ w (none_made ms2 V2 hV2) (made0 hix) (fun k hk => by rw [hsz]; exact sz (by simpa [List.all_map, Function.comp_def] using hd2) hk) rfl (by
        have : (List.replicate ms2.length ([] : List Blk)).flatten = [] := by simp
        rw [this, List.append_nil]
        exact hC) h1
    rw [none_puts] at h2
    exact h2
  have H : AW r m P .any os.toArray Q os.toArray.size (Array.replicate os.toArray.size false) (fr bs us ds) W.drew := by
    have hc0 : Closed .any os.toArray ((Array.replicate os.toArray.size false).setIfInBounds z true) := fun j oj hj hd e he hb => by
      by_cases hjz : z = j
      · subst hjz
        obtain rfl : oj = oz' := Option.some.inj (hj.symm.trans hz.at_)
        rw [hz.after e he] at hb; cases hb
      · rw [getD_set_ne false hjz, ne0] at hd; cases hd
    have h1 := anyC_lexO (P := P) (w0 := w0) (S := S) (ms := ms) (md := .any) (kd := fun j => ks.getD j .tail) (ix := ix) (R := fun _ _ => False) (T := fun _ a' s' => Full ms s'.2 a' s'.1 T) (U := fun f done a s => f = rest.length ∧ Closed .any os.toArray done ∧ ck done = true ∧ Full ms s.2 a s.1 T)
      hM hsel (fun o done a s hc ht hT => by
        simp only [Bool.and_eq_true, beq_iff_eq] at ht
        refine ⟨by rw [ht.1], hc, ?_, hT⟩
        rw [hck]
        simp only [Bool.and_eq_true]; exact ht.2) (ord ++ rest) ((Array.replicate os.toArray.size false).setIfInBounds z true) (fr bs us ds) (L, V) (fun k hk => hv' k (by simp only [List.mem_cons]; exact .inr hk)) hc0 hlex h
    have h2 := anyC_z (N := (fr bs us ds).tmps.size) (P := P) (r := r) (m := m) (Q := Q) (vz := vz) (allB_spec hall) (Region.noSelect_spec hsel) hz
      (fun a s vs Ns w _ _ _ hR => hR.elim)
      (fun f done a s vs Ns w hMd hs hC hsz hS hZ ⟨hf, hc, ht, hF⟩ => by
        rw [hck] at ht
        simp only [Bool.and_eq_true] at ht
        obtain ⟨⟨hzt, hix⟩, ht⟩ := ht
        obtain ⟨L', hp, hk⟩ := Full.use hMd hs hF
        rw [hT] at hk
        obtain ⟨ms2, V2, ⟨hD, hV2⟩, hk⟩ := hk
        subst hf
        have hpick : pickL os.toArray (z :: rest) = oz' :: pickL os.toArray rest := by simp only [pickL, hz.at_]
        rw [List.map_cons, hkz', hpick] at hk
        obtain ⟨v, s2, ⟨hy, rfl⟩, hk⟩ := hk
        have hrun : (execOp (puts a ms vs).eval oz').run P w = .ok (.value vz) w := by
          rw [puts_exec (ops := os.toArray) (Region.noSelect_spec hsel z oz' · · hz.at_) ms vs a fun k hk => (hz.ds k hk).1]; exact hZ _ w (hS.trans (Sim.more S s.1 Ns.flatten)) hC
        have hvz : v = vz := by
          rcases hy L' (Sim.refl _ _) with ⟨_, hq⟩ | ⟨hw, _⟩
          · have := hq w (hC.perm hp)
            unfold Oper.quietAt at this
            rw [hrun] at this
            first | exact this.2.symm | exact this.2
          · simp [Region.wanted, hz.guard] at hw
        subst hvz
        simp only [putK] at hk
        rw [puts_put ms vs a fun k hk => (hz.ds k hk).2] at hk
        have ht' : lexO .any os.toArray (fun j => ks2.getD j .tail) ix2 M (fun o done => seqO .any os.toArray o done) rest done = true := by
          rw [lexO, hkz'] at ht
          simp only [Bool.and_eq_true] at ht
          rw [set_again hzt] at ht
          exact ht.2
        exact lay2 rest done _ L' w ms2 V2 (fun k hk => hv' k (by simp [hk])) hc (fun i hi => by
          have := List.all_eq_true.1 hix i hi
          simp only [Bool.and_eq_true] at this
          simpa using this.2) hD hV2 (by rw [puts_size, put_size, hsz]) ht' hk (hC.perm hp))
      (fun f done a s vs Ns w hMd hs hC hsz hc hd ⟨hf, _, ht, hF⟩ => by
        rw [hck] at ht
        simp only [Bool.and_eq_true] at ht
        obtain ⟨⟨-, hix⟩, ht⟩ := ht
        rw [set_back hd] at ht
        obtain ⟨L', hp, hk⟩ := Full.use hMd hs hF
        rw [hT] at hk
        obtain ⟨ms2, V2, ⟨hD, hV2⟩, hk⟩ := hk
        subst hf
        exact lay2 (z :: rest) done _ L' w ms2 V2 (fun k hk => hv' k (by
          rcases List.mem_cons.1 hk with rfl | hk
          · simp
          · simp [hk])) hc (fun i hi => by
          have := List.all_eq_true.1 hix i hi
          simp only [Bool.and_eq_true] at this
          have h1 : i ≠ z := by simpa using this.1
          have h2 : (done.setIfInBounds z true).getD i false = false := by simpa using this.2
          rwa [getD_set_ne false (Ne.symm h1)] at h2) hD hV2 (by rw [puts_size, hsz]) ht hk (hC.perm hp))
      (ord ++ rest).length (Array.replicate os.toArray.size false) (fr bs us ds) (L, V) _ _ W.drew (Sim.refl _ _) hZ (fun j oj _ hd => by rw [ne0] at hd; cases hd) (by simp only [List.size_toArray] at hzlt; simp [hzlt]) (none_made ms V hV) (made0 fun i _ => none_done _ _) (fun k hk => sz hd hk) rfl (by
        have : (List.replicate ms.length ([] : List Blk)).flatten = [] := by simp
        rw [this, List.append_nil]
        exact hW.drew) h1
    rw [none_puts, hlen] at h2
    exact h2
  cases r with
  | none => exact wp_region_any hm H
  | some k => exact wpIn_region_any hm H
end
end Go.Proofs.Ytoegpalacppllaa

/- Calls that write into blocks of their caller's; parts of slices that may be nil. No function of the program is in sight here. -/
namespace Go.Proofs.Ytoegpalacppllaa
open Go.RowKit Pl Tr Hn

/-- a call that may write into these blocks of its caller's -/
def GivesS (P : Program) (f : FuncId) (args : Array Value) (Pre : Base → List Blk → Prop) (B : List Blk) (Y : Value → List Blk → Prop) : Prop :=
  ∀ b L W, Pre b L → Cl b (B ++ L) W → Calls P f args W fun e w' => ∃ v B', e = .returned v ∧ Y v B' ∧ Cl b (B' ++ L) w'
theorem GivesR.cast {P : Program} {f : FuncId} {args : Array Value} {Pre : World → Prop} {v v' : Value} (h : GivesR P f args Pre v) (e : v = v') : GivesR P f args Pre v' := e ▸ h
theorem perm4 {α : Type} {A B C D K : List α} : (A ++ (B ++ (C ++ (D ++ K)))).Perm (K ++ (A ++ (B ++ (C ++ D)))) := by
  have : A ++ (B ++ (C ++ (D ++ K))) = (A ++ (B ++ (C ++ D))) ++ K := by simp [List.append_assoc]
  rw [this]
  exact List.perm_append_comm
theorem perm2 {α : Type} {A B K : List α} : (A ++ (B ++ K)).Perm (K ++ (A ++ B)) := by
  rw [← List.append_assoc]
  exact List.perm_append_comm
theorem sub4a {α : Type} {A B C D : List α} : A.Sublist (A ++ (B ++ (C ++ D))) := List.sublist_append_left _ _
theorem sub4c {α : Type} {A B C D : List α} : C.Sublist (A ++ (B ++ (C ++ D))) := (List.sublist_append_left C D).trans ((List.sublist_append_right B _).trans (List.sublist_append_right A _))
theorem permT {α : Type} {K N B M : List α} : ((K ++ (N ++ B)) ++ M).Perm ((K ++ (N ++ M)) ++ B) := by
  simp only [List.append_assoc]
  exact (List.perm_append_comm.append_left N).append_left K
theorem permG {α : Type} {g : α} {A B C D K N X : List α} : (g :: (A ++ (B ++ (C ++ (D ++ (K ++ (N ++ X))))))).Perm ((g :: (K ++ (N ++ (A ++ (B ++ (C ++ D)))))) ++ X) := by
  rw [List.cons_append]
  refine List.Perm.cons _ ?_
  refine (perm4 (A := A) (B := B) (C := C) (D := D) (K := K ++ (N ++ X))).trans ?_
  exact permT
theorem OwnSl.rdS {w0 : Base} {W : World} {e : TypeId} {sz : Nat} {a : Option Addr} {n c : Nat} {xs : List Value} {L Bs : List Blk} (hO : OwnSl e sz a n c xs Bs) (hW : Cl w0 (L ++ Bs) W) : Rd W a xs := by
  rcases hO.2 with ⟨rfl, rfl, rfl, rfl⟩ | ⟨g, cur, rfl, rfl, hnc, hcm, hcl, htake⟩
  · have : xs = [] := List.eq_nil_of_length_eq_zero (by simpa using hO.1)
    subst this; exact Rd.nil _ _
  · exact hW.rd (g := g) (cs := cur) (ty := e) L.length (by simp) 0 (n * sz) (by simpa using htake)
/-- sides in new memory, so far -/
def NewSs (ss : List Sl) (ps : List (List Int)) (N : List Blk) : Prop := ∀ (k : Nat) s, ss[k]? = some s → ∃ l, ps[k]? = some l ∧ NewI s l N
theorem NewSs.nil (ps : List (List Int)) (N : List Blk) : NewSs [] ps N := fun k s h => by simp at h
theorem NewSs.two {ss : List Sl} {ps : List (List Int)} {N M : List Blk} {i : Nat} {s0 s1 : Sl} {l0 l1 : List Int} (h : NewSs ss ps N) (hl : ss.length = 2 * i) (f0 : ps[2 * i]? = some l0) (f1 : ps[2 * i + 1]? = some l1) (n0 : NewI s0 l0 M) (n1 : NewI s1 l1 M) : NewSs (ss ++ [s0, s1]) ps (N ++ M) := fun k s hk => by
  rcases Nat.lt_or_ge k (2 * i) with hlt | hge
  · rw [List.getElem?_append_left (by omega)] at hk
    obtain ⟨l, h1, h2⟩ := h k s hk
    exact ⟨l, h1, h2.sub (List.sublist_append_left _ _)⟩
  · rw [List.getElem?_append_right (by omega), hl] at hk
    have hk2 := (List.getElem?_eq_some_iff.1 hk).1
    simp only [List.length_cons, List.length_nil] at hk2
    have : k = 2 * i ∨ k = 2 * i + 1 := by omega
    rcases this with rfl | rfl
    · rw [Nat.sub_self] at hk
      simp only [List.getElem?_cons_zero, Option.some.injEq] at hk
      subst hk
      exact ⟨l0, f0, n0.sub (List.sublist_append_right _ _)⟩
    · rw [show 2 * i + 1 - 2 * i = 1 by omega] at hk
      simp only [List.getElem?_cons_succ, List.getElem?_cons_zero, Option.some.injEq] at hk
      subst hk
      exact ⟨l1, f1, n1.sub (List.sublist_append_right _ _)⟩
section
variable {P : Program} {ops : Array Oper} {Q : Exit → Act → World → Prop} {bs : List Value} {us : List (Nat × Value)} {ds : List Deferred} {w0 : Base} {W : World} {rest : List Oper} {o : Oper} {L B : List Blk} {d : Nat} {v : Value} {r : Option (Option Nat)} {m : Nat} {fn : Func}
theorem givesS_of {f : FuncId} {c : Code} {args : List Value} {Pre : Base → List Blk → Prop} {Y : Value → List Blk → Prop} (hf : P.funcs[f]? = some fn) (hb : fn.body = some c) (hl : args ++ List.replicate (fn.ntmps - args.length) undef = bs)
    (h : ∀ b L w, Pre b L → Cl b (B ++ L) w → CW none 0 P c (bodyPost P fn (fun e w' => ∃ v B', e = .returned v ∧ Y v B' ∧ Cl b (B' ++ L) w')) (fr bs [] []) w) : GivesS P f args.toArray Pre B Y := fun b L w hp hc => by
  refine calls_of_wp hf hb ?_
  have e : args.toArray ++ Array.replicate (fn.ntmps - args.toArray.size) undef = bs.toArray := by
    rw [← hl]; simp
  rw [e]
  exact h b L w hp hc
theorem l_callS {f : FuncId} {xs : Array Operand} {ts : Array TypeId} {args : List Value} {Pre : Base → List Blk → Prop} {Y : Value → List Blk → Prop} (hgv : GivesS P f args.toArray Pre B Y) (hW : Cl w0 (B ++ L) W) (he : Enters P f) (hp : Pre w0 L) (hg : Region.wanted o (yielded ops (fr bs us ds).tmps) = true) (ho : o.op = .call { callee := .value (.func f), args := xs, argTypes := ts }) (ha : xs.toList.map (ev bs us) = args) (hd : o.dst = some d)
    (h : ∀ v B' W', Y v B' → Cl w0 (B' ++ L) W' → LW r m P ops Q rest (fr bs ((d, v) :: us) ds) W') : LW r m P ops Q (o :: rest) (fr bs us ds) W :=
  LW.call hg (by rw [eval_ev]; exact run_call he ho ha W) ((hgv w0 L W hp hW).mono fun _ w ⟨v, B', he, hy, hc⟩ => ⟨v, he, by show LW r m P ops Q rest ((fr bs us ds).put o.dst v) w; rw [hd, put_st]; exact h v B' w hy hc⟩)
/-- .. of a function value -/
theorem l_callVS {f : FuncId} {x : Operand} {xs : Array Operand} {ts : Array TypeId} {args cap : List Value} {Pre : Base → List Blk → Prop} {Y : Value → List Blk → Prop} (hgv : GivesS P f (args ++ cap).toArray Pre B Y) (hW : Cl w0 (B ++ L) W) (he : Enters P f) (hp : Pre w0 L) (hg : Region.wanted o (yielded ops (fr bs us ds).tmps) = true) (ho : o.op = .call { callee := .value x, args := xs, argTypes := ts }) (hx : ev bs us x = .func (.func f) #[] cap.toArray) (ha : xs.toList.map (ev bs us) = args) (hd : o.dst = some d)
    (h : ∀ v B' W', Y v B' → Cl w0 (B' ++ L) W' → LW r m P ops Q rest (fr bs ((d, v) :: us) ds) W') : LW r m P ops Q (o :: rest) (fr bs us ds) W :=
  LW.call hg (by rw [eval_ev]; exact run_callV he ho hx ha W) ((hgv w0 L W hp hW).mono fun _ w ⟨v, B', he, hy, hc⟩ => ⟨v, he, by show LW r m P ops Q rest ((fr bs us ds).put o.dst v) w; rw [hd, put_st]; exact h v B' w hy hc⟩)

/-- a load of what is known of the world that is -/
theorem l_loadW {t : TypeId} (ht : TyC P t) {x : Operand} {b i : Nat} (hc : W.cell? ⟨b, i, none⟩ = some v) (hg : Region.wanted o (yielded ops (fr bs us ds).tmps) = true) (ho : o.op = .load t x) (hx : ev bs us x = .pointer (some ⟨b, i, none⟩)) (hd : o.dst = some d)
    (h : LW r m P ops Q rest (fr bs ((d, v) :: us) ds) W) : LW r m P ops Q (o :: rest) (fr bs us ds) W := by
  refine l_runG hg ?_ hd h
  unfold execOp
  simp [ho, hx, Instr.loadAt, Instr.sureAddr, loadVar, ht.agg W, hc]
theorem run_eqNil (k : Nat) {t e n c : Nat} {a : Option Addr} (ht : P.underlying t = some (.slice e)) (w : World) : (Op.equalIn (k + 1) t (.slice a n c) (.slice none 0 0)).run P w = .ok (decide (a = none)) w := by
  cases a <;> simp [Op.equalIn, run_underlying ht]
theorem r_eqlNil {t t' e n c : Nat} {a : Option Addr} {x y : Operand} {b : Bool} (ht : P.underlying t = some (.slice e)) (ho : o.op = .binOp .eql t x y t') (hx : ev bs us x = .slice a n c) (hy : ev bs us y = .slice none 0 0) (hb : decide (a = none) = b) : Runs P bs us o (.bool b) := fun w => by
  subst hb
  have h : (Op.equal t (.slice a n c) (.slice none 0 0)).run P w = .ok (decide (a = none)) w := run_eqNil 9999 ht w
  unfold execOp
  simp [ho, hx, hy, eqGuard, binOp, h]
/-- numbers that are appended to what is empty -/
theorem l_twin {t e bytes : Nat} (hE : TyE P t e 1 bytes) (hW : Cl w0 L W) {s : Sl} {l : List Int} {ad : Addr} {x y : Operand} (hr : RdI W s l) (b2 : l.length * bytes ≤ 140737488355328) (b3 : l.length ≤ 4294967296) (hg : o.guard = none) (ho : o.op = .call { callee := .builtin .append, args := #[y, x], argTypes := #[t, t] }) (hy : ev bs us y = .slice (some ad) 0 0) (hx : ev bs us x = s.v) (hd : o.dst = some d)
    (h : ∀ (s2 : Sl) Bs W', NewI s2 l Bs → Cl w0 (L ++ Bs) W' → LW r m P ops Q rest (fr bs ((d, s2.v) :: us) ds) W') : LW r m P ops Q (o :: rest) (fr bs us ds) W := by
  obtain ⟨v, Bs, W', hrun, ⟨s2, rfl, hs⟩, hC⟩ := fresh_ints hE hW o.type ad hr b2 b3
  exact l_run hg (run_append_op ho hy hx hrun) hd (h s2 Bs W' hs hC)
/-- a part of a block is written -/
theorem l_storeP (hW : Cl w0 L W) (p : Nat) {t : TypeId} {n : Nat} (ht : TyA P t n) {x y : Operand} {g i : Nat} {cs vs : List Value} {ty : TypeId} (hg : o.guard = none) (ho : o.op = .store t x y) (hx : ev bs us x = .pointer (some ⟨g, i, none⟩)) (hy : ev bs us y = .agg vs.toArray) (hd : o.dst = none)
    (hp : L[p]? = some ⟨g, cs, ty⟩) (hi : i + n ≤ cs.length) (hn : vs.length = n) (h1 : ∀ v ∈ vs, v.oneCell' = true)
    (h : ∀ W', Cl w0 (L.set p ⟨g, cs.take i ++ vs ++ cs.drop (i + n), ty⟩) W' → LW r m P ops Q rest (fr bs us ds) W') : LW r m P ops Q (o :: rest) (fr bs us ds) W := by
  have hs := run_store_agg ht W (hW.at p hp) hn (i := i) hi h1
  refine LW.skip (wanted_none hg) ?_ (by rw [hd, put_none]; exact h _ (hW.setRow p hp _))
  rw [eval_ev]
  unfold execOp
  simp only [ho, hx, hy, Instr.storeAt, Instr.sureAddr, Sem.run_bind, Sem.run_pure, Result.andThen_ok, hs]

/-! ### parts of slices -/
def Sl.to (s : Sl) (k : Nat) : Sl := ⟨s.a, k, s.c⟩
def Sl.from (s : Sl) (k : Nat) : Sl := ⟨s.a.map fun ad => if s.c = k then ad else ad.add k, s.n - k, s.c - k⟩
theorem RdI.to {w : World} {s : Sl} {l : List Int} (h : RdI w s l) {k : Nat} (hk : k ≤ s.n) : RdI w (s.to k) (l.take k) := by
  have hn := h.len
  refine ⟨⟨by have := h.ok.le; show k ≤ s.c; omega, h.ok.nil⟩, by show k = _; simp; omega, fun j u hu => ?_⟩
  rw [il_take, List.getElem?_take] at hu
  split at hu
  · exact h.rd j u hu
  · cases hu
theorem RdI.from {w : World} {s : Sl} {l : List Int} (h : RdI w s l) {k : Nat} (hk : k ≤ s.n) : RdI w (s.from k) (l.drop k) := by
  have hn := h.len
  have hle := h.ok.le
  refine ⟨⟨by show s.n - k ≤ s.c - k; omega, fun e => ?_⟩, by show s.n - k = _; simp; omega, fun j u hu => ?_⟩
  · have : s.a = none := by simpa [Sl.from] using e
    have := h.ok.nil this
    show s.c - k = 0
    omega
  · rw [il_drop, List.getElem?_drop] at hu
    obtain ⟨b, i, ha, hc⟩ := h.rd (k + j) u hu
    have hlt := (List.getElem?_eq_some_iff.1 hu).1
    rw [il_len] at hlt
    have hne : ¬ s.c = k := by omega
    refine ⟨b, i + k, ?_, by rw [← hc]; congr 2; omega⟩
    simp [Sl.from, ha, hne, Addr.add_lit]
theorem r_sliceFrom {t e k : Nat} {kd : IntKind} {s : Sl} {x y : Operand} (ht : P.underlying t = some (.slice e)) (hz : ∀ w, (sizeOf e).run P w = .ok 1 w) (ho : o.op = .slice t x (some y) none none)
    (hx : ev bs us x = s.v) (hy : ev bs us y = .int kd (k : Int)) (hn : k ≤ s.n) (hok : s.Ok) : Runs P bs us o (s.from k).v := fun w => by
  obtain ⟨a, n, c⟩ := s
  have hle := hok.le
  simp only at hn hle
  cases a with
  | none =>
    have hc := hok.nil rfl
    simp only at hc
    subst hc
    obtain rfl : n = 0 := by omega
    obtain rfl : k = 0 := by omega
    unfold execOp
    simp [ho, hx, hy, Instr.sliceAt, Instr.slice, asIntOf, run_underlying ht, hz, Instr.sliceBounds, Instr.sliceBound, Sl.from]
  | some q =>
    unfold execOp
    by_cases hc : c = k
    · simp [ho, hx, hy, Instr.sliceAt, Instr.slice, asIntOf, run_underlying ht, hz, Instr.sliceBounds, Instr.sliceBound, hn, hc, Sl.from]
    · simp [ho, hx, hy, Instr.sliceAt, Instr.slice, asIntOf, run_underlying ht, hz, Instr.sliceBounds, Instr.sliceBound, hn, hc, Sl.from]
end
end Go.Proofs.Ytoegpalacppllaa

/- Halves, by the reference. -/
namespace Go.Proofs.Ytoegpalacppllaa
open Go.RowKit Pl
open Tr Hn
set_option maxRecDepth 10000 in
/-- headend/headendref08.halves -/
theorem g_rhalves (aa : Option Addr) (an ac : Nat) (l : List Int) (hl : l.length ≤ 4294967296) : GivesX Try.prog 54 [.slice aa an ac].toArray (fun w => RdI w ⟨aa, an, ac⟩ l) (fun v Bs => ∃ s0 s1 : Sl, v = .agg [s0.v, s1.v].toArray ∧ NewI s0 (l.take (halfN l)) Bs ∧ NewI s1 (l.drop (halfN l)) Bs) := by
  refine givesX_of Try.func54 rfl (bs := [.slice aa an ac, undef, undef, undef, undef, undef, undef, undef, undef, undef, undef, undef, undef, undef, undef, undef, undef, undef, undef]) rfl ?_
  intro w hP hW
  have hn : an = l.length := hP.len
  have hle := hP.ok.le
  simp only at hle
  refine c_seq ?_
  refine c_reg ?_
  refine l_alloc hW tyZ99 rfl rfl rfl ?_
  intro g1 W hW
  refine l_end ?_
  refine n_then ?_
  refine c_seq ?_
  refine c_reg ?_
  refine l_val (r_move (v := .slice _ _ _) rfl rfl) rfl rfl ?_
  refine l_val (r_lenSlice Try.underlying35 rfl rfl) rfl rfl ?_
  refine l_val (r_addN (n := 1) rfl rfl rfl (by omega)) rfl rfl ?_
  refine l_val (r_quoN (n := 2) rfl rfl rfl (by omega) (by omega)) rfl rfl ?_
  refine l_val (r_assign (v := .int _ _) rfl rfl) rfl rfl ?_
  refine l_end ?_
  refine n_then ?_
  refine c_seq ?_
  refine c_regM hW [] [.mk 0, .q, .q, .q, .mkd 1 0, .mk 2, .q, .q, .q, .mkd 3 2, .tail, .tail] [⟨8, bslX 3 0⟩, ⟨12, twX (l.take ((an + 1) / 2))⟩, ⟨13, bslX 3 0⟩, ⟨17, twX (l.drop ((an + 1) / 2))⟩] [[], [], [], []] [0, 4, 5, 9] [0, 0, 0, 6, 15, 0, 0, 0, 192, 511, 1023, 2047] (by kernel_rfl) (by kernel_rfl) rfl (by kernel_rfl) ?_
  refine y_buildSliceF 0 bsl35_0_ rfl rfl rfl rfl ?_
  refine y_val (r_move (v := .slice _ _ _) rfl rfl) rfl rfl ?_
  refine y_val (r_move (v := .int _ _) rfl rfl) rfl rfl ?_
  refine y_val (r_sliceTo Try.underlying35 tyC3.size rfl rfl rfl (by omega) hP.ok.nil) rfl rfl ?_
  refine y_twin 1 0 tyE35 (s := ⟨aa, (an + 1) / 2, ac⟩) rfl rfl rfl rfl (fun L2 w hs hC => (RdI.past hP hC.below).to (k := (an + 1) / 2) (by simp only; omega)) (by simp only [List.length_take]; omega) (by simp only [List.length_take]; omega) rfl (fun _ => rfl) (fun _ => rfl) ?_
  refine y_buildSliceF 2 bsl35_0_ rfl rfl rfl rfl ?_
  refine y_val (r_move (v := .slice _ _ _) rfl rfl) rfl rfl ?_
  refine y_val (r_move (v := .int _ _) rfl rfl) rfl rfl ?_
  refine y_val (r_sliceFrom (s := ⟨aa, an, ac⟩) Try.underlying35 tyC3.size rfl rfl rfl (by simp only; omega) hP.ok) rfl rfl ?_
  refine y_twin 3 2 tyE35 (s := Sl.from ⟨aa, an, ac⟩ ((an + 1) / 2)) rfl rfl rfl rfl (fun L2 w hs hC => (RdI.past hP hC.below).from (k := (an + 1) / 2) (by simp only; omega)) (by simp only [List.length_drop]; omega) (by simp only [List.length_drop]; omega) rfl (fun _ => rfl) (fun _ => rfl) ?_
  refine y_tail ?_
  refine y_made ?_
  rintro _ _ ⟨ge, rfl, rfl⟩
  refine y_made ?_
  rintro _ Bs1 ⟨s0, rfl, hs0⟩
  refine y_made ?_
  rintro _ _ ⟨gf, rfl, rfl⟩
  refine y_made ?_
  rintro _ Bs3 ⟨s1, rfl, hs1⟩
  intro W hW
  replace hW := hW.perm perm4
  refine l_val (r_build (ps := [(0, .slice _ _ _), (1, .slice _ _ _)]) (bld99_0_1 _ _ _ _ _ _) rfl rfl) rfl rfl ?_
  refine l_storeA hW 0 tyA99 rfl rfl rfl rfl rfl rfl (by first | rfl | exact kc_len _ | exact kcf_len _ | (simp; done)) (by first | rfl | exact kc_len _ | exact kcf_len _ | (simp; done)) (by first | exact kc_one _ | exact kcf_one _ | (simp [Value.oneCell']; done)) ?_
  intro W hW
  refine l_end ?_
  refine n_then ?_
  refine c_ret ?_
  refine ret_cell hW 0 tyA99 rfl rfl rfl (by first | rfl | exact kc_len _ | exact kcf_len _ | (simp; done)) ?_
  exact ⟨_, Bs3 ++ ([⟨gf, [], 3⟩] ++ (Bs1 ++ [⟨ge, [], 3⟩])), rfl, ⟨s0, s1, rfl, by rw [halfN, ← hn]; exact hs0.sub sub4c, by rw [halfN, ← hn]; exact hs1.sub sub4a⟩, hW.drop 1⟩

end Go.Proofs.Ytoegpalacppllaa

/- The program's test of a group: what it has marked, what is left. No function of the program is in sight here. -/
namespace Go.Proofs.Ytoegpalacppllaa.Hn
open Go.Proofs.Ytoegpalacppllaa

/-- the users that are marked -/
def marks (s : LI) (n : Nat) : List Value := (List.range n).map fun (u : Nat) => .bool (s.contains (u : Int))
theorem marks_len (s : LI) (n : Nat) : (marks s n).length = n := by simp [marks]
theorem marks_get {s : LI} {n : Nat} {x : Int} (h0 : 0 ≤ x) (h1 : x < (n : Int)) : (marks s n)[x.toNat]? = some (.bool (s.contains x)) := by
  have h : x.toNat < n := by omega
  simp [marks, h, Int.toNat_of_nonneg h0]
theorem marks_set {s : LI} {n : Nat} {x : Int} (h0 : 0 ≤ x) (h1 : x < (n : Int)) : (marks s n).set x.toNat (.bool true) = marks (s ++ [x]) n := by
  apply List.ext_getElem?
  intro i
  rw [List.getElem?_set]
  by_cases e : x.toNat = i
  · subst e
    have h : x.toNat < n := by omega
    simp [marks, h, Int.toNat_of_nonneg h0]
  · simp only [e, if_false, marks, List.getElem?_map]
    rcases Nat.lt_or_ge i n with h | h
    · have : ¬ (i : Int) = x := by omega
      simp [h, this]
    · rw [List.getElem?_eq_none (by simpa using h)]
      rfl
theorem marks_nil (n : Nat) : marks [] n = List.replicate n (.bool false) := by simp [marks, List.map_const']
theorem fit_no {l pre : LI} {n : Int} {e : Bool} {i : Nat} (hi : i < l.length) (h : at_ l i < 0 ∨ n ≤ at_ l i ∨ (pre ++ l.take i).contains (at_ l i) = true ∨ 0 < i ∧ at_ l i < at_ l (i - 1)) : fitB n pre l e = false := by
  rw [← Bool.not_eq_true, fitB_iff]
  rintro ⟨h1, _⟩
  obtain ⟨a, b, c, d⟩ := h1 i hi
  rcases h with h | h | h | h
  · omega
  · omega
  · exact c (List.contains_iff_mem.1 h)
  · omega
def okI (n : Int) (pre l : LI) (i : Nat) : Prop := 0 ≤ at_ l i ∧ at_ l i < n ∧ at_ l i ∉ pre ++ l.take i ∧ (i = 0 ∨ at_ l (i - 1) ≤ at_ l i)
theorem okI_of {n : Int} {pre l : LI} {i : Nat} (h0 : ¬ at_ l i < 0) (h1 : at_ l i < n) (h2 : (pre ++ l.take i).contains (at_ l i) = false) (h3 : i = 0 ∨ at_ l (i - 1) ≤ at_ l i) : okI n pre l i :=
  ⟨by omega, h1, fun hm => (by rw [List.contains_iff_mem.2 hm] at h2; cases h2), h3⟩
theorem fit_yes {l pre : LI} {n : Int} {e : Bool} (h : ∀ k, k < l.length → okI n pre l k) : fitB n pre l e = (e || decide (0 < l.length)) := by
  cases hb : fitB n pre l e with
  | true =>
    have := (fitB_iff.1 hb).2
    rcases this with rfl | h
    · rfl
    · rw [decide_eq_true (List.length_pos_iff.2 h), Bool.or_true]
  | false =>
    have hn : ¬ (e = true ∨ l ≠ []) := fun he => by
      have := fitB_iff.2 ⟨h, he⟩
      rw [hb] at this
      cases this
    cases e with
    | true => exact absurd (.inl rfl) hn
    | false =>
      have : l = [] := Classical.byContradiction fun h => hn (.inr h)
      subst this
      rfl
theorem take_snoc {pre l : LI} {i : Nat} (h : i < l.length) : pre ++ l.take (i + 1) = (pre ++ l.take i) ++ [at_ l i] := by
  rw [List.take_succ_eq_append_getElem h, List.append_assoc]
  have := at_get h
  rw [List.getElem?_eq_getElem h] at this
  injection this with this
  rw [this]
theorem pre_len {pre l : LI} {i : Nat} (h : i ≤ l.length) : (pre ++ l.take i).length = pre.length + i := by
  simp; omega
theorem prog_no {h : Hu} (hb : fitB h.users [] h.rest true = false ∨ fitB h.users h.rest h.named true = false ∨ fitsB h.users (h.rest ++ h.named) h.ps = false ∨ (sumL (groups h) : Int) < h.users) : chkH h = 8 := by
  refine chkH_no ?_
  rw [← prog_valid, progB]
  rcases hb with hb | hb | hb | hb
  · rw [hb]; simp
  · rw [hb]; simp
  · rw [hb]; simp
  · rw [decide_eq_false (by omega), Bool.and_false]
theorem prog_yes {h : Hu} (h0 : 1 ≤ h.users ∧ h.users ≤ 64 ∧ 0 ≤ h.rounds ∧ h.rounds ≤ 100000 ∧ h.ps.length ≤ 128) (h1 : fitB h.users [] h.rest true = true) (h2 : fitB h.users h.rest h.named true = true) (h3 : fitsB h.users (h.rest ++ h.named) h.ps = true) (h4 : h.users ≤ (sumL (groups h) : Int)) : chkH h = 0 := by
  obtain ⟨a, b, c, d, e⟩ := h0
  refine chkH_yes ?_
  rw [← prog_valid]
  simp [progB, boundsB, a, b, c, d, e, h1, h2, h3, h4]
theorem fits_two {n : Int} {pre : LI} {ps : List LI} {i : Nat} {l0 l1 : LI} (h0 : ps[2 * i]? = some l0) (h1 : ps[2 * i + 1]? = some l1) :
    fitsB n pre (ps.drop (2 * i)) = (fitB n pre l0 false && (fitB n (pre ++ l0) l1 false && fitsB n ((pre ++ l0) ++ l1) (ps.drop (2 * (i + 1))))) := by
  rw [drop_at h0, drop_at h1, fitsB, fitsB]
  rfl
theorem sum_two {h : Hu} {i : Nat} {l0 l1 : LI} (f0 : h.ps[2 * i]? = some l0) (f1 : h.ps[2 * i + 1]? = some l1) : sumL ((groups h).take (2 + 2 * (i + 1))) = sumL ((groups h).take (2 + 2 * i)) + l0.length + l1.length := by
  have a := sumL_take (gs := groups h) (i := 2 + 2 * i) (l := l0) (by rw [show 2 + 2 * i = 2 * i + 2 by omega]; exact f0)
  have b := sumL_take (gs := groups h) (i := 2 + 2 * i + 1) (l := l1) (by rw [show 2 + 2 * i + 1 = 2 * i + 1 + 2 by omega]; exact f1)
  rw [show 2 + 2 * (i + 1) = 2 + 2 * i + 1 + 1 by omega, b, a]
end Go.Proofs.Ytoegpalacppllaa.Hn
namespace Go.Proofs.Ytoegpalacppllaa
open Go.RowKit Pl Tr Hn
/-- what reads as these numbers, with such a base and such blocks -/
def RdS (b : Base) (L : List Blk) (s : Sl) (l : List Int) : Prop := ∀ W, Cl b L W → RdI W s l
theorem RdS.of {b : Base} {L : List Blk} {s : Sl} {l : List Int} (h : RdI b.w s l) : RdS b L s l := fun _ hW => h.past hW.below
section
variable {P : Program} {ops : Array Oper} {Q : Exit → Act → World → Prop} {bs : List Value} {us : List (Nat × Value)} {ds : List Deferred} {w0 : Base} {W : World} {rest : List Oper} {o : Oper} {L : List Blk} {d : Nat} {r : Option (Option Nat)} {m : Nat}
theorem two_cells {w : World} {b i : Nat} {u v : Value} (h0 : w.cell? ⟨b, i + 0, none⟩ = some u) (h1 : w.cell? ⟨b, i + 1, none⟩ = some v) : ∀ j x, [u, v][j]? = some x → w.cell? ⟨b, i + j, none⟩ = some x := fun j x hx => by
  match j, hx with
  | 0, hx => injection hx with hx; rw [← hx]; exact h0
  | 1, hx => injection hx with hx; rw [← hx]; exact h1
  | j + 2, hx => simp at hx
/-- a load of cells that are known -/
theorem l_loadFs (hW : Cl w0 L W) {t : TypeId} {n : Nat} (ht : TyA P t n) {x : Operand} {g i : Nat} {vs : List Value} (hc : ∀ j v, vs[j]? = some v → w0.w.cell? ⟨g, i + j, none⟩ = some v) (hn : vs.length = n) (hg : Region.wanted o (yielded ops (fr bs us ds).tmps) = true) (ho : o.op = .load t x) (hx : ev bs us x = .pointer (some ⟨g, i, none⟩)) (hd : o.dst = some d)
    (h : LW r m P ops Q rest (fr bs ((d, .agg vs.toArray) :: us) ds) W) : LW r m P ops Q (o :: rest) (fr bs us ds) W := by
  refine l_runG hg ?_ hd h
  have hl : (loadCells ⟨g, i, none⟩ vs.length).run P W = .ok vs.toArray W :=
    run_loadCells_list (P := P) W ⟨g, i, none⟩ vs fun j v hv => by
      have hadd : (⟨g, i, none⟩ : Addr).add j = ⟨g, i + j, none⟩ := Addr.add_lit g i j
      rw [hadd]
      exact cell_past hW.below (hc j v hv)
  rw [hn] at hl
  unfold execOp
  simp [ho, hx, Instr.loadAt, Instr.sureAddr, loadVar, ht.agg W, ht.size W, hl]
theorem r_indexAddrSlZ {t e : Nat} {x y : Operand} {g len c : Nat} {k : IntKind} {z : Int} (ht : P.underlying t = some (.slice e)) (hz : ∀ w, (sizeOf e).run P w = .ok 1 w) (ho : o.op = .indexAddr t x y)
    (hx : ev bs us x = .slice (some ⟨g, 0, none⟩) len c) (hy : ev bs us y = .int k z) (h0 : 0 ≤ z) (h1 : z < (len : Int)) : Runs P bs us o (.pointer (some ⟨g, z.toNat, none⟩)) :=
  r_indexAddrSl1 (n := z.toNat) ht hz ho hx (by rw [hy, Int.toNat_of_nonneg h0]) (by omega)
end
end Go.Proofs.Ytoegpalacppllaa

/- The program's list of variants: one place for each user, written group after group. No function of the program is in sight here. -/
namespace Go.Proofs.Ytoegpalacppllaa.Hn
open Go.Proofs.Ytoegpalacppllaa

theorem chk_valid {h : Hu} (e : chkH h = 0) : Valid h := by
  rw [← valid_iff]
  cases hb : validB h with
  | true => rfl
  | false => rw [chkH_no hb] at e; cases e
theorem chk_not {h : Hu} (e : chkH h ≠ 0) : validB h = false := by
  cases hb : validB h with
  | false => rfl
  | true => exact absurd (chkH_yes hb) e
/-- one number for each user -/
def arr (f : Int → Int) (n : Nat) : List Value := (List.range n).map fun (u : Nat) => .int .i64 (f u)
theorem arr_len (f : Int → Int) (n : Nat) : (arr f n).length = n := by simp [arr]
theorem arr_zero (n : Nat) : List.replicate n (.int .i64 0) = arr (fun _ => 0) n := by simp [arr, List.map_const']
/-- the first k of a list have got this number -/
def put (l : LI) (v : Int) (f : Int → Int) (k : Nat) (u : Int) : Int := if (l.take k).contains u then v else f u
theorem put_zero (l : LI) (v : Int) (f : Int → Int) : put l v f 0 = f := by
  funext u
  simp [put]
theorem arr_put {l : LI} {v : Int} {f : Int → Int} {k n : Nat} (hk : k < l.length) (h0 : 0 ≤ at_ l k) (h1 : at_ l k < (n : Int)) : arr (put l v f (k + 1)) n = (arr (put l v f k) n).set (at_ l k).toNat (.int .i64 v) := by
  have ht : l.take (k + 1) = l.take k ++ [at_ l k] := take_snoc (pre := []) hk
  apply List.ext_getElem?
  intro i
  rw [List.getElem?_set]
  by_cases e : (at_ l k).toNat = i
  · subst e
    have h : (at_ l k).toNat < n := by omega
    simp [arr, h, put, ht, Int.toNat_of_nonneg h0]
  · simp only [e, if_false, arr, List.getElem?_map]
    rcases Nat.lt_or_ge i n with h | h
    · have hne : ¬ (i : Int) = at_ l k := by omega
      have : ((l.take (k + 1)).contains (i : Int)) = (l.take k).contains (i : Int) := by rw [ht]; simp [hne]
      rw [List.getElem?_range h]
      simp only [put, this, Option.map_some]
    · rw [List.getElem?_eq_none (by simpa using h)]
      rfl
theorem put_named {h : Hu} {k : Nat} (hk : h.named.length ≤ k) : put h.named (-1) (fun _ => 0) k = fun u => varP h u 0 := by
  funext u
  rw [put, List.take_of_length_le hk, varP]
theorem put_side {h : Hu} {j k : Nat} {l : LI} {v : Int} (hj : h.ps[j]? = some l) (hv : v = (j : Int) + 1) (hk : l.length ≤ k) : put l v (fun u => varP h u j) k = fun u => varP h u (j + 1) := by
  funext u
  have : h.ps.getD j [] = l := by rw [List.getD_eq_getElem?_getD, hj]; rfl
  rw [put, List.take_of_length_le hk, varP, this, hv]
theorem arr_vars {h : Hu} {un : Nat} (v : Valid h) (hun : h.users = (un : Int)) : arr (fun u => varP h u h.ps.length) un = il (variants h) := by
  have e : h.users.toNat = un := by omega
  rw [il, variants, rangeI, arr, e, List.map_map, List.map_map]
  exact List.map_congr_left fun u _ => congrArg (Value.int .i64) (v.varP_eq (u : Int))
end Go.Proofs.Ytoegpalacppllaa.Hn

/- Hunts in memory of one's own, whose row of pairs may be written. No function of the program is in sight here. -/
namespace Go.Proofs.Ytoegpalacppllaa
open Go.RowKit Pl Tr Hn

structure OwnHu (e : TypeId) (h : Hu) (p r q : Sl) (ss : List Sl) (Rb M : List Blk) : Prop where
  row : OwnSl e 2 p.a p.n p.c (ss.map Sl.v) Rb
  len : ss.length = h.ps.length
  ps : NewSs ss h.ps M
  rest : NewI r h.rest M
  named : NewI q h.named M
/-- a hunt in new memory, with a row of its own -/
def huY (e : TypeId) (h : Hu) (v : Value) (Bs : List Blk) : Prop := ∃ p r q ss Rb M, v = .agg (huC h p r q).toArray ∧ OwnHu e h p r q ss Rb M ∧ Bs = M ++ Rb
theorem NewSs.sub {ss : List Sl} {ps : List (List Int)} {N N' : List Blk} (h : NewSs ss ps N) (hs : List.Sublist N N') : NewSs ss ps N' := fun k s hk => by
  obtain ⟨l, h1, h2⟩ := h k s hk
  exact ⟨l, h1, h2.sub hs⟩
theorem OwnHu.newHu {e : TypeId} {h : Hu} {p r q : Sl} {ss : List Sl} {Rb M K : List Blk} (k : OwnHu e h p r q ss Rb M) (hM : List.Sublist M K) (hR : List.Sublist Rb K) : NewHu h p r q ss K := by
  have hn := k.row.1
  rw [List.length_map] at hn
  have hok : p.Ok := by
    refine ⟨?_, fun h => (k.row.nilOf h).2⟩
    rcases k.row.2 with ⟨_, h1, h2, _⟩ | ⟨g, cur, _, _, h1, _⟩
    · omega
    · exact h1
  refine ⟨fun b W hW => ⟨⟨hok, rfl, k.row.rdS (L := []) (hW.sub hR)⟩, by omega, k.len, fun i t l h1 h2 => ?_, k.rest.rep.at hW hM, k.named.rep.at hW hM⟩, k.rest.mem.sub fun x hx => hM.subset hx, k.named.mem.sub fun x hx => hM.subset hx, fun s hm => ?_⟩
  · obtain ⟨l', h3, h4⟩ := k.ps i t h1
    rw [h2] at h3
    injection h3 with h3
    subst h3
    exact h4.rep.at hW hM
  · obtain ⟨j, hj⟩ := List.getElem?_of_mem hm
    obtain ⟨l', _, h4⟩ := k.ps j s hj
    exact h4.mem.sub fun x hx => hM.subset hx
theorem two_set {α : Type} {cs : List α} {i : Nat} {x y : α} (h : i + 2 ≤ cs.length) : cs.take i ++ [x, y] ++ cs.drop (i + 2) = (cs.set i x).set (i + 1) y := by
  apply List.ext_getElem?
  intro j
  rw [List.getElem?_set, List.getElem?_set, List.length_set]
  by_cases h1 : j < i
  · rw [if_neg (by omega), if_neg (by omega), List.append_assoc, List.getElem?_append_left (by rw [List.length_take]; omega), List.getElem?_take, if_pos h1]
  · by_cases h2 : j < i + 2
    · rw [List.getElem?_append_left (by simp; omega), List.getElem?_append_right (by rw [List.length_take]; omega), List.length_take, Nat.min_eq_left (by omega)]
      have : j = i ∨ j = i + 1 := by omega
      rcases this with rfl | rfl
      · rw [if_neg (by omega), if_pos rfl, if_pos (by omega), Nat.sub_self]; rfl
      · rw [if_pos rfl, if_pos (by omega), show i + 1 - i = 1 by omega]; rfl
    · rw [if_neg (by omega), if_neg (by omega), List.getElem?_append_right (by simp; omega), List.getElem?_drop]
      congr 1
      simp
      omega
theorem OwnSl.two {e : TypeId} {g n c i : Nat} {cur : List Value} {ss : List Sl} {t0 t1 : Sl} (h : OwnSl e 2 (some ⟨g, 0, none⟩) n c (ss.map Sl.v) [⟨g, cur, e⟩]) (hi : i < n) :
    OwnSl e 2 (some ⟨g, 0, none⟩) n c (((ss.set (i * 2) t0).set (i * 2 + 1) t1).map Sl.v) [⟨g, cur.take (i * 2) ++ [t0.v, t1.v] ++ cur.drop (i * 2 + 2), e⟩] := by
  obtain ⟨h0, hr⟩ := h
  rcases hr with ⟨ha, _⟩ | ⟨g', cur', ha, hb, h3, h4, h5, h6⟩
  · cases ha
  · simp only [List.cons.injEq, Blk.mk.injEq, and_true] at hb
    obtain ⟨rfl, rfl⟩ := hb
    rw [two_set (by omega)]
    refine ⟨by simpa using h0, .inr ⟨g, _, rfl, rfl, h3, h4, by simpa using h5, ?_⟩⟩
    rw [List.take_set, List.take_set, h6, List.map_set, List.map_set]
theorem NewSs.two_set {ss : List Sl} {ps : List (List Int)} {M : List Blk} {i : Nat} {t0 t1 : Sl} {l0 l1 : List Int} (h : NewSs ss ps M) (hl : ss.length = ps.length) (n0 : NewI t0 l0 M) (n1 : NewI t1 l1 M) : NewSs ((ss.set i t0).set (i + 1) t1) ((ps.set i l0).set (i + 1) l1) M := fun k s hk => by
  rw [List.getElem?_set, List.getElem?_set, List.length_set] at hk
  rw [List.getElem?_set, List.getElem?_set, List.length_set, ← hl]
  by_cases h1 : i + 1 = k
  · rw [if_pos h1] at hk ⊢
    split at hk
    · rename_i hlt
      rw [if_pos hlt]
      injection hk with hk
      exact ⟨l1, rfl, hk ▸ n1⟩
    · cases hk
  · rw [if_neg h1] at hk ⊢
    by_cases h2 : i = k
    · rw [if_pos h2] at hk ⊢
      split at hk
      · rename_i hlt
        rw [if_pos hlt]
        injection hk with hk
        exact ⟨l0, rfl, hk ▸ n0⟩
      · cases hk
    · rw [if_neg h2] at hk ⊢
      exact h k s hk
/-- a pair of the row -/
theorem OwnSl.pair {e : TypeId} {g n c i : Nat} {cur : List Value} {ss : List Sl} (h : OwnSl e 2 (some ⟨g, 0, none⟩) n c (ss.map Sl.v) [⟨g, cur, e⟩]) (hi : i < n) :
    ∃ s0 s1, ss[2 * i]? = some s0 ∧ ss[2 * i + 1]? = some s1 ∧ (cur.drop (i * 2)).take 2 = [s0.v, s1.v] ∧ i * 2 + 2 ≤ cur.length := by
  obtain ⟨h0, hr⟩ := h
  rcases hr with ⟨ha, _⟩ | ⟨g', cur', ha, hb, h3, h4, h5, h6⟩
  · cases ha
  · simp only [List.cons.injEq, Blk.mk.injEq, and_true] at hb
    obtain ⟨rfl, rfl⟩ := hb
    rw [List.length_map] at h0
    obtain ⟨s0, s1, e0, e1, _⟩ := getElem_two (l := ss) (i := 2 * i) (by omega)
    refine ⟨s0, s1, e0, e1, ?_, by omega⟩
    have g0 : cur[i * 2]? = some s0.v := take_get h6 (by rw [List.getElem?_map, show i * 2 = 2 * i by omega, e0]; rfl)
    have g1 : cur[i * 2 + 1]? = some s1.v := take_get h6 (by rw [List.getElem?_map, show i * 2 = 2 * i by omega, e1]; rfl)
    obtain ⟨hl0, g0⟩ := List.getElem?_eq_some_iff.1 g0
    obtain ⟨hl1, g1⟩ := List.getElem?_eq_some_iff.1 g1
    rw [List.drop_eq_getElem_cons hl0, List.drop_eq_getElem_cons hl1, g0, g1]
    rfl
theorem OwnSl.pair2 {e : TypeId} {g n c i : Nat} {cur : List Value} {ss : List Sl} (h : OwnSl e 2 (some ⟨g, 0, none⟩) n c (ss.map Sl.v) [⟨g, cur, e⟩]) (hi : i < n) :
    ∃ s0 s1, ss[2 * i]? = some s0 ∧ ss[2 * i + 1]? = some s1 ∧ cur[0 + i * 2 + 0]? = some s0.v ∧ cur[0 + i * 2 + 1]? = some s1.v := by
  obtain ⟨s0, s1, e0, e1, ht, _⟩ := h.pair hi
  refine ⟨s0, s1, e0, e1, ?_, ?_⟩
  · have := congrArg (fun l => l[0]?) ht
    simp only [List.getElem?_take, List.getElem?_drop] at this
    rw [show 0 + i * 2 + 0 = i * 2 + 0 by omega]
    exact this
  · have := congrArg (fun l => l[1]?) ht
    simp only [List.getElem?_take, List.getElem?_drop] at this
    rw [show 0 + i * 2 + 1 = i * 2 + 1 by omega]
    exact this
/-- all pairs but one, of the first k -/
def sk {α : Type} (ss : List α) (i k : Nat) : List α := ss.take (2 * min k i) ++ (ss.take (2 * k)).drop (2 * i + 2)
theorem sk_zero {α : Type} (ss : List α) (i : Nat) : sk ss i 0 = [] := by simp [sk]
theorem sk_skip {α : Type} (ss : List α) (i : Nat) : sk ss i (i + 1) = sk ss i i := by
  unfold sk
  rw [Nat.min_self, Nat.min_eq_right (by omega), List.drop_eq_nil_iff.2 (by simp; omega), List.drop_eq_nil_iff.2 (by simp; omega)]
theorem sk_add {α : Type} {ss : List α} {i k : Nat} {s0 s1 : α} (hk : k ≠ i) (e0 : ss[2 * k]? = some s0) (e1 : ss[2 * k + 1]? = some s1) : sk ss i (k + 1) = sk ss i k ++ [s0, s1] := by
  have hlt := (List.getElem?_eq_some_iff.1 e1).1
  have ht : ss.take (2 * (k + 1)) = ss.take (2 * k) ++ [s0, s1] := by
    obtain ⟨x, y, h0, h1, ht⟩ := getElem_two (l := ss) (i := 2 * k) (by omega)
    rw [e0] at h0
    rw [e1] at h1
    injection h0 with h0
    injection h1 with h1
    rw [show 2 * (k + 1) = 2 * k + 2 by omega, ht, h0, h1]
  unfold sk
  rcases Nat.lt_or_gt_of_ne hk with h | h
  · rw [Nat.min_eq_left (by omega), Nat.min_eq_left (by omega), ht, List.drop_eq_nil_iff.2 (by simp; omega), List.drop_eq_nil_iff.2 (by simp; omega), List.append_nil, List.append_nil]
  · rw [Nat.min_eq_right (by omega), Nat.min_eq_right (by omega), ht, List.drop_append_of_le_length (by simp; omega), List.append_assoc]
theorem sk_all {α : Type} {ss : List α} {i k : Nat} (hi : i ≤ k) (hk : ss.length ≤ 2 * k) : sk ss i k = ss.take (2 * i) ++ ss.drop (2 * i + 2) := by
  rw [sk, Nat.min_eq_right hi, List.take_of_length_le (l := ss) (i := 2 * k) hk]
theorem NewSs.cut {ss : List Sl} {ps : List (List Int)} {M : List Blk} {i : Nat} (h : NewSs ss ps M) (hl : ss.length = ps.length) (hi : 2 * i + 2 ≤ ss.length) : NewSs (ss.take (2 * i) ++ ss.drop (2 * i + 2)) (ps.take (2 * i) ++ ps.drop (2 * i + 2)) M := fun k s hk => by
  rcases Nat.lt_or_ge k (2 * i) with h1 | h1
  · rw [List.getElem?_append_left (by rw [List.length_take]; omega), List.getElem?_take, if_pos h1] at hk
    rw [List.getElem?_append_left (by rw [List.length_take]; omega), List.getElem?_take, if_pos h1]
    exact h k s hk
  · rw [List.getElem?_append_right (by rw [List.length_take]; omega), List.length_take, Nat.min_eq_left (by omega), List.getElem?_drop] at hk
    rw [List.getElem?_append_right (by rw [List.length_take]; omega), List.length_take, Nat.min_eq_left (by omega), List.getElem?_drop]
    exact h _ s hk
theorem Sim.pre {L L2 : List Blk} (h : Sim [] L L2) : List.Sublist L L2 := by
  have : L = L2.take L.length := by
    apply List.ext_getElem?
    intro i
    rw [List.getElem?_take]
    split
    · rename_i hi
      rw [h i L[i] (by simp) (List.getElem?_eq_getElem hi), List.getElem?_eq_getElem hi]
    · rw [List.getElem?_eq_none (by omega)]
  rw [this]
  exact List.take_sublist _ _
theorem perm6 {α : Type} {N X M R : List α} : (N ++ (X ++ (M ++ R))).Perm ((X ++ (M ++ N)) ++ R) := by
  refine (List.perm_append_comm_assoc N X _).trans ?_
  rw [List.append_assoc X, List.append_assoc M]
  exact (List.perm_append_comm_assoc N M R).append_left X
theorem NewSs.add {ss : List Sl} {ps : List (List Int)} {M K : List Blk} {t0 t1 : Sl} {l0 l1 : List Int} (h : NewSs ss ps M) (hl : ss.length = ps.length) (hs : List.Sublist M K) (n0 : NewI t0 l0 K) (n1 : NewI t1 l1 K) : NewSs (ss ++ [t0, t1]) (ps ++ [l0, l1]) K := fun k s hk => by
  rcases Nat.lt_or_ge k ss.length with hlt | hge
  · rw [List.getElem?_append_left hlt] at hk
    rw [List.getElem?_append_left (by omega)]
    obtain ⟨l, h1, h2⟩ := h k s hk
    exact ⟨l, h1, h2.sub hs⟩
  · rw [List.getElem?_append_right hge] at hk
    rw [List.getElem?_append_right (by omega), ← hl]
    have hk2 := (List.getElem?_eq_some_iff.1 hk).1
    simp only [List.length_cons, List.length_nil] at hk2
    have : k - ss.length = 0 ∨ k - ss.length = 1 := by omega
    rcases this with e | e
    · rw [e] at hk ⊢
      injection hk with hk
      exact ⟨l0, rfl, hk ▸ n0⟩
    · rw [e] at hk ⊢
      injection hk with hk
      exact ⟨l1, rfl, hk ▸ n1⟩
theorem permN {α : Type} {N B M : List α} : ((N ++ B) ++ M).Perm ((N ++ M) ++ B) := by
  rw [List.append_assoc, List.append_assoc]
  exact List.perm_append_comm.append_left N
theorem perm5 {α : Type} {R L N : List α} : ((R ++ L) ++ N).Perm ((N ++ R) ++ L) := List.perm_append_comm.trans (by rw [List.append_assoc])
end Go.Proofs.Ytoegpalacppllaa
namespace Go.Proofs.Ytoegpalacppllaa.Hn
/-- the reference's own step: a pair of which this side is heard -/
def heardAt (h : Hu) (i : Nat) (l m : LI) : Hu :=
  { users := h.users, rounds := h.rounds, rest := merged h.rest m, named := if 1 < l.length then h.named else merged h.named l
    ps := if 1 < l.length then (h.ps.set (i * 2) (l.take (halfN l))).set (i * 2 + 1) (l.drop (halfN l)) else h.ps.take (2 * i) ++ h.ps.drop (2 * i + 2) }
/-- one more round -/
abbrev oneUp (h : Hu) : Hu := { users := h.users, ps := h.ps, rest := h.rest, named := h.named, rounds := h.rounds + 1 }
theorem heard_at {h : Hu} {x i : Nat} {l0 l1 : LI} (hx : x ≠ 0) (hi : (x - 1) / 2 = i) (f0 : h.ps[2 * i]? = some l0) (f1 : h.ps[2 * i + 1]? = some l1) (n0 : l0 ≠ []) (n1 : l1 ≠ []) :
    heard h x = heardAt (oneUp h) i (if x % 2 = 1 then l0 else l1) (if x % 2 = 1 then l1 else l0) := by
  have p := part_of (ps := h.ps) (i := i) (List.getElem?_eq_some_iff.1 f1).1
  have g0 := p.g0
  have g1 := p.g1
  rw [f0] at g0
  rw [f1] at g1
  injection g0 with g0
  injection g1 with g1
  subst g0
  subst g1
  have h0 := List.length_pos_iff.2 n0
  have h1 := List.length_pos_iff.2 n1
  rw [heard_pair hx hi p]
  unfold heardAt
  simp only
  rw [show i * 2 = 2 * i by omega, p.set, p.take, p.drop]
  by_cases ho : x % 2 = 1
  · simp only [ho, if_true]
    by_cases hl : p.l.length = 1
    · simp only [hl, if_true, Nat.lt_irrefl, if_false]
    · simp only [hl, show 1 < p.l.length by omega, if_true, if_false]
  · simp only [ho, if_false]
    by_cases hl : p.r.length = 1
    · simp only [hl, if_true, Nat.lt_irrefl, if_false]
    · simp only [hl, show 1 < p.r.length by omega, if_true, if_false]
theorem hear_8 {h : Hu} {x : Int} (hv : validB h = false) : hear h x = (noHunt, 8) := by rw [hear, if_pos hv]
theorem hear_80 {h : Hu} {x : Int} (hv : validB h = true) (hx : x < 0 ∨ (h.ps.length : Int) < x ∨ (x = 0 ∧ h.rest.length = 0)) : hear h x = (noHunt, 80) := by
  rw [hear, if_neg (by rw [hv]; decide), if_pos]
  rcases hx with hx | hx | hx
  · exact .inl hx
  · exact .inr (.inl hx)
  · exact .inr (.inr ⟨hx.1, List.eq_nil_of_length_eq_zero hx.2⟩)
theorem hear_9 {h : Hu} {x : Int} (hv : validB h = true) (hx : ¬ (x < 0 ∨ (h.ps.length : Int) < x ∨ (x = 0 ∧ h.rest.length = 0))) (hr : h.rounds = 100000) : hear h x = (noHunt, 9) := by
  rw [hear, if_neg (by rw [hv]; decide), if_neg (fun hh => hx (hh.imp id (Or.imp id (fun ⟨a, b⟩ => ⟨a, by rw [b]; rfl⟩)))), if_pos hr]
theorem hear_0 {h : Hu} {n : Nat} (hv : validB h = true) (hx : ¬ (h.ps.length < n ∨ (n = 0 ∧ h.rest.length = 0))) (hr : h.rounds ≠ 100000) : hear h (n : Int) = (heard h n, 0) := by
  rw [hear, if_neg (by rw [hv]; decide), if_neg (fun hh => ?_), if_neg hr]
  · rfl
  · rcases hh with hh | hh | ⟨h1, h2⟩
    · omega
    · omega
    · exact hx (.inr ⟨by omega, by rw [h2]; rfl⟩)
end Go.Proofs.Ytoegpalacppllaa.Hn

/- Twins of hunts. -/
namespace Go.Proofs.Ytoegpalacppllaa
open Go.RowKit Pl
open Tr Hn
set_option maxRecDepth 10000 in
/-- headend/headendref08.TwinHunt -/
theorem g_TwinHunt (h : Hu) (pa : Option Addr) (pn pc : Nat) (r q : Sl) (ss : List Sl) (hsm : Small h) (hfit : pn * 48 ≤ 140737488351232) : GivesX Try.prog 18 [.agg [.int .i64 h.users, .slice pa pn pc, .slice r.a r.n r.c, .slice q.a q.n q.c, .int .i64 h.rounds].toArray].toArray (fun w => RdHu w h ⟨pa, pn, pc⟩ r q ss) (huY 99 h) := by
  refine givesX_of Try.func18 rfl (bs := [.agg [.int .i64 h.users, .slice pa pn pc, .slice r.a r.n r.c, .slice q.a q.n q.c, .int .i64 h.rounds].toArray, undef, undef, undef, undef, undef, undef, undef, undef, undef, undef, undef, undef, undef, undef, undef, undef, undef, undef, undef, undef, undef, undef, undef, undef, undef, undef, undef, undef, undef, undef, undef, undef, undef, undef, undef, undef, undef, undef, undef, undef, undef, undef, undef, undef, undef]) rfl ?_
  intro w hP hW
  have hpn := hP.pn
  have hpl := hP.len
  simp only at hpn
  have hgl := hP.gl
  have hgs := hsm.sum
  have hone := hsm.one
  refine c_seq ?_
  refine c_reg ?_
  refine l_box hW rfl rfl rfl rfl ?_
  intro g1 W hW
  refine l_alloc hW tyZ52 rfl rfl rfl ?_
  intro g2 W hW
  refine l_end ?_
  refine n_then ?_
  refine c_seq ?_
  refine c_reg ?_
  refine l_val (r_assign (v := .slice _ _ _) rfl rfl) rfl rfl ?_
  refine l_end ?_
  refine n_then ?_
  refine c_seq ?_
  refine c_seq ?_
  refine c_reg ?_
  refine l_val (r_assign (v := .int _ _) rfl rfl) rfl rfl ?_
  refine l_end ?_
  refine n_then ?_
  refine c_block ?_
  refine c_loop (fun (x : Nat × Option Addr × Nat × List Blk × List Blk × List Sl) (j : Nat → Value) => [.agg [.int .i64 h.users, .slice pa pn pc, .slice r.a r.n r.c, .slice q.a q.n q.c, .int .i64 h.rounds].toArray, .pointer (some ⟨g1, 0, none⟩), .pointer (some ⟨g2, 0, none⟩), .slice x.2.1 x.1 x.2.2.1, .int .i64 (x.1 : Int), j 5, j 6, j 7, j 8, j 9, j 10, j 11, j 12, j 13, j 14, j 15, j 16, j 17, j 18, j 19, j 20, j 21, j 22, j 23, j 24, j 25, j 26, j 27, j 28, j 29, j 30, j 31, j 32, j 33, j 34, j 35, j 36, j 37, j 38, j 39, j 40, j 41, j 42, j 43, j 44, j 45]) (fun (x : Nat × Option Addr × Nat × List Blk × List Blk × List Sl) => [⟨g2, z52, 52⟩, ⟨g1, [.int .i64 h.users, .slice pa pn pc, .slice r.a r.n r.c, .slice q.a q.n q.c, .int .i64 h.rounds], 52⟩] ++ (x.2.2.2.2.1 ++ x.2.2.2.1)) (fun (x : Nat × Option Addr × Nat × List Blk × List Blk × List Sl) => x.1 ≤ pn ∧ OwnSl 99 2 x.2.1 x.1 x.2.2.1 (x.2.2.2.2.2.map Sl.v) x.2.2.2.1 ∧ x.2.2.2.2.2.length = 2 * x.1 ∧ NewSs x.2.2.2.2.2 h.ps x.2.2.2.2.1) (fun (x : Nat × Option Addr × Nat × List Blk × List Blk × List Sl) => pn - x.1) (0, none, 0, [], [], []) (by kernel_rfl) hW ⟨Nat.zero_le _, OwnSl.nil 99 2, rfl, NewSs.nil _ _⟩ ?_
  intro x j W hx hW
  obtain ⟨hx, hO, hl, hN⟩ := hx
  refine c_seq ?_
  refine c_seq ?_
  refine c_reg ?_
  refine l_val (r_move (v := .int _ _) rfl rfl) rfl rfl ?_
  refine l_val (r_fieldAddr 1 Try.underlying52 rfl tyC50.size rfl rfl rfl) rfl rfl ?_
  refine l_loadC hW 1 tyC50 rfl rfl rfl rfl rfl rfl ?_
  refine l_val (r_lenSlice Try.underlying50 rfl rfl) rfl rfl ?_
  refine l_val (r_lssN rfl rfl rfl rfl) rfl rfl ?_
  refine l_split ?_ ?_
  · intro hc1
    replace hc1 := of_decide_eq_true hc1
    have hlt : x.1 < pn := by omega
    obtain ⟨b0, o0, rfl⟩ := hP.ptr (by omega)
    obtain ⟨s0, s1, l0, l1, e0, e1, f0, f1, c0, c1, hr0, hr1⟩ := hP.side2 hlt
    have hl0 := hsm.one l0 (by simp [groups, List.mem_of_getElem? f0])
    have hl1 := hsm.one l1 (by simp [groups, List.mem_of_getElem? f1])
    refine l_end ?_
    refine n_then ?_
    refine c_true rfl ?_
    refine c_skip ?_
    refine n_then ?_
    refine c_seq ?_
    refine c_block ?_
    refine c_regZ hW [] [.q, .mk 0, .q, .q, .q, .q, .q, .q, .mkd 1 0, .mk 2, .q, .q, .q, .q, .q, .q, .mkd 3 2, .tail, .tail, .tail, .tail] [⟨13, bslX 3 0⟩, ⟨20, twX (l0)⟩, ⟨21, bslX 3 0⟩, ⟨28, twX (l1)⟩] [[], [], [], []] [1, 8, 9, 16] [0, 0, 0, 4, 0, 28, 60, 124, 254, 0, 0, 1024, 0, 7168, 15360, 31744, 65534, 131070, 262142, 524287, 1048575] [] [.q, .q, .q, .q, .q, .q, .q, .q, .q, .q, .q, .q, .q, .q, .q, .q, .q, .q, .mk 0, .tail, .tail] [30] [18] [1, 2, 3, 4, 5, 6, 7, 8, 9, 10, 11, 12, 13, 14, 15, 16] [17, 18, 19, 20] 0 (by kernel_rfl) (by kernel_rfl) rfl (by kernel_rfl) (by kernel_rfl) rfl (fun _ w _ _ => (r_move (v := .slice _ _ _) rfl rfl) w) ?_
    refine y_buildSliceF 0 bsl35_0_ rfl rfl rfl rfl ?_
    refine y_val (r_fieldAddr 1 Try.underlying52 rfl tyC50.size rfl rfl rfl) rfl rfl ?_
    refine y_loadC 1 tyC50 rfl rfl rfl rfl rfl rfl (by decide) ?_
    refine y_val (r_move (v := .int _ _) rfl rfl) rfl rfl ?_
    refine y_val (r_indexAddrSl Try.underlying50 tyA99.size rfl rfl rfl (by omega)) rfl rfl ?_
    refine y_val (r_fieldAddr _ Try.underlying99 rfl tyC35.size rfl rfl rfl) rfl rfl ?_
    refine y_loadF tyC35 (v := s0.v) (c0) (by kernel_rfl) rfl rfl rfl ?_
    refine y_twin 1 0 tyE35 (s := s0) rfl rfl rfl rfl (fun L2 w hs hC => hr0.past hC.below) (by omega) (by omega) rfl (fun _ => rfl) (fun _ => rfl) ?_
    refine y_buildSliceF 2 bsl35_0_ rfl rfl rfl rfl ?_
    refine y_val (r_fieldAddr 1 Try.underlying52 rfl tyC50.size rfl rfl rfl) rfl rfl ?_
    refine y_loadC 1 tyC50 rfl rfl rfl rfl rfl rfl (by decide) ?_
    refine y_val (r_move (v := .int _ _) rfl rfl) rfl rfl ?_
    refine y_val (r_indexAddrSl Try.underlying50 tyA99.size rfl rfl rfl (by omega)) rfl rfl ?_
    refine y_val (r_fieldAddr _ Try.underlying99 rfl tyC35.size rfl rfl rfl) rfl rfl ?_
    refine y_loadF tyC35 (v := s1.v) (c1) (by kernel_rfl) rfl rfl rfl ?_
    refine y_twin 3 2 tyE35 (s := s1) rfl rfl rfl rfl (fun L2 w hs hC => hr1.past hC.below) (by omega) (by omega) rfl (fun _ => rfl) (fun _ => rfl) ?_
    refine y_tail ?_
    refine y_made ?_
    rintro _ _ ⟨ge, rfl, rfl⟩
    refine y_made ?_
    rintro _ Bs1 ⟨t0, rfl, hs0⟩
    refine y_made ?_
    rintro _ _ ⟨gf, rfl, rfl⟩
    refine y_made ?_
    rintro _ Bs3 ⟨t1, rfl, hs1⟩
    refine ⟨[⟨30, bslX 99 1⟩], [[t0.v, t1.v]], ⟨rfl, rfl⟩, ?_⟩
    refine y_val (r_move (v := .slice _ _ _) rfl rfl) rfl rfl ?_
    refine y_val (r_build (ps := [(0, .slice _ _ _), (1, .slice _ _ _)]) (bld99_0_1 _ _ _ _ _ _) rfl rfl) rfl rfl ?_
    refine y_buildSliceF 0 (bsl50_1_0 _ _ _ _ _ _) rfl rfl rfl rfl ?_
    refine y_tail ?_
    refine y_made ?_
    rintro _ _ ⟨gb, rfl, rfl⟩
    intro W hW
    replace hW := hW.perm (permG (A := Bs3) (B := [(⟨gf, [], 3⟩ : Blk)]) (C := Bs1) (D := [(⟨ge, [], 3⟩ : Blk)]) (N := x.2.2.2.2.1) (X := x.2.2.2.1))
    refine l_appendB tyE50 hO hW 0 (N := x.1 + 1) rfl rfl rfl rfl rfl rfl rfl rfl (by simp [Value.oneCell']) (by unfold maxLen; omega) (by omega) ?_
    intro a1 c1 Bs5 W hO1 hW
    replace hO1 := hO1.castx rfl (xs' := (x.2.2.2.2.2 ++ [t0, t1]).map Sl.v) (by simp)
    refine l_val (r_assign (v := .slice _ _ _) rfl rfl) rfl rfl ?_
    refine l_end ?_
    refine n_block ?_
    refine n_then ?_
    refine c_reg ?_
    refine l_val (r_move (v := .int _ _) rfl rfl) rfl rfl ?_
    refine l_val (r_addN (n := 1) rfl rfl rfl (by omega)) rfl rfl ?_
    refine l_val (r_assign (v := .int _ _) rfl rfl) rfl rfl ?_
    refine l_end ?_
    refine n_then ?_
    exact loop_next (x.1 + 1, a1, c1, Bs5, x.2.2.2.2.1 ++ (Bs3 ++ ([(⟨gf, [], 3⟩ : Blk)] ++ (Bs1 ++ [(⟨ge, [], 3⟩ : Blk)]))), x.2.2.2.2.2 ++ [t0, t1]) (by kernel_rfl) (hW.drop 1) ⟨by simp only; omega, hO1, by simp only [List.length_append, hl]; simp only [List.length_cons, List.length_nil]; omega, hN.two hl f0 f1 (hs0.sub sub4c) (hs1.sub sub4a)⟩ (by simp only; omega)
  · intro hc1
    replace hc1 := of_decide_eq_false hc1
    have e : x.1 = pn := by omega
    refine l_end ?_
    refine n_then ?_
    refine c_false rfl ?_
    refine c_exit ?_
    refine x_then ?_
    refine x_then ?_
    refine x_hit ?_
    refine n_then ?_
    refine c_seq ?_
    refine c_regM hW [] [.q, .q, .q, .mk 0, .q, .q, .mkd 1 0, .mk 2, .q, .q, .mkd 3 2, .q, .q, .tail, .tail] [⟨35, bslX 3 0⟩, ⟨38, twX (h.rest)⟩, ⟨39, bslX 3 0⟩, ⟨42, twX (h.named)⟩] [[], [], [], []] [3, 6, 7, 10] [0, 1, 0, 0, 0, 16, 56, 0, 0, 256, 1016, 0, 2048, 8191, 16383] (by kernel_rfl) (by kernel_rfl) rfl (by kernel_rfl) ?_
    refine y_val (r_fieldAddr 0 Try.underlying52 rfl tyC3.size rfl rfl rfl) rfl rfl ?_
    refine y_loadC 1 tyC3 rfl rfl rfl rfl rfl rfl (by decide) ?_
    refine y_val (r_move (v := .slice _ _ _) rfl rfl) rfl rfl ?_
    refine y_buildSliceF 0 bsl35_0_ rfl rfl rfl rfl ?_
    refine y_val (r_fieldAddr 2 Try.underlying52 rfl tyC35.size rfl rfl rfl) rfl rfl ?_
    refine y_loadC 1 tyC35 rfl rfl rfl rfl rfl rfl (by decide) ?_
    refine y_twin 1 0 tyE35 (s := r) rfl rfl rfl rfl (fun L2 w hs hC => hP.rest.past hC.below) (by have := hone h.rest (by simp [groups]); omega) (by have := hone h.rest (by simp [groups]); omega) rfl (fun _ => rfl) (fun _ => rfl) ?_
    refine y_buildSliceF 2 bsl35_0_ rfl rfl rfl rfl ?_
    refine y_val (r_fieldAddr 3 Try.underlying52 rfl tyC35.size rfl rfl rfl) rfl rfl ?_
    refine y_loadC 1 tyC35 rfl rfl rfl rfl rfl rfl (by decide) ?_
    refine y_twin 3 2 tyE35 (s := q) rfl rfl rfl rfl (fun L2 w hs hC => hP.named.past hC.below) (by have := hone h.named (by simp [groups]); omega) (by have := hone h.named (by simp [groups]); omega) rfl (fun _ => rfl) (fun _ => rfl) ?_
    refine y_val (r_fieldAddr 4 Try.underlying52 rfl tyC3.size rfl rfl rfl) rfl rfl ?_
    refine y_loadC 1 tyC3 rfl rfl rfl rfl rfl rfl (by decide) ?_
    refine y_tail ?_
    refine y_made ?_
    rintro _ _ ⟨ge, rfl, rfl⟩
    refine y_made ?_
    rintro _ Bs1 ⟨t0, rfl, hs0⟩
    refine y_made ?_
    rintro _ _ ⟨gf, rfl, rfl⟩
    refine y_made ?_
    rintro _ Bs3 ⟨t1, rfl, hs1⟩
    intro W hW
    replace hW := hW.perm (perm4 (A := Bs3) (B := [(⟨gf, [], 3⟩ : Blk)]) (C := Bs1) (D := [(⟨ge, [], 3⟩ : Blk)]))
    refine l_val (r_build (ps := [(0, .int _ _), (1, .slice _ _ _), (2, .slice _ _ _), (3, .slice _ _ _), (4, .int _ _)]) (bld52_0_1_2_3_4 _ _ _ _ _ _ _ _ _ _ _) rfl rfl) rfl rfl ?_
    refine l_storeA hW 0 tyA52 rfl rfl rfl rfl rfl rfl (by first | rfl | exact kc_len _ | exact kcf_len _ | (simp; done)) (by first | rfl | exact kc_len _ | exact kcf_len _ | (simp; done)) (by first | exact kc_one _ | exact kcf_one _ | (simp [Value.oneCell']; done)) ?_
    intro W hW
    refine l_end ?_
    refine n_then ?_
    refine c_ret ?_
    refine ret_cell hW 0 tyA52 rfl rfl rfl (by first | rfl | exact kc_len _ | exact kcf_len _ | (simp; done)) ?_
    have hD := (hW.drop 2).perm (permN (N := x.2.2.2.2.1) (B := x.2.2.2.1) (M := Bs3 ++ ([(⟨gf, [], 3⟩ : Blk)] ++ (Bs1 ++ [(⟨ge, [], 3⟩ : Blk)]))))
    exact ⟨_, _, rfl, ⟨⟨x.2.1, x.1, x.2.2.1⟩, t0, t1, x.2.2.2.2.2, x.2.2.2.1, _, rfl, ⟨hO, by have := hO.1; have := hP.pn; have := hP.len; simp only [List.length_map] at *; omega, NewSs.sub hN (List.sublist_append_left _ _), (hs0.sub sub4c).sub (List.sublist_append_right _ _), (hs1.sub sub4a).sub (List.sublist_append_right _ _)⟩, rfl⟩, hD⟩

end Go.Proofs.Ytoegpalacppllaa

/- Lists, by the library. -/
namespace Go.Proofs.Ytoegpalacppllaa
open Go.RowKit Pl
open Tr Hn
set_option maxRecDepth 10000 in
/-- slices.Clone[[]int,int] -/
theorem g_Clone (aa : Option Addr) (an ac : Nat) (l : List Int) (hl : l.length ≤ 4294967296) : GivesX Try.prog 39 [.slice aa an ac].toArray (fun w => RdI w ⟨aa, an, ac⟩ l) (fun v Bs => ∃ s : Sl, v = s.v ∧ NewI s l Bs) := by
  refine givesX_of Try.func39 rfl (bs := [.slice aa an ac, undef, undef, undef, undef, undef, undef, undef]) rfl ?_
  intro w hP hW
  have hn : an = l.length := hP.len
  refine c_seq ?_
  refine c_reg ?_
  refine l_val (r_assign (v := .slice _ _ _) rfl rfl) rfl rfl ?_
  refine l_end ?_
  refine n_then ?_
  refine c_seq ?_
  refine c_seq ?_
  refine c_reg ?_
  refine l_val (r_move (v := .slice _ _ _) rfl rfl) rfl rfl ?_
  refine l_val (r_eqlNil Try.underlying35 rfl rfl rfl rfl) rfl rfl ?_
  refine l_split ?_ ?_
  · intro hc1
    replace hc1 := of_decide_eq_true hc1
    refine l_end ?_
    refine n_then ?_
    refine c_true rfl ?_
    refine c_seq ?_
    refine c_reg ?_
    refine l_val (r_assign (v := .slice _ _ _) rfl rfl) rfl rfl ?_
    refine l_end ?_
    refine n_then ?_
    refine c_ret ?_
    refine r_then ?_
    refine ret_tmp (v := .slice _ _ _) rfl rfl ?_
    exact ⟨_, [], rfl, ⟨Sl.no, rfl, by rw [show l = [] from List.eq_nil_of_length_eq_zero (by have := hP.ok.nil0 hc1; simp only at this; omega)]; exact NewI.no⟩, hW.sub (List.nil_sublist _)⟩
  · intro hc1
    replace hc1 := of_decide_eq_false hc1
    refine l_end ?_
    refine n_then ?_
    refine c_false rfl ?_
    refine c_skip ?_
    refine n_then ?_
    refine c_seq ?_
    refine c_reg ?_
    refine l_buildSliceF hW bsl35_0_ rfl rfl rfl rfl ?_
    intro ge W hW
    refine l_val (r_move (v := .slice _ _ _) rfl rfl) rfl rfl ?_
    refine l_twin tyE35 hW (s := ⟨aa, an, ac⟩) (RdI.past hP hW.below) (by omega) hl rfl rfl rfl rfl rfl ?_
    intro s2 Bs W hs hW
    refine l_val (r_assign (v := .slice _ _ _) rfl rfl) rfl rfl ?_
    refine l_end ?_
    refine n_then ?_
    refine c_ret ?_
    refine ret_tmp (v := .slice _ _ _) rfl rfl ?_
    exact ⟨_, _, rfl, ⟨s2, rfl, hs⟩, hW.sub (List.sublist_append_right _ _)⟩

set_option maxRecDepth 10000 in
/-- slices.Index[[]int,int] -/
theorem g_Index (aa : Option Addr) (an ac : Nat) (l : List Int) (x : Int) (hl : l.length ≤ 4294967296) : GivesR Try.prog 80 [.slice aa an ac, .int .i64 x].toArray (fun w => RdI w ⟨aa, an, ac⟩ l) (.int .i64 (idxI l x)) := by
  refine givesR_of Try.func80 rfl (bs := [.slice aa an ac, .int .i64 x, undef, undef, undef, undef, undef, undef, undef, undef, undef, undef, undef, undef, undef, undef, undef, undef, undef]) rfl ?_
  intro w hP hW
  have hn : an = l.length := hP.len
  refine c_seq ?_
  refine c_reg ?_
  refine l_val (r_assign (v := .int _ _) rfl rfl) rfl rfl ?_
  refine l_end ?_
  refine n_then ?_
  refine c_seq ?_
  refine c_seq ?_
  refine c_reg ?_
  refine l_val (r_move (v := .slice _ _ _) rfl rfl) rfl rfl ?_
  refine l_val (r_lenSlice Try.underlying35 rfl rfl) rfl rfl ?_
  refine l_val (r_move (v := .int _ _) rfl rfl) rfl rfl ?_
  refine l_end ?_
  refine n_then ?_
  refine c_block ?_
  refine c_loop (fun (i : Nat) (j : Nat → Value) => [.slice aa an ac, .int .i64 x, j 2, j 3, j 4, j 5, .slice aa an ac, .int .i64 (an : Int), .int .i64 (i : Int), j 9, j 10, j 11, j 12, j 13, j 14, j 15, j 16, j 17, j 18]) (fun (i : Nat) => []) (fun (i : Nat) => i ≤ an ∧ ∀ k, k < i → at_ l k ≠ x) (fun (i : Nat) => an - i) 0 (by kernel_rfl) hW ⟨by omega, all_zero⟩ ?_
  intro i j W hx hW
  refine c_seq ?_
  refine c_reg ?_
  refine l_val (r_lssN rfl rfl rfl rfl) rfl rfl ?_
  refine l_split ?_ ?_
  · intro hc1
    replace hc1 := of_decide_eq_true hc1
    obtain ⟨b0, o0, ha, hc⟩ := hP.ptr (by omega)
    simp only at ha
    subst ha
    refine l_end ?_
    refine n_then ?_
    refine c_seq ?_
    refine c_true rfl ?_
    refine c_skip ?_
    refine n_then ?_
    refine c_seq ?_
    refine c_block ?_
    refine c_seq ?_
    refine c_reg ?_
    refine l_val (r_move (v := .int _ _) rfl rfl) rfl rfl ?_
    refine l_val (r_assign (v := .int _ _) rfl rfl) rfl rfl ?_
    refine l_end ?_
    refine n_then ?_
    refine c_seq ?_
    refine c_reg ?_
    refine l_val (r_move (v := .int _ _) rfl rfl) rfl rfl ?_
    refine l_val (r_move (v := .slice _ _ _) rfl rfl) rfl rfl ?_
    refine l_val (r_move (v := .int _ _) rfl rfl) rfl rfl ?_
    refine l_val (r_indexAddrSl2 (n := i) Try.underlying35 tyC3.size rfl rfl rfl (by omega)) rfl rfl ?_
    refine l_loadF hW tyC3 (v := .int .i64 (at_ l (i))) (hc (i) (by omega)) rfl rfl rfl rfl ?_
    refine l_val (r_eql rfl rfl rfl rfl) rfl rfl ?_
    refine l_split ?_ ?_
    · intro hc2
      replace hc2 := of_decide_eq_true hc2
      refine l_end ?_
      refine n_then ?_
      refine c_true rfl ?_
      refine c_seq ?_
      refine c_reg ?_
      refine l_val (r_move (v := .int _ _) rfl rfl) rfl rfl ?_
      refine l_val (r_assign (v := .int _ _) rfl rfl) rfl rfl ?_
      refine l_end ?_
      refine n_then ?_
      refine c_ret ?_
      refine r_block ?_
      refine r_then ?_
      refine r_then ?_
      refine r_block ?_
      refine r_then ?_
      refine ret_tmp (v := .int .i64 (idxI l x)) rfl ?_ ⟨rfl, hW.below⟩
      rw [idxI_at (i := i) (by omega) hc2.symm hx.2]; rfl
    · intro hc2
      replace hc2 := of_decide_eq_false hc2
      refine l_end ?_
      refine n_then ?_
      refine c_false rfl ?_
      refine c_skip ?_
      refine n_block ?_
      refine n_then ?_
      refine c_reg ?_
      refine l_val (r_addN (n := 1) rfl rfl rfl (by omega)) rfl rfl ?_
      refine l_val (r_move (v := .int _ _) rfl rfl) rfl rfl ?_
      refine l_end ?_
      refine n_then ?_
      exact loop_next (i + 1) (by kernel_rfl) hW ⟨by omega, all_step hx.2 (fun e => hc2 e.symm)⟩ (by omega)
  · intro hc1
    replace hc1 := of_decide_eq_false hc1
    refine l_end ?_
    refine n_then ?_
    refine c_seq ?_
    refine c_false rfl ?_
    refine c_exit ?_
    refine x_then ?_
    refine x_then ?_
    refine x_hit ?_
    refine n_then ?_
    refine c_seq ?_
    refine c_reg ?_
    refine l_val (r_assign (v := .int _ _) rfl rfl) rfl rfl ?_
    refine l_end ?_
    refine n_then ?_
    refine c_ret ?_
    refine ret_tmp (v := .int .i64 (idxI l x)) rfl ?_ ⟨rfl, hW.below⟩
    rw [idxI_no hn fun k hk => hx.2 k (by omega)]; rfl

set_option maxRecDepth 10000 in
/-- slices.Contains[[]int,int] -/
theorem g_Contains (aa : Option Addr) (an ac : Nat) (l : List Int) (x : Int) (hl : l.length ≤ 4294967296) : GivesR Try.prog 48 [.slice aa an ac, .int .i64 x].toArray (fun w => RdI w ⟨aa, an, ac⟩ l) (.bool (l.contains x)) := by
  refine givesR_of Try.func48 rfl (bs := [.slice aa an ac, .int .i64 x, undef, undef, undef, undef, undef, undef, undef]) rfl ?_
  intro w hP hW
  refine c_seq ?_
  refine c_reg ?_
  refine l_val (r_assign (v := .bool _) rfl rfl) rfl rfl ?_
  refine l_end ?_
  refine n_then ?_
  refine c_seq ?_
  refine c_reg ?_
  refine l_val (r_move (v := .slice _ _ _) rfl rfl) rfl rfl ?_
  refine l_val (r_move (v := .int _ _) rfl rfl) rfl rfl ?_
  refine l_callR hW (g_Index aa an ac l x hl) en80 (RdI.past hP hW.below) rfl rfl rfl rfl ?_
  intro W hW
  refine l_val (r_geq rfl rfl rfl rfl) rfl rfl ?_
  refine l_val (r_assign (v := .bool _) rfl rfl) rfl rfl ?_
  refine l_end ?_
  refine n_then ?_
  refine c_ret ?_
  refine ret_tmp (v := .bool (l.contains x)) rfl ?_ ⟨rfl, hW.below⟩
  exact congrArg Value.bool (idxI_has l x)

end Go.Proofs.Ytoegpalacppllaa

/- The same hunt, read twice. -/
namespace Go.Proofs.Ytoegpalacppllaa
open Go.RowKit Pl
open Tr Hn
set_option maxRecDepth 10000 in
/-- headend/headendref08.SameHunt -/
theorem g_SameHunt (h : Hu) (pa : Option Addr) (pn pc : Nat) (r q : Sl) (ss : List Sl) (pb : Option Addr) (pm pd : Nat) (r2 q2 : Sl) (ss2 : List Sl) (hfit : pn * 48 ≤ 140737488351232) (hfit2 : pm * 48 ≤ 140737488351232) (hlen : ∀ l ∈ groups h, l.length ≤ 4294967296) : GivesR Try.prog 25 [.agg [.int .i64 h.users, .slice pa pn pc, .slice r.a r.n r.c, .slice q.a q.n q.c, .int .i64 h.rounds].toArray, .agg [.int .i64 h.users, .slice pb pm pd, .slice r2.a r2.n r2.c, .slice q2.a q2.n q2.c, .int .i64 h.rounds].toArray].toArray (fun w => RdHu w h ⟨pa, pn, pc⟩ r q ss ∧ RdHu w h ⟨pb, pm, pd⟩ r2 q2 ss2) (.bool true) := by
  refine givesR_of Try.func25 rfl (bs := [.agg [.int .i64 h.users, .slice pa pn pc, .slice r.a r.n r.c, .slice q.a q.n q.c, .int .i64 h.rounds].toArray, .agg [.int .i64 h.users, .slice pb pm pd, .slice r2.a r2.n r2.c, .slice q2.a q2.n q2.c, .int .i64 h.rounds].toArray, undef, undef, undef, undef, undef, undef, undef, undef, undef, undef, undef, undef, undef, undef, undef, undef, undef, undef, undef, undef, undef, undef, undef, undef, undef, undef, undef, undef, undef, undef, undef, undef, undef, undef, undef, undef, undef, undef, undef, undef, undef, undef, undef, undef, undef]) rfl ?_
  intro w hP hW
  have hpm : pm = pn := by have h1 := hP.1.pn; have h2 := hP.1.len; have h3 := hP.2.pn; have h4 := hP.2.len; simp only at h1 h3; omega
  refine c_seq ?_
  refine c_reg ?_
  refine l_box hW rfl rfl rfl rfl ?_
  intro g1 W hW
  refine l_box hW rfl rfl rfl rfl ?_
  intro g2 W hW
  refine l_val (r_assign (v := .bool _) rfl rfl) rfl rfl ?_
  refine l_end ?_
  refine n_then ?_
  refine c_seq ?_
  refine c_regM hW [] [.q, .mk 0, .q, .mk 1, .tail, .tail] [⟨9, fun _ => NewSl 35 1 (2 + 2 * pn) (r.v :: q.v :: ss.map Sl.v)⟩, ⟨11, fun _ => NewSl 35 1 (2 + 2 * pm) (r2.v :: q2.v :: ss2.map Sl.v)⟩] [[], []] [1, 3] [0, 1, 0, 7, 15, 31] (by kernel_rfl) (by kernel_rfl) rfl (by kernel_rfl) ?_
  refine y_loadA 1 tyA52 rfl rfl rfl rfl rfl (by first | rfl | exact kc_len _ | exact kcf_len _ | (simp; done)) (by decide) ?_
  refine y_callX 0 (g_Groups h pa pn pc r q ss hfit) en29 rfl rfl (fun L2 w hs hC => hP.1.past hC.below) rfl rfl ?_
  refine y_loadA 0 tyA52 rfl rfl rfl rfl rfl (by first | rfl | exact kc_len _ | exact kcf_len _ | (simp; done)) (by decide) ?_
  refine y_callX 1 (g_Groups h pb pm pd r2 q2 ss2 hfit2) en29 rfl rfl (fun L2 w hs hC => hP.2.past hC.below) rfl rfl ?_
  refine y_tail ?_
  refine y_made ?_
  rintro _ BsA ⟨a1A, c1A, rfl, hOA⟩
  obtain ⟨gqA, curA, rfl, rfl, -, -, htkA⟩ := hOA.row (by omega)
  have hvA : ∀ i (s : Sl), (r :: q :: ss)[i]? = some s → curA[i]? = some s.v := fun i s hs => take_get htkA (by
    have := congrArg (Option.map Sl.v) hs
    rw [← List.getElem?_map] at this
    exact this)
  refine y_made ?_
  rintro _ BsB ⟨a1B, c1B, rfl, hOB⟩
  obtain ⟨gqB, curB, rfl, rfl, -, -, htkB⟩ := hOB.row (by omega)
  have hvB : ∀ i (s : Sl), (r2 :: q2 :: ss2)[i]? = some s → curB[i]? = some s.v := fun i s hs => take_get htkB (by
    have := congrArg (Option.map Sl.v) hs
    rw [← List.getElem?_map] at this
    exact this)
  intro W hW
  refine l_val (r_assign (v := .slice _ _ _) rfl rfl) rfl rfl ?_
  refine l_val (r_assign (v := .slice _ _ _) rfl rfl) rfl rfl ?_
  refine l_end ?_
  refine n_then ?_
  refine c_seq ?_
  refine c_seq ?_
  refine c_reg ?_
  refine l_val (r_fieldAddr 0 Try.underlying52 rfl tyC3.size rfl rfl rfl) rfl rfl ?_
  refine l_loadC hW 3 tyC3 rfl rfl rfl rfl rfl rfl ?_
  refine l_val (r_fieldAddr 0 Try.underlying52 rfl tyC3.size rfl rfl rfl) rfl rfl ?_
  refine l_loadC hW 2 tyC3 rfl rfl rfl rfl rfl rfl ?_
  refine l_val (r_neq rfl rfl rfl rfl) rfl rfl ?_
  refine l_split ?_ ?_
  · intro hc1
    replace hc1 := of_decide_eq_true hc1
    refine l_val (r_move (v := .bool _) rfl rfl) rfl rfl ?_
    refine l_not (by kernel_rfl) rfl ?_
    refine l_not (by kernel_rfl) rfl ?_
    refine l_not (by kernel_rfl) rfl ?_
    refine l_not (by kernel_rfl) rfl ?_
    refine l_not (by kernel_rfl) rfl ?_
    refine l_val (r_pick (v := .bool _) rfl rfl rfl) rfl rfl ?_
    refine l_val (r_move (v := .bool _) rfl rfl) rfl rfl ?_
    refine l_not (by kernel_rfl) rfl ?_
    refine l_not (by kernel_rfl) rfl ?_
    refine l_not (by kernel_rfl) rfl ?_
    refine l_not (by kernel_rfl) rfl ?_
    refine l_not (by kernel_rfl) rfl ?_
    refine l_val (r_pick (v := .bool _) rfl rfl rfl) rfl rfl ?_
    refine l_end ?_
    refine n_then ?_
    refine c_true rfl ?_
    refine c_seq ?_
    refine c_reg ?_
    refine l_val (r_assign (v := .bool _) rfl rfl) rfl rfl ?_
    refine l_end ?_
    refine n_then ?_
    refine c_ret ?_
    refine r_then ?_
    refine ret_tmp (v := .bool true) rfl ?_ ⟨rfl, hW.below⟩
    exfalso; omega
  · intro hc1
    replace hc1 := of_decide_eq_false hc1
    refine l_val (r_move (v := .bool _) rfl rfl) rfl rfl ?_
    refine l_valG (r_fieldAddr 4 Try.underlying52 rfl tyC3.size rfl rfl rfl) (by kernel_rfl) rfl ?_
    refine l_loadCG hW 3 tyC3 (by kernel_rfl) rfl rfl rfl rfl rfl ?_
    refine l_valG (r_fieldAddr 4 Try.underlying52 rfl tyC3.size rfl rfl rfl) (by kernel_rfl) rfl ?_
    refine l_loadCG hW 2 tyC3 (by kernel_rfl) rfl rfl rfl rfl rfl ?_
    refine l_valG (r_neq rfl rfl rfl rfl) (by kernel_rfl) rfl ?_
    refine l_split ?_ ?_
    · intro hc2
      replace hc2 := of_decide_eq_true hc2
      refine l_val (r_pick (v := .bool _) rfl rfl rfl) rfl rfl ?_
      refine l_val (r_move (v := .bool _) rfl rfl) rfl rfl ?_
      refine l_not (by kernel_rfl) rfl ?_
      refine l_not (by kernel_rfl) rfl ?_
      refine l_not (by kernel_rfl) rfl ?_
      refine l_not (by kernel_rfl) rfl ?_
      refine l_not (by kernel_rfl) rfl ?_
      refine l_val (r_pick (v := .bool _) rfl rfl rfl) rfl rfl ?_
      refine l_end ?_
      refine n_then ?_
      refine c_true rfl ?_
      refine c_seq ?_
      refine c_reg ?_
      refine l_val (r_assign (v := .bool _) rfl rfl) rfl rfl ?_
      refine l_end ?_
      refine n_then ?_
      refine c_ret ?_
      refine r_then ?_
      refine ret_tmp (v := .bool true) rfl ?_ ⟨rfl, hW.below⟩
      exfalso; omega
    · intro hc2
      replace hc2 := of_decide_eq_false hc2
      refine l_val (r_pick (v := .bool _) rfl rfl rfl) rfl rfl ?_
      refine l_val (r_move (v := .bool _) rfl rfl) rfl rfl ?_
      refine l_valG (r_move (v := .slice _ _ _) rfl rfl) (by kernel_rfl) rfl ?_
      refine l_valG (r_lenSlice Try.underlying69 rfl rfl) (by kernel_rfl) rfl ?_
      refine l_valG (r_move (v := .slice _ _ _) rfl rfl) (by kernel_rfl) rfl ?_
      refine l_valG (r_lenSlice Try.underlying69 rfl rfl) (by kernel_rfl) rfl ?_
      refine l_valG (r_neqN rfl rfl rfl rfl) (by kernel_rfl) rfl ?_
      refine l_split ?_ ?_
      · intro hc3
        replace hc3 := of_decide_eq_true hc3
        refine l_val (r_pick (v := .bool _) rfl rfl rfl) rfl rfl ?_
        refine l_end ?_
        refine n_then ?_
        refine c_true rfl ?_
        refine c_seq ?_
        refine c_reg ?_
        refine l_val (r_assign (v := .bool _) rfl rfl) rfl rfl ?_
        refine l_end ?_
        refine n_then ?_
        refine c_ret ?_
        refine r_then ?_
        refine ret_tmp (v := .bool true) rfl ?_ ⟨rfl, hW.below⟩
        exfalso; omega
      · intro hc3
        replace hc3 := of_decide_eq_false hc3
        refine l_val (r_pick (v := .bool _) rfl rfl rfl) rfl rfl ?_
        refine l_end ?_
        refine n_then ?_
        refine c_false rfl ?_
        refine c_skip ?_
        refine n_then ?_
        refine c_seq ?_
        refine c_seq ?_
        refine c_reg ?_
        refine l_val (r_assign (v := .int _ _) rfl rfl) rfl rfl ?_
        refine l_end ?_
        refine n_then ?_
        refine c_block ?_
        refine c_loop (fun (i : Nat) (j : Nat → Value) => [.agg [.int .i64 h.users, .slice pa pn pc, .slice r.a r.n r.c, .slice q.a q.n q.c, .int .i64 h.rounds].toArray, .agg [.int .i64 h.users, .slice pb pm pd, .slice r2.a r2.n r2.c, .slice q2.a q2.n q2.c, .int .i64 h.rounds].toArray, .pointer (some ⟨g1, 0, none⟩), .pointer (some ⟨g2, 0, none⟩), j 4, .slice (some ⟨gqA, 0, none⟩) (2 + 2 * pn) c1A, .slice (some ⟨gqB, 0, none⟩) (2 + 2 * pm) c1B, .int .i64 (i : Int), .agg ([.int .i64 h.users, .slice pa pn pc, .slice r.a r.n r.c, .slice q.a q.n q.c, .int .i64 h.rounds]).toArray, .slice (some ⟨gqA, 0, none⟩) (2 + 2 * pn) c1A, .agg ([.int .i64 h.users, .slice pb pm pd, .slice r2.a r2.n r2.c, .slice q2.a q2.n q2.c, .int .i64 h.rounds]).toArray, .slice (some ⟨gqB, 0, none⟩) (2 + 2 * pm) c1B, .pointer (some ⟨g1, 0, none⟩), .int .i64 h.users, .pointer (some ⟨g2, 0, none⟩), .int .i64 h.users, .bool false, .bool false, .pointer (some ⟨g1, 4, none⟩), .int .i64 h.rounds, .pointer (some ⟨g2, 4, none⟩), .int .i64 h.rounds, .bool false, .bool false, .bool false, .slice (some ⟨gqA, 0, none⟩) (2 + 2 * pn) c1A, j 26, .slice (some ⟨gqB, 0, none⟩) (2 + 2 * pm) c1B, j 28, .bool false, .bool false, j 31, j 32, j 33, j 34, j 35, j 36, j 37, j 38, j 39, j 40, j 41, j 42, j 43, j 44, j 45, j 46]) (fun (i : Nat) => [⟨gqB, curB, 35⟩, ⟨gqA, curA, 35⟩, ⟨g2, [.int .i64 h.users, .slice pb pm pd, .slice r2.a r2.n r2.c, .slice q2.a q2.n q2.c, .int .i64 h.rounds], 52⟩, ⟨g1, [.int .i64 h.users, .slice pa pn pc, .slice r.a r.n r.c, .slice q.a q.n q.c, .int .i64 h.rounds], 52⟩]) (fun (i : Nat) => i ≤ 2 + 2 * pn) (fun (i : Nat) => 2 + 2 * pn - i) 0 (by kernel_rfl) hW (Nat.zero_le _) ?_
        intro i j W hx hW
        refine c_seq ?_
        refine c_seq ?_
        refine c_reg ?_
        refine l_val (r_move (v := .int _ _) rfl rfl) rfl rfl ?_
        refine l_val (r_move (v := .slice _ _ _) rfl rfl) rfl rfl ?_
        refine l_val (r_lenSlice Try.underlying69 rfl rfl) rfl rfl ?_
        refine l_val (r_lssN rfl rfl rfl rfl) rfl rfl ?_
        refine l_split ?_ ?_
        · intro hc4
          replace hc4 := of_decide_eq_true hc4
          obtain ⟨s, l, e, f, hr⟩ := hP.1.grp (i := i) (by omega)
          obtain ⟨t, l2, e2, f2, hr2⟩ := hP.2.grp (i := i) (by omega)
          obtain rfl : l = l2 := Option.some.inj (f.symm.trans f2)
          have hll := hlen l (List.mem_of_getElem? f)
          refine l_end ?_
          refine n_then ?_
          refine c_true rfl ?_
          refine c_skip ?_
          refine n_then ?_
          refine c_seq ?_
          refine c_block ?_
          refine c_seq ?_
          refine c_regY hW [] [.q, .q, .q, .q, .q, .q, .q, .q, .q, .q] [0, 0, 3, 7, 0, 0, 48, 112, 255, 511] (by kernel_rfl) (by kernel_rfl) ?_
          refine y_val (r_move (v := .slice _ _ _) rfl rfl) rfl rfl ?_
          refine y_val (r_move (v := .int _ _) rfl rfl) rfl rfl ?_
          refine y_val (r_indexAddrSl1 (n := i) Try.underlying69 tyC35.size rfl rfl rfl (by omega)) rfl rfl ?_
          refine y_loadC 1 tyC35 (v := s.v) (by kernel_rfl) rfl rfl rfl rfl (hvA _ _ e) (by decide) ?_
          refine y_val (r_move (v := .slice _ _ _) rfl rfl) rfl rfl ?_
          refine y_val (r_move (v := .int _ _) rfl rfl) rfl rfl ?_
          refine y_val (r_indexAddrSl1 (n := i) Try.underlying69 tyC35.size rfl rfl rfl (by omega)) rfl rfl ?_
          refine y_loadC 0 tyC35 (v := t.v) (by kernel_rfl) rfl rfl rfl rfl (hvB _ _ e2) (by decide) ?_
          refine y_callR (GivesR.cast (g_SameInts s.a s.n s.c l t.a t.n t.c l hll) (congrArg Value.bool (decide_eq_true rfl))) en26 (fun L2 w hs hC => ⟨hr.past hC.below, hr2.past hC.below⟩) (by kernel_rfl) rfl rfl rfl ?_
          refine y_val (r_not rfl rfl) rfl rfl ?_
          refine y_end ?_
          intro W hW
          refine n_then ?_
          refine c_false rfl ?_
          refine c_skip ?_
          refine n_block ?_
          refine n_then ?_
          refine c_reg ?_
          refine l_val (r_move (v := .int _ _) rfl rfl) rfl rfl ?_
          refine l_val (r_addN (n := 1) rfl rfl rfl (by omega)) rfl rfl ?_
          refine l_val (r_assign (v := .int _ _) rfl rfl) rfl rfl ?_
          refine l_end ?_
          refine n_then ?_
          exact loop_next (i + 1) (by kernel_rfl) hW (by omega) (by omega)
        · intro hc4
          replace hc4 := of_decide_eq_false hc4
          refine l_end ?_
          refine n_then ?_
          refine c_false rfl ?_
          refine c_exit ?_
          refine x_then ?_
          refine x_then ?_
          refine x_hit ?_
          refine n_then ?_
          refine c_seq ?_
          refine c_reg ?_
          refine l_val (r_assign (v := .bool _) rfl rfl) rfl rfl ?_
          refine l_end ?_
          refine n_then ?_
          refine c_ret ?_
          refine ret_tmp (v := .bool true) rfl ?_ ⟨rfl, hW.below⟩
          rfl

end Go.Proofs.Ytoegpalacppllaa

/- Halves, by the program. -/
namespace Go.Proofs.Ytoegpalacppllaa
open Go.RowKit Pl
open Tr Hn
set_option maxRecDepth 10000 in
/-- headend/trace.halves -/
theorem g_halves (aa : Option Addr) (an ac : Nat) (l : List Int) (hl : l.length ≤ 4294967296) : GivesX Try.prog 51 [.slice aa an ac].toArray (fun w => RdI w ⟨aa, an, ac⟩ l) (fun v Bs => ∃ s0 s1 : Sl, v = .agg [s0.v, s1.v].toArray ∧ NewI s0 (l.take (halfN l)) Bs ∧ NewI s1 (l.drop (halfN l)) Bs) := by
  refine givesX_of Try.func51 rfl (bs := [.slice aa an ac, undef, undef, undef, undef, undef, undef, undef, undef, undef, undef, undef, undef, undef, undef, undef, undef]) rfl ?_
  intro w hP hW
  have hn : an = l.length := hP.len
  have hle := hP.ok.le
  simp only at hle
  refine c_seq ?_
  refine c_reg ?_
  refine l_alloc hW tyZ99 rfl rfl rfl ?_
  intro g1 W hW
  refine l_end ?_
  refine n_then ?_
  refine c_seq ?_
  refine c_reg ?_
  refine l_val (r_move (v := .slice _ _ _) rfl rfl) rfl rfl ?_
  refine l_val (r_lenSlice Try.underlying35 rfl rfl) rfl rfl ?_
  refine l_val (r_addN (n := 1) rfl rfl rfl (by omega)) rfl rfl ?_
  refine l_val (r_quoN (n := 2) rfl rfl rfl (by omega) (by omega)) rfl rfl ?_
  refine l_val (r_assign (v := .int _ _) rfl rfl) rfl rfl ?_
  refine l_end ?_
  refine n_then ?_
  refine c_seq ?_
  refine c_regM hW [] [.q, .q, .q, .mk 0, .q, .q, .q, .mk 1, .tail, .tail] [⟨11, fun _ v Bs => ∃ s : Sl, v = s.v ∧ NewI s (l.take ((an + 1) / 2)) Bs⟩, ⟨15, fun _ v Bs => ∃ s : Sl, v = s.v ∧ NewI s (l.drop ((an + 1) / 2)) Bs⟩] [[], []] [3, 7] [0, 0, 3, 7, 0, 0, 48, 127, 255, 511] (by kernel_rfl) (by kernel_rfl) rfl (by kernel_rfl) ?_
  refine y_val (r_move (v := .slice _ _ _) rfl rfl) rfl rfl ?_
  refine y_val (r_move (v := .int _ _) rfl rfl) rfl rfl ?_
  refine y_val (r_sliceTo Try.underlying35 tyC3.size rfl rfl rfl (by omega) hP.ok.nil) rfl rfl ?_
  refine y_callX 0 (g_Clone ((⟨aa, (an + 1) / 2, ac⟩ : Sl)).a ((⟨aa, (an + 1) / 2, ac⟩ : Sl)).n ((⟨aa, (an + 1) / 2, ac⟩ : Sl)).c (l.take ((an + 1) / 2)) (by simp only [List.length_take]; omega)) en39 rfl rfl (fun L2 w hs hC => (RdI.past hP hC.below).to (k := (an + 1) / 2) (by simp only; omega)) rfl rfl ?_
  refine y_val (r_move (v := .slice _ _ _) rfl rfl) rfl rfl ?_
  refine y_val (r_move (v := .int _ _) rfl rfl) rfl rfl ?_
  refine y_val (r_sliceFrom (s := ⟨aa, an, ac⟩) Try.underlying35 tyC3.size rfl rfl rfl (by simp only; omega) hP.ok) rfl rfl ?_
  refine y_callX 1 (g_Clone (Sl.from ⟨aa, an, ac⟩ ((an + 1) / 2)).a (Sl.from ⟨aa, an, ac⟩ ((an + 1) / 2)).n (Sl.from ⟨aa, an, ac⟩ ((an + 1) / 2)).c (l.drop ((an + 1) / 2)) (by simp only [List.length_drop]; omega)) en39 rfl rfl (fun L2 w hs hC => (RdI.past hP hC.below).from (k := (an + 1) / 2) (by simp only; omega)) rfl rfl ?_
  refine y_tail ?_
  refine y_made ?_
  rintro _ Bs1 ⟨s0, rfl, hs0⟩
  refine y_made ?_
  rintro _ Bs3 ⟨s1, rfl, hs1⟩
  intro W hW
  replace hW := hW.perm perm2
  refine l_val (r_build (ps := [(0, .slice _ _ _), (1, .slice _ _ _)]) (bld99_0_1 _ _ _ _ _ _) rfl rfl) rfl rfl ?_
  refine l_storeA hW 0 tyA99 rfl rfl rfl rfl rfl rfl (by first | rfl | exact kc_len _ | exact kcf_len _ | (simp; done)) (by first | rfl | exact kc_len _ | exact kcf_len _ | (simp; done)) (by first | exact kc_one _ | exact kcf_one _ | (simp [Value.oneCell']; done)) ?_
  intro W hW
  refine l_end ?_
  refine n_then ?_
  refine c_ret ?_
  refine ret_cell hW 0 tyA99 rfl rfl rfl (by first | rfl | exact kc_len _ | exact kcf_len _ | (simp; done)) ?_
  exact ⟨_, Bs3 ++ Bs1, rfl, ⟨s0, s1, rfl, by rw [halfN, ← hn]; exact hs0.sub (List.sublist_append_right _ _), by rw [halfN, ← hn]; exact hs1.sub (List.sublist_append_left _ _)⟩, hW.drop 1⟩

end Go.Proofs.Ytoegpalacppllaa

/- One group, by the program. -/
namespace Go.Proofs.Ytoegpalacppllaa
open Go.RowKit Pl
open Tr Hn
set_option maxRecDepth 10000 in
/-- headend/trace.CheckHunt$1 -/
theorem g_fit (aa : Option Addr) (an ac : Nat) (l : List Int) (e : Bool) (h : Hu) (pa : Option Addr) (pn pc : Nat) (r q : Sl) (pre : List Int) (un mc : Nat) (gl gs gm gh : Nat) (lv : Int) (hlv : lv = h.users - (pre.length : Int)) (hu : h.users = (un : Int)) (hu1 : un ≤ 64) (hl : l.length ≤ 4294967296) (hp : pre.length ≤ 4294967296) : GivesS Try.prog 55 [.slice aa an ac, .bool e, .pointer (some ⟨gh, 0, none⟩), .pointer (some ⟨gs, 0, none⟩), .pointer (some ⟨gl, 0, none⟩)].toArray (fun b L => RdS b L ⟨aa, an, ac⟩ l) [⟨gl, [.int .i64 lv], 3⟩, ⟨gs, [.slice (some ⟨gm, 0, none⟩) un mc], 92⟩, ⟨gm, marks (pre) un, 4⟩, ⟨gh, [.int .i64 h.users, .slice pa pn pc, .slice r.a r.n r.c, .slice q.a q.n q.c, .int .i64 h.rounds], 52⟩] (fun v B => ∃ s, v = .bool (fitB h.users pre l e) ∧ B = [⟨gl, [.int .i64 (h.users - ((s).length : Int))], 3⟩, ⟨gs, [.slice (some ⟨gm, 0, none⟩) un mc], 92⟩, ⟨gm, marks (s) un, 4⟩, ⟨gh, [.int .i64 h.users, .slice pa pn pc, .slice r.a r.n r.c, .slice q.a q.n q.c, .int .i64 h.rounds], 52⟩] ∧ (fitB h.users pre l e = true → s = pre ++ l)) := by
  refine givesS_of Try.func55 rfl (bs := [.slice aa an ac, .bool e, .pointer (some ⟨gh, 0, none⟩), .pointer (some ⟨gs, 0, none⟩), .pointer (some ⟨gl, 0, none⟩), undef, undef, undef, undef, undef, undef, undef, undef, undef, undef, undef, undef, undef, undef, undef, undef, undef, undef, undef, undef, undef, undef, undef, undef, undef, undef, undef, undef, undef, undef, undef, undef, undef, undef, undef, undef, undef, undef, undef, undef, undef, undef, undef, undef, undef, undef, undef, undef, undef, undef, undef]) rfl ?_
  intro b L w hP hW
  have hn : an = l.length := (hP w (hW.sub (List.sublist_append_right _ _))).len
  refine c_seq ?_
  refine c_reg ?_
  refine l_val (r_assign (v := .bool _) rfl rfl) rfl rfl ?_
  refine l_end ?_
  refine n_then ?_
  refine c_seq ?_
  refine c_seq ?_
  refine c_reg ?_
  refine l_val (r_move (v := .slice _ _ _) rfl rfl) rfl rfl ?_
  refine l_val (r_lenSlice Try.underlying35 rfl rfl) rfl rfl ?_
  refine l_val (r_move (v := .int _ _) rfl rfl) rfl rfl ?_
  refine l_end ?_
  refine n_then ?_
  refine c_block ?_
  refine c_loop (fun (i : Nat) (j : Nat → Value) => [.slice aa an ac, .bool e, .pointer (some ⟨gh, 0, none⟩), .pointer (some ⟨gs, 0, none⟩), .pointer (some ⟨gl, 0, none⟩), j 5, j 6, j 7, j 8, j 9, .slice aa an ac, .int .i64 (an : Int), .int .i64 (i : Int), j 13, j 14, j 15, j 16, j 17, j 18, j 19, j 20, j 21, j 22, j 23, j 24, j 25, j 26, j 27, j 28, j 29, j 30, j 31, j 32, j 33, j 34, j 35, j 36, j 37, j 38, j 39, j 40, j 41, j 42, j 43, j 44, j 45, j 46, j 47, j 48, j 49, j 50, j 51, j 52, j 53, j 54, j 55]) (fun (i : Nat) => [⟨gl, [.int .i64 (h.users - ((pre ++ l.take i).length : Int))], 3⟩, ⟨gs, [.slice (some ⟨gm, 0, none⟩) un mc], 92⟩, ⟨gm, marks (pre ++ l.take i) un, 4⟩, ⟨gh, [.int .i64 h.users, .slice pa pn pc, .slice r.a r.n r.c, .slice q.a q.n q.c, .int .i64 h.rounds], 52⟩] ++ L) (fun (i : Nat) => i ≤ an ∧ ∀ k, k < i → okI h.users pre l k) (fun (i : Nat) => an - i) 0 (by kernel_rfl) (by subst hlv; simpa using hW) ⟨by omega, all_zero⟩ ?_
  intro i j W hx hW
  have hpl := pre_len (pre := pre) (l := l) (i := i) (by omega)
  refine c_seq ?_
  refine c_reg ?_
  refine l_val (r_lssN rfl rfl rfl rfl) rfl rfl ?_
  refine l_split ?_ ?_
  · intro hc1
    replace hc1 := of_decide_eq_true hc1
    have hR := hP W (hW.sub (List.sublist_append_right _ _))
    obtain ⟨b0, o0, ha, hd⟩ := hR.ptr (by omega)
    simp only at ha
    subst ha
    refine l_end ?_
    refine n_then ?_
    refine c_seq ?_
    refine c_true rfl ?_
    refine c_skip ?_
    refine n_then ?_
    refine c_seq ?_
    refine c_block ?_
    refine c_seq ?_
    refine c_reg ?_
    refine l_val (r_move (v := .int _ _) rfl rfl) rfl rfl ?_
    refine l_val (r_indexAddrSl2 (n := i) Try.underlying35 tyC3.size rfl rfl rfl (by omega)) rfl rfl ?_
    refine l_loadW tyC3 (v := .int .i64 (at_ l (i))) (hd (i) (by omega)) (by kernel_rfl) rfl rfl rfl ?_
    refine l_val (r_assign (v := .int _ _) rfl rfl) rfl rfl ?_
    refine l_val (r_assign (v := .int _ _) rfl rfl) rfl rfl ?_
    refine l_end ?_
    refine n_then ?_
    refine c_seq ?_
    refine c_seq ?_
    refine c_reg ?_
    refine l_val (r_move (v := .int _ _) rfl rfl) rfl rfl ?_
    refine l_val (r_lss rfl rfl rfl rfl) rfl rfl ?_
    refine l_split ?_ ?_
    · intro hc2
      replace hc2 := of_decide_eq_true hc2
      refine l_val (r_move (v := .bool _) rfl rfl) rfl rfl ?_
      refine l_not (by kernel_rfl) rfl ?_
      refine l_not (by kernel_rfl) rfl ?_
      refine l_not (by kernel_rfl) rfl ?_
      refine l_not (by kernel_rfl) rfl ?_
      refine l_val (r_pick (v := .bool _) rfl rfl rfl) rfl rfl ?_
      refine l_val (r_move (v := .bool _) rfl rfl) rfl rfl ?_
      refine l_not (by kernel_rfl) rfl ?_
      refine l_not (by kernel_rfl) rfl ?_
      refine l_not (by kernel_rfl) rfl ?_
      refine l_not (by kernel_rfl) rfl ?_
      refine l_val (r_pick (v := .bool _) rfl rfl rfl) rfl rfl ?_
      refine l_val (r_move (v := .bool _) rfl rfl) rfl rfl ?_
      refine l_not (by kernel_rfl) rfl ?_
      refine l_not (by kernel_rfl) rfl ?_
      refine l_not (by kernel_rfl) rfl ?_
      refine l_not (by kernel_rfl) rfl ?_
      refine l_not (by kernel_rfl) rfl ?_
      refine l_not (by kernel_rfl) rfl ?_
      refine l_not (by kernel_rfl) rfl ?_
      refine l_not (by kernel_rfl) rfl ?_
      refine l_not (by kernel_rfl) rfl ?_
      refine l_not (by kernel_rfl) rfl ?_
      refine l_not (by kernel_rfl) rfl ?_
      refine l_val (r_pick (v := .bool _) rfl rfl rfl) rfl rfl ?_
      refine l_end ?_
      refine n_then ?_
      refine c_true rfl ?_
      refine c_seq ?_
      refine c_reg ?_
      refine l_val (r_assign (v := .bool _) rfl rfl) rfl rfl ?_
      refine l_end ?_
      refine n_then ?_
      refine c_ret ?_
      refine r_then ?_
      refine r_block ?_
      refine r_then ?_
      refine r_then ?_
      refine r_block ?_
      refine r_then ?_
      refine ret_tmp (v := .bool _) rfl rfl ?_
      have hF := fit_no (l := l) (pre := pre) (e := e) (n := h.users) (i := i) (by omega) (by first | exact .inl (by omega) | exact .inr (.inl (by omega)) | exact .inr (.inr (.inl (by assumption))) | exact .inr (.inr (.inr ⟨by omega, by omega⟩)))
      exact ⟨_, _, rfl, ⟨pre ++ l.take i, by rw [hF], rfl, fun h => by rw [hF] at h; cases h⟩, hW⟩
    · intro hc2
      replace hc2 := of_decide_eq_false hc2
      refine l_val (r_move (v := .bool _) rfl rfl) rfl rfl ?_
      refine l_valG (r_move (v := .int _ _) rfl rfl) (by kernel_rfl) rfl ?_
      refine l_valG (r_fieldAddr 0 Try.underlying52 rfl tyC3.size rfl rfl rfl) (by kernel_rfl) rfl ?_
      refine l_loadCG hW 3 tyC3 (by kernel_rfl) rfl rfl rfl rfl rfl ?_
      refine l_valG (r_geq rfl rfl rfl rfl) (by kernel_rfl) rfl ?_
      refine l_split ?_ ?_
      · intro hc3
        replace hc3 := of_decide_eq_true hc3
        refine l_val (r_pick (v := .bool _) rfl rfl rfl) rfl rfl ?_
        refine l_val (r_move (v := .bool _) rfl rfl) rfl rfl ?_
        refine l_not (by kernel_rfl) rfl ?_
        refine l_not (by kernel_rfl) rfl ?_
        refine l_not (by kernel_rfl) rfl ?_
        refine l_not (by kernel_rfl) rfl ?_
        refine l_val (r_pick (v := .bool _) rfl rfl rfl) rfl rfl ?_
        refine l_val (r_move (v := .bool _) rfl rfl) rfl rfl ?_
        refine l_not (by kernel_rfl) rfl ?_
        refine l_not (by kernel_rfl) rfl ?_
        refine l_not (by kernel_rfl) rfl ?_
        refine l_not (by kernel_rfl) rfl ?_
        refine l_not (by kernel_rfl) rfl ?_
        refine l_not (by kernel_rfl) rfl ?_
        refine l_not (by kernel_rfl) rfl ?_
        refine l_not (by kernel_rfl) rfl ?_
        refine l_not (by kernel_rfl) rfl ?_
        refine l_not (by kernel_rfl) rfl ?_
        refine l_not (by kernel_rfl) rfl ?_
        refine l_val (r_pick (v := .bool _) rfl rfl rfl) rfl rfl ?_
        refine l_end ?_
        refine n_then ?_
        refine c_true rfl ?_
        refine c_seq ?_
        refine c_reg ?_
        refine l_val (r_assign (v := .bool _) rfl rfl) rfl rfl ?_
        refine l_end ?_
        refine n_then ?_
        refine c_ret ?_
        refine r_then ?_
        refine r_block ?_
        refine r_then ?_
        refine r_then ?_
        refine r_block ?_
        refine r_then ?_
        refine ret_tmp (v := .bool _) rfl rfl ?_
        have hF := fit_no (l := l) (pre := pre) (e := e) (n := h.users) (i := i) (by omega) (by first | exact .inl (by omega) | exact .inr (.inl (by omega)) | exact .inr (.inr (.inl (by assumption))) | exact .inr (.inr (.inr ⟨by omega, by omega⟩)))
        exact ⟨_, _, rfl, ⟨pre ++ l.take i, by rw [hF], rfl, fun h => by rw [hF] at h; cases h⟩, hW⟩
      · intro hc3
        replace hc3 := of_decide_eq_false hc3
        refine l_val (r_pick (v := .bool _) rfl rfl rfl) rfl rfl ?_
        refine l_val (r_move (v := .bool _) rfl rfl) rfl rfl ?_
        refine l_loadCG hW 1 tyC92 (by kernel_rfl) rfl rfl rfl rfl rfl ?_
        refine l_valG (r_move (v := .int _ _) rfl rfl) (by kernel_rfl) rfl ?_
        refine l_valG (r_indexAddrSlZ Try.underlying92 tyC4.size rfl rfl rfl (by omega) (by omega)) (by kernel_rfl) rfl ?_
        refine l_loadCG hW 2 tyC4 (v := .bool ((pre ++ l.take i).contains (at_ l i))) (by kernel_rfl) rfl rfl rfl rfl (marks_get (by omega) (by omega)) ?_
        refine l_split ?_ ?_
        · intro hc4
          refine l_val (r_pick (v := .bool _) rfl rfl rfl) rfl rfl ?_
          refine l_val (r_move (v := .bool _) rfl rfl) rfl rfl ?_
          refine l_not (by kernel_rfl) rfl ?_
          refine l_not (by kernel_rfl) rfl ?_
          refine l_not (by kernel_rfl) rfl ?_
          refine l_not (by kernel_rfl) rfl ?_
          refine l_not (by kernel_rfl) rfl ?_
          refine l_not (by kernel_rfl) rfl ?_
          refine l_not (by kernel_rfl) rfl ?_
          refine l_not (by kernel_rfl) rfl ?_
          refine l_not (by kernel_rfl) rfl ?_
          refine l_not (by kernel_rfl) rfl ?_
          refine l_not (by kernel_rfl) rfl ?_
          refine l_val (r_pick (v := .bool _) rfl rfl rfl) rfl rfl ?_
          refine l_end ?_
          refine n_then ?_
          refine c_true rfl ?_
          refine c_seq ?_
          refine c_reg ?_
          refine l_val (r_assign (v := .bool _) rfl rfl) rfl rfl ?_
          refine l_end ?_
          refine n_then ?_
          refine c_ret ?_
          refine r_then ?_
          refine r_block ?_
          refine r_then ?_
          refine r_then ?_
          refine r_block ?_
          refine r_then ?_
          refine ret_tmp (v := .bool _) rfl rfl ?_
          have hF := fit_no (l := l) (pre := pre) (e := e) (n := h.users) (i := i) (by omega) (by first | exact .inl (by omega) | exact .inr (.inl (by omega)) | exact .inr (.inr (.inl (by assumption))) | exact .inr (.inr (.inr ⟨by omega, by omega⟩)))
          exact ⟨_, _, rfl, ⟨pre ++ l.take i, by rw [hF], rfl, fun h => by rw [hF] at h; cases h⟩, hW⟩
        · intro hc4
          refine l_val (r_pick (v := .bool _) rfl rfl rfl) rfl rfl ?_
          refine l_val (r_move (v := .bool _) rfl rfl) rfl rfl ?_
          refine l_valG (r_move (v := .int _ _) rfl rfl) (by kernel_rfl) rfl ?_
          refine l_valG (r_gtrN (n := 0) rfl rfl rfl rfl) (by kernel_rfl) rfl ?_
          refine l_split ?_ ?_
          · intro hc5
            replace hc5 := of_decide_eq_true hc5
            refine l_valG (r_move (v := .bool _) rfl rfl) (by kernel_rfl) rfl ?_
            refine l_valG (r_move (v := .int _ _) rfl rfl) (by kernel_rfl) rfl ?_
            refine l_valG (r_move (v := .slice _ _ _) rfl rfl) (by kernel_rfl) rfl ?_
            refine l_valG (r_move (v := .int _ _) rfl rfl) (by kernel_rfl) rfl ?_
            refine l_valG (r_subN (n := 1) rfl rfl rfl (by omega) (by omega)) (by kernel_rfl) rfl ?_
            refine l_valG (r_indexAddrSl2 (n := (i - 1)) Try.underlying35 tyC3.size rfl rfl rfl (by omega)) (by kernel_rfl) rfl ?_
            refine l_loadW tyC3 (v := .int .i64 (at_ l (i - 1))) (hd (i - 1) (by omega)) (by kernel_rfl) rfl rfl rfl ?_
            refine l_valG (r_lss rfl rfl rfl rfl) (by kernel_rfl) rfl ?_
            refine l_split ?_ ?_
            · intro hc6
              replace hc6 := of_decide_eq_true hc6
              refine l_valG (r_pick (v := .bool _) rfl rfl rfl) (by kernel_rfl) rfl ?_
              refine l_val (r_pick (v := .bool _) rfl rfl rfl) rfl rfl ?_
              refine l_end ?_
              refine n_then ?_
              refine c_true rfl ?_
              refine c_seq ?_
              refine c_reg ?_
              refine l_val (r_assign (v := .bool _) rfl rfl) rfl rfl ?_
              refine l_end ?_
              refine n_then ?_
              refine c_ret ?_
              refine r_then ?_
              refine r_block ?_
              refine r_then ?_
              refine r_then ?_
              refine r_block ?_
              refine r_then ?_
              refine ret_tmp (v := .bool _) rfl rfl ?_
              have hF := fit_no (l := l) (pre := pre) (e := e) (n := h.users) (i := i) (by omega) (by first | exact .inl (by omega) | exact .inr (.inl (by omega)) | exact .inr (.inr (.inl (by assumption))) | exact .inr (.inr (.inr ⟨by omega, by omega⟩)))
              exact ⟨_, _, rfl, ⟨pre ++ l.take i, by rw [hF], rfl, fun h => by rw [hF] at h; cases h⟩, hW⟩
            · intro hc6
              replace hc6 := of_decide_eq_false hc6
              refine l_valG (r_pick (v := .bool _) rfl rfl rfl) (by kernel_rfl) rfl ?_
              refine l_val (r_pick (v := .bool _) rfl rfl rfl) rfl rfl ?_
              refine l_end ?_
              refine n_then ?_
              refine c_false rfl ?_
              refine c_skip ?_
              refine n_then ?_
              refine c_seq ?_
              refine c_reg ?_
              refine l_loadC hW 1 tyC92 rfl rfl rfl rfl rfl rfl ?_
              refine l_val (r_move (v := .int _ _) rfl rfl) rfl rfl ?_
              refine l_val (r_indexAddrSlZ Try.underlying92 tyC4.size rfl rfl rfl (by omega) (by omega)) rfl rfl ?_
              refine l_storeC hW 2 tyC4 (v := .bool _) rfl rfl rfl rfl rfl rfl (by rw [marks_len]; omega) rfl ?_
              intro W hW
              refine l_end ?_
              refine n_then ?_
              refine c_reg ?_
              refine l_loadC hW 0 tyC3 rfl rfl rfl rfl rfl rfl ?_
              refine l_val (r_subZ rfl rfl rfl (by omega)) rfl rfl ?_
              refine l_storeC hW 0 tyC3 (v := .int _ _) rfl rfl rfl rfl rfl rfl (by first | rfl | omega | (simp; done) | (simp; omega)) rfl ?_
              intro W hW
              refine l_end ?_
              refine n_block ?_
              refine n_then ?_
              refine c_reg ?_
              refine l_val (r_addN (n := 1) rfl rfl rfl (by omega)) rfl rfl ?_
              refine l_val (r_move (v := .int _ _) rfl rfl) rfl rfl ?_
              refine l_end ?_
              refine n_then ?_
              have hsn := take_snoc (pre := pre) (l := l) (i := i) (by omega)
              have hec : h.users - ((pre ++ l.take (i + 1)).length : Int) = h.users - ((pre ++ l.take i).length : Int) - 1 := by rw [hsn, List.length_append]; simp; omega
              exact loop_next (i + 1) (by kernel_rfl) (by rw [hec, hsn, ← marks_set (by omega) (by omega)]; exact hW) ⟨by omega, all_step hx.2 (okI_of (by omega) (by omega) (by assumption) (by omega))⟩ (by omega)
          · intro hc5
            replace hc5 := of_decide_eq_false hc5
            refine l_valG (r_move (v := .bool _) rfl rfl) (by kernel_rfl) rfl ?_
            refine l_not (by kernel_rfl) rfl ?_
            refine l_not (by kernel_rfl) rfl ?_
            refine l_not (by kernel_rfl) rfl ?_
            refine l_not (by kernel_rfl) rfl ?_
            refine l_not (by kernel_rfl) rfl ?_
            refine l_not (by kernel_rfl) rfl ?_
            refine l_not (by kernel_rfl) rfl ?_
            refine l_valG (r_pick (v := .bool _) rfl rfl rfl) (by kernel_rfl) rfl ?_
            refine l_val (r_pick (v := .bool _) rfl rfl rfl) rfl rfl ?_
            refine l_end ?_
            refine n_then ?_
            refine c_false rfl ?_
            refine c_skip ?_
            refine n_then ?_
            refine c_seq ?_
            refine c_reg ?_
            refine l_loadC hW 1 tyC92 rfl rfl rfl rfl rfl rfl ?_
            refine l_val (r_move (v := .int _ _) rfl rfl) rfl rfl ?_
            refine l_val (r_indexAddrSlZ Try.underlying92 tyC4.size rfl rfl rfl (by omega) (by omega)) rfl rfl ?_
            refine l_storeC hW 2 tyC4 (v := .bool _) rfl rfl rfl rfl rfl rfl (by rw [marks_len]; omega) rfl ?_
            intro W hW
            refine l_end ?_
            refine n_then ?_
            refine c_reg ?_
            refine l_loadC hW 0 tyC3 rfl rfl rfl rfl rfl rfl ?_
            refine l_val (r_subZ rfl rfl rfl (by omega)) rfl rfl ?_
            refine l_storeC hW 0 tyC3 (v := .int _ _) rfl rfl rfl rfl rfl rfl (by first | rfl | omega | (simp; done) | (simp; omega)) rfl ?_
            intro W hW
            refine l_end ?_
            refine n_block ?_
            refine n_then ?_
            refine c_reg ?_
            refine l_val (r_addN (n := 1) rfl rfl rfl (by omega)) rfl rfl ?_
            refine l_val (r_move (v := .int _ _) rfl rfl) rfl rfl ?_
            refine l_end ?_
            refine n_then ?_
            have hsn := take_snoc (pre := pre) (l := l) (i := i) (by omega)
            have hec : h.users - ((pre ++ l.take (i + 1)).length : Int) = h.users - ((pre ++ l.take i).length : Int) - 1 := by rw [hsn, List.length_append]; simp; omega
            exact loop_next (i + 1) (by kernel_rfl) (by rw [hec, hsn, ← marks_set (by omega) (by omega)]; exact hW) ⟨by omega, all_step hx.2 (okI_of (by omega) (by omega) (by assumption) (by omega))⟩ (by omega)
  · intro hc1
    replace hc1 := of_decide_eq_false hc1
    refine l_end ?_
    refine n_then ?_
    refine c_seq ?_
    refine c_false rfl ?_
    refine c_exit ?_
    refine x_then ?_
    refine x_then ?_
    refine x_hit ?_
    refine n_then ?_
    refine c_seq ?_
    refine c_reg ?_
    refine l_val (r_move (v := .bool _) rfl rfl) rfl rfl ?_
    refine l_split ?_ ?_
    · intro hc7
      refine l_val (r_move (v := .bool _) rfl rfl) rfl rfl ?_
      refine l_not (by kernel_rfl) rfl ?_
      refine l_not (by kernel_rfl) rfl ?_
      refine l_not (by kernel_rfl) rfl ?_
      refine l_val (r_pick (v := .bool _) rfl rfl rfl) rfl rfl ?_
      refine l_val (r_assign (v := .bool _) rfl rfl) rfl rfl ?_
      refine l_end ?_
      refine n_then ?_
      refine c_ret ?_
      refine ret_tmp (v := .bool _) rfl rfl ?_
      have hF := fit_yes (l := l) (pre := pre) (n := h.users) (e := e) fun k hk => hx.2 k (by omega)
      exact ⟨_, _, rfl, ⟨pre ++ l.take i, by rw [hF, ← hn]; simp [*], rfl, fun _ => by rw [List.take_of_length_le (by omega)]⟩, hW⟩
    · intro hc7
      refine l_val (r_move (v := .bool _) rfl rfl) rfl rfl ?_
      refine l_valG (r_move (v := .slice _ _ _) rfl rfl) (by kernel_rfl) rfl ?_
      refine l_valG (r_lenSlice Try.underlying35 rfl rfl) (by kernel_rfl) rfl ?_
      refine l_valG (r_gtrN (n := 0) rfl rfl rfl rfl) (by kernel_rfl) rfl ?_
      refine l_val (r_pick (v := .bool _) rfl rfl rfl) rfl rfl ?_
      refine l_val (r_assign (v := .bool _) rfl rfl) rfl rfl ?_
      refine l_end ?_
      refine n_then ?_
      refine c_ret ?_
      refine ret_tmp (v := .bool _) rfl rfl ?_
      have hF := fit_yes (l := l) (pre := pre) (n := h.users) (e := e) fun k hk => hx.2 k (by omega)
      exact ⟨_, _, rfl, ⟨pre ++ l.take i, by rw [hF, ← hn]; simp [*], rfl, fun _ => by rw [List.take_of_length_le (by omega)]⟩, hW⟩

end Go.Proofs.Ytoegpalacppllaa

