/- Slices: those that the call itself makes and appends to, and those that it only reads. No function of the program is in sight here. -/
import Derived.Test.YtoegpalacppllaaWalk
import Derived.ArgAppend
namespace Go.Proofs.Ytoegpalacppllaa
open Go.RowKit

section
variable {P : Program}

/-- the facts on an element's type that append asks -/
structure TyE (P : Program) (t e : TypeId) (sz bytes : Nat) : Prop where
  u : P.underlying t = some (.slice e)
  info : ∃ i z, P.info? e = some i ∧ i.zero = some z ∧ i.size = sz ∧ i.bytes = bytes ∧ z.cells.size = sz
  pos : 0 < sz

/-- a slice value that owns its row: nil, or at the head of a row of the call's own, of which nothing else is known; Bs: that row, as a list -/
def OwnSl (e : TypeId) (sz : Nat) (a : Option Addr) (n c : Nat) (xs : List Value) (Bs : List Blk) : Prop :=
  xs.length = n * sz ∧ ((a = none ∧ n = 0 ∧ c = 0 ∧ Bs = []) ∨
    ∃ g cur, a = some ⟨g, 0, none⟩ ∧ Bs = [⟨g, cur, e⟩] ∧ n ≤ c ∧ c ≤ maxLen ∧ cur.length = c * sz ∧ cur.take (n * sz) = xs)

theorem OwnSl.nil (e : TypeId) (sz : Nat) : OwnSl e sz none 0 0 [] [] := ⟨by simp, .inl ⟨rfl, rfl, rfl, rfl⟩⟩
theorem OwnSl.full {e : TypeId} {sz g n : Nat} {vs : List Value} (h : vs.length = n * sz) (hn : n ≤ maxLen) : OwnSl e sz (some ⟨g, 0, none⟩) n n vs [⟨g, vs, e⟩] :=
  ⟨h, .inr ⟨g, vs, rfl, rfl, Nat.le_refl _, hn, h, by rw [← h]; simp⟩⟩

/-- blocks of a callee, beside one's own -/
theorem Cl.beside {w0 : Base} {W W' : World} {L Bs : List Blk} (h : Cl w0 L W) (hb : Cl (base W) Bs W') : Cl w0 (L ++ Bs) W' := by
  have h' := h.past hb.below
  refine ⟨h'.below, ?_, ?_, ?_, h'.oth⟩
  · intro x hx
    rcases List.mem_append.1 hx with hx | hx
    · exact h'.holds x hx
    · exact hb.holds x hx
  · intro x hx
    rcases List.mem_append.1 hx with hx | hx
    · exact h'.own x hx
    · exact Nat.le_trans h.below.size (hb.own x hx)
  · refine List.pairwise_append.2 ⟨h'.apart, hb.apart, fun x hx y hy => ?_⟩
    have h1 := h.lt hx
    have h2 : W.heap.size ≤ y.id := hb.own y hy
    omega

theorem cells_of {w : World} {g : Nat} {cs : List Value} {t : TypeId} {fr : Nat × Nat} (hg : w.heap[g]? = some (.cells cs.toArray t fr)) (i j : Nat) : w.cell? ((⟨g, i, none⟩ : Addr).add j) = cs[i + j]? := by
  rw [Addr.add_lit, cell_at hg]

theorem own_append {w0 : Base} {W : World} {t e : TypeId} {sz bytes : Nat} (hE : TyE P t e sz bytes) {a : Option Addr} {n c : Nat} {xs : List Value} {L Bs : List Blk} (hO : OwnSl e sz a n c xs Bs) (hW : Cl w0 (L ++ Bs) W) (ty : TypeId)
    {ad : Addr} {m c2 : Nat} {news : List Value} (hl : news.length = m * sz) (hnews : ∀ j u, news[j]? = some u → W.cell? (ad.add j) = some u) (h1 : ∀ u ∈ news, u.oneCell' = true) (b1 : n + m ≤ maxLen) (b2 : (n + m) * bytes ≤ 140737488355328) :
    ∃ a' c' Bs' W', (Builtin.append_ #[t, t] ty #[.slice a n c, .slice (some ad) m c2]).run P W = .ok (.slice a' (n + m) c') W' ∧ OwnSl e sz a' (n + m) c' (xs ++ news) Bs' ∧ Cl w0 (L ++ Bs') W' := by
  obtain ⟨i, z, hi, hz, hsz, hby, hzs⟩ := hE.info
  obtain ⟨hlen, hO⟩ := hO
  have hlen2 : (xs ++ news).length = (n + m) * sz := by rw [List.length_append, hlen, hl, Nat.add_mul]
  have hWL : Cl w0 L W := hW.sub (List.sublist_append_left L Bs)
  -- what a new row looks like
  have fresh : ∀ (v' : Value) (W' : World), W'.ownsRow W.heap.size e sz v' (n + m) (xs ++ news) → W.grownBy W' none → v' ≠ .slice none 0 0 →
      ∃ a' c' Bs', v' = .slice a' (n + m) c' ∧ OwnSl e sz a' (n + m) c' (xs ++ news) Bs' ∧ Cl w0 (L ++ Bs') W' := by
    intro v' W' hr hg hne
    rcases hr.2 with ⟨h, _⟩ | ⟨g, cap, cur, hv, hbg, hcell, hnc, hcm, hcs, htake⟩
    · exact absurd h hne
    · refine ⟨some ⟨g, 0, none⟩, cap, [⟨g, cur.toList, e⟩], hv, ⟨hlen2, .inr ⟨g, cur.toList, rfl, rfl, hnc, hcm, by simpa using hcs, htake⟩⟩, ?_⟩
      refine hWL.beside ⟨⟨hg.os, hg.tape, hg.output, hg.size, fun k hk => hg.block k hk (by simp)⟩, ?_, ?_, by simp, fun k o hk _ => (hg.block k (Array.getElem?_eq_some_iff.1 hk).1 (by simp)).trans hk⟩
      · intro x hx
        obtain rfl : x = ⟨g, cur.toList, e⟩ := by simpa using hx
        simpa using hcell
      · intro x hx
        obtain rfl : x = ⟨g, cur.toList, e⟩ := by simpa using hx
        exact hbg
  rcases hO with ⟨rfl, rfl, rfl, rfl⟩ | ⟨g, cur, rfl, rfl, hnc, hcm, hcl, htake⟩
  · have hx : xs = [] := List.eq_nil_of_length_eq_zero (by simpa using hlen)
    subst hx
    by_cases hm : m = 0
    · subst hm
      have hn : news = [] := List.eq_nil_of_length_eq_zero (by simpa using hl)
      subst hn
      refine ⟨none, 0, [], W, ?_, OwnSl.nil e sz, hW⟩
      simp [Builtin.append_, run_underlying hE.u, sizeOf, typeInfo, hi, Builtin.lenOf, Builtin.firstCells, loadCells, loadCellsFrom]
    · obtain ⟨v', W', hrun, hr, hg, hnil⟩ := run_append_own (P := P) W W.heap.size t ty e i z sz bytes hE.u hi hz hsz hby hzs hE.pos (.slice none 0 0) 0 [] (World.ownsRow_nil W _ e sz) ad m c2 news hl hnews h1 b1 b2 (Nat.le_refl _)
      obtain ⟨a', c', Bs', rfl, h3, h4⟩ := fresh v' W' hr (by simpa [Value.ownBlock] using hg) (fun h => by have := hnil.1 h; omega)
      exact ⟨a', c', Bs', W', hrun, h3, h4⟩
  · have hgW : W.heap[g]? = some (.cells cur.toArray e (0, 0)) := hW.holds ⟨g, cur, e⟩ (by simp)
    by_cases hroom : n + m ≤ c
    · subst hsz
      have hfit : n * i.size + news.length ≤ cur.toArray.size := by
        rw [hl, ← Nat.add_mul]; simp only [List.size_toArray]; rw [hcl]; exact Nat.mul_le_mul_right _ hroom
      have hr := run_append_room (P := P) W t ty e i hE.u hi g n c cur.toArray hgW ad m c2 news hl hnews h1 hroom hfit
      have hrow := hW.setRow (x := ⟨g, cur, e⟩) L.length (by simp) (cur.take (n * i.size) ++ news ++ cur.drop (n * i.size + news.length))
      refine ⟨some ⟨g, 0, none⟩, c, [⟨g, cur.take (n * i.size) ++ news ++ cur.drop (n * i.size + news.length), e⟩], _, hr, ⟨hlen2, .inr ⟨g, _, rfl, rfl, hroom, hcm, ?_, ?_⟩⟩, ?_⟩
      · have hfit' : n * i.size + news.length ≤ cur.length := by simpa using hfit
        simp only [List.length_append, List.length_take, List.length_drop]; omega
      · rw [htake]; exact List.take_left' hlen2
      · simpa [List.set_append_right] using hrow
    · have hlo : xs.length = n * sz := hlen
      have holds : ∀ j u, xs[j]? = some u → W.cell? ((⟨g, 0, none⟩ : Addr).add j) = some u := by
        intro j u hu
        rw [cells_of hgW]
        rw [← htake, List.getElem?_take] at hu
        split at hu
        · simpa using hu
        · cases hu
      obtain ⟨v', W', hrun, hr, hg⟩ := run_append_arg_grows (P := P) W t ty e i z sz bytes hE.u hi hz hsz hby hzs hE.pos ⟨g, 0, none⟩ n c xs hlo holds ad m c2 news hl hnews (by omega) b1 b2
      obtain ⟨a', c', Bs', rfl, h3, h4⟩ := fresh v' W' hr hg (fun h => by
        rcases hr.2 with ⟨_, h0⟩ | ⟨g, cap, _, hv, _⟩
        · omega
        · rw [hv] at h; cases h)
      exact ⟨a', c', Bs', W', hrun, h3, h4⟩

theorem own_append_none {w0 : Base} {W : World} {t e : TypeId} {sz bytes : Nat} (hE : TyE P t e sz bytes) {a : Option Addr} {n c : Nat} {xs : List Value} {L Bs : List Blk} (hO : OwnSl e sz a n c xs Bs) (hW : Cl w0 (L ++ Bs) W) (ty : TypeId) :
    (Builtin.append_ #[t, t] ty #[.slice a n c, .slice none 0 0]).run P W = .ok (.slice a n c) W := by
  obtain ⟨i, z, hi, hz, hsz, hby, hzs⟩ := hE.info
  refine run_append_owned_none (P := P) W w0.w.heap.size t ty e i sz hE.u hi (.slice a n c) n xs ⟨hO.1, ?_⟩
  rcases hO.2 with ⟨rfl, rfl, rfl, rfl⟩ | ⟨g, cur, rfl, rfl, hnc, hcm, hcl, htake⟩
  · exact .inl ⟨rfl, rfl⟩
  · exact .inr ⟨g, c, cur.toArray, rfl, hW.own ⟨g, cur, e⟩ (by simp), hW.holds ⟨g, cur, e⟩ (by simp), hnc, hcm, by simpa using hcl, htake⟩

/-- a slice of one-cell elements that reads as this list -/
def Rd (w : World) (a : Option Addr) (xs : List Value) : Prop := ∀ j u, xs[j]? = some u → ∃ b i, a = some ⟨b, i, none⟩ ∧ w.cell? ⟨b, i + j, none⟩ = some u

theorem cell_past {w W : World} (hb : Below w.heap.size w W) {a : Addr} {v : Value} (h : w.cell? a = some v) : W.cell? a = some v :=
  (hb.cell (block_lt_of_cell h)).trans h
theorem Rd.past {w W : World} {a : Option Addr} {xs : List Value} (h : Rd w a xs) (hb : Below w.heap.size w W) : Rd W a xs := fun j u hu => by
  obtain ⟨b, i, ha, hc⟩ := h j u hu
  exact ⟨b, i, ha, cell_past hb hc⟩
theorem Rd.nil (w : World) (a : Option Addr) : Rd w a [] := fun j u hu => by simp at hu
theorem Rd.some {w : World} {a : Option Addr} {xs : List Value} (h : Rd w a xs) (hn : 0 < xs.length) : ∃ b i, a = some ⟨b, i, none⟩ ∧ ∀ j u, xs[j]? = some u → w.cell? ⟨b, i + j, none⟩ = some u := by
  obtain ⟨b, i, ha, _⟩ := h 0 xs[0] (by simp [hn])
  refine ⟨b, i, ha, fun j u hu => ?_⟩
  obtain ⟨b', i', ha', hc⟩ := h j u hu
  rw [ha] at ha'
  simp only [Option.some.injEq, Addr.mk.injEq, and_true] at ha'
  obtain ⟨rfl, rfl⟩ := ha'
  exact hc
/-- a part of a block that is known -/
theorem Cl.rd {w0 : Base} {W : World} {L : List Blk} (h : Cl w0 L W) (p : Nat) {g : Nat} {cs vs : List Value} {ty : TypeId} (hp : L[p]? = some ⟨g, cs, ty⟩) (i n : Nat) (hv : (cs.drop i).take n = vs) : Rd W (some ⟨g, i, none⟩) vs := fun j u hu => by
  refine ⟨g, i, rfl, ?_⟩
  rw [cell_at (h.at p hp)]
  subst hv
  rw [List.getElem?_take] at hu
  split at hu
  · rwa [List.getElem?_drop] at hu
  · cases hu
theorem OwnSl.rd {w0 : Base} {W : World} {e : TypeId} {a : Option Addr} {n c : Nat} {xs : List Value} {L Bs : List Blk} (hO : OwnSl e 1 a n c xs Bs) (hW : Cl w0 (L ++ Bs) W) : Rd W a xs := by
  rcases hO.2 with ⟨rfl, rfl, rfl, rfl⟩ | ⟨g, cur, rfl, rfl, hnc, hcm, hcl, htake⟩
  · have : xs = [] := List.eq_nil_of_length_eq_zero (by simpa using hO.1)
    subst this; exact Rd.nil _ _
  · exact hW.rd (g := g) (cs := cur) (ty := e) L.length (by simp) 0 (n * 1) (by simpa using htake)

/-- what a call hands back, beside memory of its own -/
def GivesX (P : Program) (f : FuncId) (args : Array Value) (Pre : World → Prop) (X : Value → List Blk → Prop) : Prop :=
  ∀ w, Pre w → Calls P f args w fun e w' => ∃ v Bs, e = .returned v ∧ X v Bs ∧ Cl (base w) Bs w'
/-- a call that only reads what lay there, and hands back this value -/
def GivesR (P : Program) (f : FuncId) (args : Array Value) (Pre : World → Prop) (v : Value) : Prop :=
  ∀ w, Pre w → Calls P f args w fun e w' => e = .returned v ∧ Below w.heap.size w w'
/-- a slice in new memory -/
def NewSl (e : TypeId) (sz n : Nat) (xs : List Value) (v : Value) (Bs : List Blk) : Prop := ∃ a c, v = .slice a n c ∧ OwnSl e sz a n c xs Bs

variable {ops : Array Oper} {Q : Exit → Act → World → Prop} {bs : List Value} {us : List (Nat × Value)} {ds : List Deferred} {w0 : Base} {W : World} {rest : List Oper} {o : Oper} {L Bs : List Blk} {d : Nat} {v : Value} {r : Option (Option Nat)} {m : Nat}

theorem run_append_op {s x : Operand} {t : TypeId} {u y : Value} {W' : World} (ho : o.op = .call { callee := .builtin .append, args := #[s, x], argTypes := #[t, t] }) (hs : ev bs us s = u) (hx : ev bs us x = y)
    (h : (Builtin.append_ #[t, t] o.type #[u, y]).run P W = .ok v W') : (execOp (ev bs us) o).run P W = .ok (.value v) W' := by
  unfold execOp
  simp [ho, resolve, invoke, builtin, hs, hx, h]

theorem l_append {t e : TypeId} {sz bytes : Nat} (hE : TyE P t e sz bytes) {a : Option Addr} {n c : Nat} {xs : List Value} (hO : OwnSl e sz a n c xs Bs) (hW : Cl w0 (L ++ Bs) W)
    {s x : Operand} {ad : Addr} {k c2 : Nat} {news : List Value} {N : Nat} (hN : n + k = N) (hg : o.guard = none) (ho : o.op = .call { callee := .builtin .append, args := #[s, x], argTypes := #[t, t] }) (hs : ev bs us s = .slice a n c) (hx : ev bs us x = .slice (some ad) k c2) (hd : o.dst = some d)
    (hl : news.length = k * sz) (hnews : ∀ j u, news[j]? = some u → W.cell? (ad.add j) = some u) (h1 : ∀ u ∈ news, u.oneCell' = true) (b1 : N ≤ maxLen) (b2 : N * bytes ≤ 140737488355328)
    (h : ∀ a' c' Bs' W', OwnSl e sz a' N c' (xs ++ news) Bs' → Cl w0 (L ++ Bs') W' → LW r m P ops Q rest (fr bs ((d, .slice a' N c') :: us) ds) W') : LW r m P ops Q (o :: rest) (fr bs us ds) W := by
  subst hN
  obtain ⟨a', c', Bs', W', hrun, h3, h4⟩ := own_append hE hO hW o.type hl hnews h1 b1 b2
  exact l_run hg (run_append_op ho hs hx hrun) hd (h a' c' Bs' W' h3 h4)
/-- what is appended is a whole block of the call's own -/
theorem l_appendB {t e : TypeId} {sz bytes : Nat} (hE : TyE P t e sz bytes) {a : Option Addr} {n c : Nat} {xs : List Value} (hO : OwnSl e sz a n c xs Bs) (hW : Cl w0 (L ++ Bs) W) (p : Nat)
    {s x : Operand} {g k c2 : Nat} {news : List Value} {ty : TypeId} {N : Nat} (hN : n + k = N) (hg : o.guard = none) (ho : o.op = .call { callee := .builtin .append, args := #[s, x], argTypes := #[t, t] }) (hs : ev bs us s = .slice a n c) (hx : ev bs us x = .slice (some ⟨g, 0, none⟩) k c2) (hd : o.dst = some d)
    (hp : (L ++ Bs)[p]? = some ⟨g, news, ty⟩) (hl : news.length = k * sz) (h1 : ∀ u ∈ news, u.oneCell' = true) (b1 : N ≤ maxLen) (b2 : N * bytes ≤ 140737488355328)
    (h : ∀ a' c' Bs' W', OwnSl e sz a' N c' (xs ++ news) Bs' → Cl w0 (L ++ Bs') W' → LW r m P ops Q rest (fr bs ((d, .slice a' N c') :: us) ds) W') : LW r m P ops Q (o :: rest) (fr bs us ds) W :=
  l_append hE hO hW hN hg ho hs hx hd hl (fun j u hu => by rw [cells_of (hW.at p hp)]; simpa using hu) h1 b1 b2 h
/-- what is appended is read (one-cell elements) -/
theorem l_appendR {t e : TypeId} {bytes : Nat} (hE : TyE P t e 1 bytes) {a : Option Addr} {n c : Nat} {xs : List Value} (hO : OwnSl e 1 a n c xs Bs) (hW : Cl w0 (L ++ Bs) W)
    {s x : Operand} {ax : Option Addr} {k c2 : Nat} {news : List Value} (hr : Rd W ax news) {N : Nat} (hN : n + k = N) (hg : o.guard = none) (ho : o.op = .call { callee := .builtin .append, args := #[s, x], argTypes := #[t, t] }) (hs : ev bs us s = .slice a n c) (hx : ev bs us x = .slice ax k c2) (hd : o.dst = some d)
    (hl : news.length = k) (hnil : ax = none → k = 0 ∧ c2 = 0) (h1 : ∀ u ∈ news, u.oneCell' = true) (b1 : N ≤ maxLen) (b2 : N * bytes ≤ 140737488355328)
    (h : ∀ a' c' Bs' W', OwnSl e 1 a' N c' (xs ++ news) Bs' → Cl w0 (L ++ Bs') W' → LW r m P ops Q rest (fr bs ((d, .slice a' N c') :: us) ds) W') : LW r m P ops Q (o :: rest) (fr bs us ds) W := by
  subst hN
  cases ax with
  | none =>
    obtain ⟨rfl, rfl⟩ := hnil rfl
    have hn : news = [] := List.eq_nil_of_length_eq_zero hl
    subst hn
    refine l_run hg (run_append_op ho hs hx (own_append_none hE hO hW o.type)) hd ?_
    have := h a c Bs W (by simpa using hO) hW
    simpa using this
  | some q =>
    refine l_append hE hO hW rfl hg ho hs hx hd (by omega) (fun j u hu => ?_) h1 b1 b2 h
    obtain ⟨b, i, ha, hc⟩ := hr j u hu
    simp only [Option.some.injEq] at ha
    subst ha
    rw [Addr.add_lit]; exact hc

theorem OwnSl.nilOf {e : TypeId} {sz : Nat} {a : Option Addr} {n c : Nat} {xs : List Value} (h : OwnSl e sz a n c xs Bs) : a = none → n = 0 ∧ c = 0 := fun e => by
  rcases h.2 with ⟨_, h1, h2, _⟩ | ⟨g, cur, ha, _⟩
  · exact ⟨h1, h2⟩
  · rw [e] at ha; cases ha
theorem OwnSl.spot {e : TypeId} {sz : Nat} {a : Option Addr} {n c : Nat} {xs : List Value} (h : OwnSl e sz a n c xs Bs) : ∀ q, a = some q → q.spot = none := fun q e => by
  rcases h.2 with ⟨ha, _⟩ | ⟨g, cur, ha, _⟩
  · rw [e] at ha; cases ha
  · rw [e] at ha; cases ha; rfl
theorem OwnSl.row {e : TypeId} {sz : Nat} {a : Option Addr} {n c : Nat} {xs : List Value} (h : OwnSl e sz a n c xs Bs) (hn : 0 < n) : ∃ g cur, a = some ⟨g, 0, none⟩ ∧ Bs = [⟨g, cur, e⟩] ∧ n ≤ c ∧ cur.length = c * sz ∧ cur.take (n * sz) = xs := by
  rcases h.2 with ⟨_, h1, h2, _⟩ | ⟨g, cur, ha, hb, h1, _, h2, h3⟩
  · omega
  · exact ⟨g, cur, ha, hb, h1, h2, h3⟩

/-- what is appended is a slice of the call's own, which is used up -/
theorem l_appendO {t e : TypeId} {bytes : Nat} (hE : TyE P t e 1 bytes) {a : Option Addr} {n c : Nat} {xs : List Value} (hO : OwnSl e 1 a n c xs Bs) {Bs2 : List Blk} {ax : Option Addr} {k c2 : Nat} {news : List Value} (hO2 : OwnSl e 1 ax k c2 news Bs2) (hW : Cl w0 (L ++ Bs ++ Bs2) W)
    {s x : Operand} {N : Nat} (hN : n + k = N) (hg : o.guard = none) (ho : o.op = .call { callee := .builtin .append, args := #[s, x], argTypes := #[t, t] }) (hs : ev bs us s = .slice a n c) (hx : ev bs us x = .slice ax k c2) (hd : o.dst = some d)
    (h1 : ∀ u ∈ news, u.oneCell' = true) (b1 : N ≤ maxLen) (b2 : N * bytes ≤ 140737488355328)
    (h : ∀ a' c' Bs' W', OwnSl e 1 a' N c' (xs ++ news) Bs' → Cl w0 (L ++ Bs') W' → LW r m P ops Q rest (fr bs ((d, .slice a' N c') :: us) ds) W') : LW r m P ops Q (o :: rest) (fr bs us ds) W := by
  have hW2 : Cl w0 ((L ++ Bs2) ++ Bs) W := hW.perm (by
    rw [List.append_assoc, List.append_assoc]; exact List.perm_append_comm.append_left L)
  refine l_appendR hE hO hW2 (hO2.rd hW) hN hg ho hs hx hd (by have := hO2.1; omega) hO2.nilOf h1 b1 b2 fun a' c' Bs' W' h3 h4 => h a' c' Bs' W' h3 (h4.sub ?_)
  rw [List.append_assoc]
  exact (List.sublist_append_right Bs2 Bs').append_left L
theorem OwnSl.cells {w0 : Base} {W : World} {e : TypeId} {a : Option Addr} {n c : Nat} {xs : List Value} {L Bs : List Blk} (hO : OwnSl e 1 a n c xs Bs) (hn : 0 < n) (hW : Cl w0 (L ++ Bs) W) : ∃ g, a = some ⟨g, 0, none⟩ ∧ ∀ j u, xs[j]? = some u → W.cell? ⟨g, 0 + j, none⟩ = some u := by
  obtain ⟨g, cur, rfl, rfl, _, _, ht⟩ := hO.row hn
  refine ⟨g, rfl, fun j u hu => ?_⟩
  obtain ⟨b, i, ha, hc⟩ := hO.rd hW j u hu
  simp only [Option.some.injEq, Addr.mk.injEq, and_true] at ha
  obtain ⟨rfl, rfl⟩ := ha
  exact hc

theorem take_get {cur xs : List Value} {n i : Nat} (ht : cur.take n = xs) (h : xs[i]? = some v) : cur[i]? = some v := by
  subst ht
  rw [List.getElem?_take] at h
  split at h
  · exact h
  · cases h

/-- one less than a number -/
def im1 : Nat → Int
  | 0 => -1
  | n + 1 => n
theorem im1_dec {n : Nat} (h : n < 4294967296) : IntKind.i64.wrap ((n : Int) - 1) = im1 n := by
  cases n with
  | zero => rfl
  | succ m =>
    rw [show ((m + 1 : Nat) : Int) - 1 = (m : Int) by omega]
    exact wrap64_nat m (by omega)

/-- a slice written out: '[]T{..}' of one-cell elements, or the row of an append -/
theorem run_buildSlice1 {t e : TypeId} (ht : P.underlying t = some (.slice e)) (hz : TyC P e) {z : Value} (hzz : TyZ P e z) (x : Value) (hx : x.oneCell' = true) (w : World) :
    (Instr.buildSlice t 1 #[(0, x)]).run P w = .ok (.slice (some ⟨w.heap.size, 0, none⟩) 1 1) (w.alloc (.cells #[x] e)) := by
  have hxc : x.cells = #[x] := by cases x <;> first | rfl | simp [Value.oneCell'] at hx
  have hr : Array.range 1 = #[0] := rfl
  simp [Instr.buildSlice, run_underlying ht, hz.size, hzz w, Instr.fill, hxc, newRow, hr]
theorem l_buildSlice1 (hW : Cl w0 L W) {t e : TypeId} (ht : P.underlying t = some (.slice e)) (hz : TyC P e) {z : Value} (hzz : TyZ P e z) {x : Operand} (hg : o.guard = none) (ho : o.op = .buildSlice t 1 #[(0, x)]) (hx : ev bs us x = v) (hv : v.oneCell' = true) (hd : o.dst = some d)
    (h : ∀ g W', Cl w0 (⟨g, [v], e⟩ :: L) W' → LW r m P ops Q rest (fr bs ((d, .slice (some ⟨g, 0, none⟩) 1 1) :: us) ds) W') : LW r m P ops Q (o :: rest) (fr bs us ds) W := by
  refine l_run (W' := W.alloc (.cells #[v] e)) hg ?_ hd (h _ _ (hW.alloc [v] e))
  have := run_buildSlice1 ht hz hzz v hv W
  unfold execOp
  simp [ho, hx, this]

/-- a call that hands back memory of its own -/
theorem l_callX (hW : Cl w0 L W) {f : FuncId} {xs : Array Operand} {ts : Array TypeId} {args : List Value} {Pre : World → Prop} {X : Value → List Blk → Prop} (hgv : GivesX P f args.toArray Pre X) (he : Enters P f) (hp : Pre W) (hg : o.guard = none) (ho : o.op = .call { callee := .value (.func f), args := xs, argTypes := ts }) (ha : xs.toList.map (ev bs us) = args) (hd : o.dst = some d)
    (h : ∀ v Bs W', X v Bs → Cl w0 (L ++ Bs) W' → LW r m P ops Q rest (fr bs ((d, v) :: us) ds) W') : LW r m P ops Q (o :: rest) (fr bs us ds) W :=
  l_enter hg (run_call he ho ha) hd ((hgv W hp).mono fun _ w ⟨v, Bs, he, hx, hc⟩ => ⟨v, he, h v Bs w hx (hW.beside hc)⟩)
theorem l_callR (hW : Cl w0 L W) {f : FuncId} {xs : Array Operand} {ts : Array TypeId} {args : List Value} {Pre : World → Prop} (hgv : GivesR P f args.toArray Pre v) (he : Enters P f) (hp : Pre W) (hg : o.guard = none) (ho : o.op = .call { callee := .value (.func f), args := xs, argTypes := ts }) (ha : xs.toList.map (ev bs us) = args) (hd : o.dst = some d)
    (h : ∀ W', Cl w0 L W' → LW r m P ops Q rest (fr bs ((d, v) :: us) ds) W') : LW r m P ops Q (o :: rest) (fr bs us ds) W :=
  l_enter hg (run_call he ho ha) hd ((hgv W hp).mono fun _ w ⟨he, hb⟩ => ⟨v, he, h w (hW.past hb)⟩)
theorem y_callR {S : List Nat} {ks : List Kd} {ms : List Mk} {V : List (List Value)} {R : Act → St → Prop} {T : List Oper → Act → St → Prop} {f : FuncId} {xs : Array Operand} {ts : Array TypeId} {args : List Value} {Pre : World → Prop} (hgv : GivesR P f args.toArray Pre v) (he : Enters P f) (hp : ∀ L2 w, Sim S L L2 → Cl w0 L2 w → Pre w) (hw : Region.wanted o (yielded ops (fr bs us ds).tmps) = true) (ho : o.op = .call { callee := .value (.func f), args := xs, argTypes := ts }) (ha : xs.toList.map (ev bs us) = args) (hd : o.dst = some d)
    (h : lx P ops w0 S ms R T ks rest (fr bs ((d, v) :: us) ds) (L, V)) : lx P ops w0 S ms R T (.q :: ks) (o :: rest) (fr bs us ds) (L, V) := by
  refine ⟨v, (L, V), ⟨fun L2 hs => .inl ⟨hw, fun w hC => ?_⟩, rfl⟩, by simp only [putK, hd, put_st]; exact h⟩
  unfold Oper.quietAt
  rw [eval_ev, run_call he ho ha w]
  exact ⟨rfl, (hgv w (hp L2 w hs hC)).mono fun e w' ⟨he, hb⟩ => ⟨he, hC.past hb⟩⟩
/-- a call that hands back memory of its own, among operations that change places -/
theorem y_callX (i : Nat) {S : List Nat} {ks : List Kd} {ms : List Mk} {V : List (List Value)} {R : Act → St → Prop} {T : List Oper → Act → St → Prop} {f : FuncId} {xs : Array Operand} {ts : Array TypeId} {args : List Value} {Pre : World → Prop} {X : Value → List Blk → Prop} (hgv : GivesX P f args.toArray Pre X) (he : Enters P f)
    (hk : ms[i]? = some ⟨d, fun _ => X⟩) {z : List Value} (hV : V[i]? = some z) (hp : ∀ L2 w, Sim S L L2 → Cl w0 L2 w → Pre w) (ho : o.op = .call { callee := .value (.func f), args := xs, argTypes := ts }) (ha : xs.toList.map (ev bs us) = args)
    (h : lx P ops w0 S ms R T ks rest (fr bs us ds) (L, V)) : lx P ops w0 S ms R T (.mk i :: ks) (o :: rest) (fr bs us ds) (L, V) := by
  refine ⟨undef, (L, V), ⟨rfl, rfl, _, z, hk, hV, fun L2 hs w hC => .inr ⟨f, args.toArray, ?_, ?_⟩⟩, h⟩
  · rw [eval_ev]; exact run_call he ho ha w
  · exact (hgv w (hp L2 w hs hC)).mono fun e w' ⟨v, Bs, he, hx, hc⟩ => ⟨v, he, Bs, hx, hC.beside hc⟩

/-- a call that looks at what a maker has made -/
theorem y_callRd (i : Nat) {S : List Nat} {ks : List Kd} {ms : List Mk} {V : List (List Value)} {R : Act → St → Prop} {T : List Oper → Act → St → Prop} {f : FuncId} {xs : Array Operand} {ts : Array TypeId} {k : Mk} {z : List Value} (hk : ms[i]? = some k) (hV : V[i]? = some z)
    (hgv : ∀ u Bs, k.X z u Bs → ∃ args Pre, GivesR P f (List.toArray args) Pre v ∧ (∀ M w, Cl w0 (M ++ Bs) w → Pre w) ∧ xs.toList.map (ev bs ((k.d, u) :: us)) = args) (he : Enters P f) (hg : o.guard = none) (ho : o.op = .call { callee := .value (.func f), args := xs, argTypes := ts }) (hd : o.dst = some d)
    (h : lx P ops w0 S ms R T ks rest (fr bs ((d, v) :: us) ds) (L, V)) : lx P ops w0 S ms R T (.rd i :: ks) (o :: rest) (fr bs us ds) (L, V) := by
  refine ⟨v, (L, V), ⟨rfl, k, z, hk, hV, fun u Bs L2 hs hX => .inl ⟨wanted_none hg, fun w hC => ?_⟩⟩, by simp only [putK, hd, put_st]; exact h⟩
  obtain ⟨args, Pre, hG, hP, ha⟩ := hgv u Bs hX
  unfold Oper.quietAt
  rw [put_st, eval_ev, run_call he ho ha w]
  exact ⟨rfl, (hG w (hP L2 w hC)).mono fun e w' ⟨he, hb⟩ => ⟨he, hC.past hb⟩⟩
/-- a load of what lay there before the call -/
theorem l_loadF (hW : Cl w0 L W) {t : TypeId} (ht : TyC P t) {x : Operand} {b i : Nat} (hc : w0.w.cell? ⟨b, i, none⟩ = some v) (hg : o.guard = none) (ho : o.op = .load t x) (hx : ev bs us x = .pointer (some ⟨b, i, none⟩)) (hd : o.dst = some d)
    (h : LW r m P ops Q rest (fr bs ((d, v) :: us) ds) W) : LW r m P ops Q (o :: rest) (fr bs us ds) W := by
  refine l_run hg ?_ hd h
  have hc' := cell_past hW.below hc
  unfold execOp
  simp [ho, hx, Instr.loadAt, Instr.sureAddr, loadVar, ht.agg W, hc']
theorem y_loadF {S : List Nat} {ks : List Kd} {ms : List Mk} {V : List (List Value)} {R : Act → St → Prop} {T : List Oper → Act → St → Prop} {t : TypeId} (ht : TyC P t) {x : Operand} {b i : Nat} (hc : w0.w.cell? ⟨b, i, none⟩ = some v) (hw : Region.wanted o (yielded ops (fr bs us ds).tmps) = true) (ho : o.op = .load t x) (hx : ev bs us x = .pointer (some ⟨b, i, none⟩)) (hd : o.dst = some d)
    (h : lx P ops w0 S ms R T ks rest (fr bs ((d, v) :: us) ds) (L, V)) : lx P ops w0 S ms R T (.q :: ks) (o :: rest) (fr bs us ds) (L, V) :=
  ⟨v, (L, V), ⟨fun L2 _ => yields_run hw fun w hC => by
    rw [eval_ev]
    have hc' := cell_past hC.below hc
    unfold execOp
    simp [ho, hx, Instr.loadAt, Instr.sureAddr, loadVar, ht.agg w, hc'], rfl⟩, by simp only [putK, hd, put_st]; exact h⟩

theorem r_indexAddrSl2 {t e : Nat} {x y : Operand} {g i len c : Nat} {k : IntKind} {n : Nat} (ht : P.underlying t = some (.slice e)) (hz : ∀ w, (sizeOf e).run P w = .ok 1 w) (ho : o.op = .indexAddr t x y)
    (hx : ev bs us x = .slice (some ⟨g, i, none⟩) len c) (hy : ev bs us y = .int k (n : Int)) (hn : n < len) : Runs P bs us o (.pointer (some ⟨g, i + n, none⟩)) := by
  have := r_indexAddrSl ht hz ho hx hy hn
  simpa using this

/-! ### slice expressions -/
theorem r_sliceArrTo {t n e h g i : Nat} {k : IntKind} {x y : Operand} (ht : P.underlying t = some (.array n e)) (hz : ∀ w, (sizeOf e).run P w = .ok 1 w) (ho : o.op = .slice t x none (some y) none)
    (hx : ev bs us x = .pointer (some ⟨g, i, none⟩)) (hy : ev bs us y = .int k (h : Int)) (hn : h ≤ n) : Runs P bs us o (.slice (some ⟨g, i, none⟩) h n) := fun w => by
  unfold execOp
  simp [ho, hx, hy, Instr.sliceAt, asIntOf, run_underlying ht, Instr.sureAddr, hz, Addr.add_lit, Instr.sliceBounds, Instr.sliceBound, hn]
theorem r_sliceArrFrom {t n e l g i : Nat} {k : IntKind} {x y : Operand} (ht : P.underlying t = some (.array n e)) (hz : ∀ w, (sizeOf e).run P w = .ok 1 w) (ho : o.op = .slice t x (some y) none none)
    (hx : ev bs us x = .pointer (some ⟨g, i, none⟩)) (hy : ev bs us y = .int k (l : Int)) (hn : l < n) : Runs P bs us o (.slice (some ⟨g, i + l, none⟩) (n - l) (n - l)) := fun w => by
  unfold execOp
  simp [ho, hx, hy, Instr.sliceAt, asIntOf, run_underlying ht, Instr.sureAddr, hz, Addr.add_lit, Instr.sliceBounds, Instr.sliceBound, Nat.le_of_lt hn, Nat.ne_of_gt hn]
theorem r_sliceArrAll {t n e g i : Nat} {x : Operand} (ht : P.underlying t = some (.array n e)) (hz : ∀ w, (sizeOf e).run P w = .ok 1 w) (ho : o.op = .slice t x none none none)
    (hx : ev bs us x = .pointer (some ⟨g, i, none⟩)) : Runs P bs us o (.slice (some ⟨g, i, none⟩) n n) := fun w => by
  unfold execOp
  simp [ho, hx, Instr.sliceAt, run_underlying ht, Instr.sureAddr, hz, Addr.add_lit, Instr.sliceBounds]
theorem r_sliceSlFrom {t e l g i len c : Nat} {k : IntKind} {x y : Operand} (ht : P.underlying t = some (.slice e)) (hz : ∀ w, (sizeOf e).run P w = .ok 1 w) (ho : o.op = .slice t x (some y) none none)
    (hx : ev bs us x = .slice (some ⟨g, i, none⟩) len c) (hy : ev bs us y = .int k (l : Int)) (hn : l ≤ len) : Runs P bs us o (.slice (some ⟨g, if c = l then i else i + l, none⟩) (len - l) (c - l)) := fun w => by
  unfold execOp
  by_cases hc : c = l
  · simp [ho, hx, hy, Instr.sliceAt, Instr.slice, asIntOf, run_underlying ht, hz, Addr.add_lit, Instr.sliceBounds, Instr.sliceBound, hn, hc]
  · simp [ho, hx, hy, Instr.sliceAt, Instr.slice, asIntOf, run_underlying ht, hz, Addr.add_lit, Instr.sliceBounds, Instr.sliceBound, hn, hc]

/-! ### functions -/
theorem givesR_of {f : FuncId} {fn : Func} {c : Code} {args : List Value} {Pre : World → Prop} (hf : P.funcs[f]? = some fn) (hb : fn.body = some c) (hl : args ++ List.replicate (fn.ntmps - args.length) undef = bs)
    (h : ∀ w, Pre w → Cl (base w) [] w → CW none 0 P c (bodyPost P fn (fun e w' => e = .returned v ∧ Below w.heap.size w w')) (fr bs [] []) w) : GivesR P f args.toArray Pre v := fun w hp => by
  refine calls_of_wp hf hb ?_
  have e : args.toArray ++ Array.replicate (fn.ntmps - args.toArray.size) undef = bs.toArray := by
    rw [← hl]; simp
  rw [e]
  exact h w hp (Cl.nil w)
theorem givesX_of {f : FuncId} {fn : Func} {c : Code} {args : List Value} {Pre : World → Prop} {X : Value → List Blk → Prop} (hf : P.funcs[f]? = some fn) (hb : fn.body = some c) (hl : args ++ List.replicate (fn.ntmps - args.length) undef = bs)
    (h : ∀ w, Pre w → Cl (base w) [] w → CW none 0 P c (bodyPost P fn (fun e w' => ∃ v Bs, e = .returned v ∧ X v Bs ∧ Cl (base w) Bs w')) (fr bs [] []) w) : GivesX P f args.toArray Pre X := fun w hp => by
  refine calls_of_wp hf hb ?_
  have e : args.toArray ++ Array.replicate (fn.ntmps - args.toArray.size) undef = bs.toArray := by
    rw [← hl]; simp
  rw [e]
  exact h w hp (Cl.nil w)
end
end Go.Proofs.Ytoegpalacppllaa
