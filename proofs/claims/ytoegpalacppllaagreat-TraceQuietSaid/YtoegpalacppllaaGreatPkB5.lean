/- The examples of the outright statements hold. -/
import Derived.Test.YtoegpalacppllaaGreatPkB4
/- A trace at work, by the program. -/
namespace Go.Proofs.YtoegpalacppllaaGreat
open Go.RowKit Pl
open Tr Hn
set_option maxRecDepth 10000 in
set_option maxHeartbeats 4000000 in
/-- (*headend/trace.tracer).run -/
theorem g_run (q : Bo) (t : Sl) (gx nn : Nat) (la : Option Addr) (lc : Nat) (l : List (Int × Int)) (BL : List Blk) (hO0 : OwnSl 64 2 la l.length lc (sl2 l) BL) (hs : schB q.s = true) (hu : usersB q.l ((p2 q.s.d.toNat : Nat) : Int) = true) (n0 : 0 ≤ q.n) (n8 : q.n ≤ 8) (x0 : 0 ≤ q.x) (x1 : q.x ≤ q.a) (m1 : 1 ≤ q.m) (m4 : q.m ≤ 4) (hl : q.l.length ≤ 100) (hn : nn ≤ 8) (hb : ∀ i, i < l.length → subB q.s (qn l i) (qm l i) = true) (hnd : (allm q.s l).Nodup) (hlim : q.a + ((((2 * p2 q.s.d.toNat + 1) * ((q.s.d.toNat + 2) * (2 * nn + 1))) : Nat) : Int) ≤ 100000) : GivesS Tryz.prog 62 [.pointer (some ⟨gx, 0, none⟩)].toArray (fun b0 L => ∀ W, Cl b0 L W → RdI W t q.l) ([⟨gx, (boC q t ++ trR nn Sl.no ⟨la, l.length, lc⟩ 0 0), 124⟩] ++ BL) (fun _ B => ∃ (n2 : Sl) (la2 : Option Addr) (lc2 : Nat) (BN BL2 : List Blk), B = (⟨gx, boC (traced (2 * nn + 1) ⟨q, l, [], 0⟩).1.b t ++ trR nn n2 ⟨la2, (traced (2 * nn + 1) ⟨q, l, [], 0⟩).1.l.length, lc2⟩ (traced (2 * nn + 1) ⟨q, l, [], 0⟩).1.a (traced (2 * nn + 1) ⟨q, l, [], 0⟩).2, 124⟩ : Blk) :: (BN ++ BL2) ∧ NewI n2 (traced (2 * nn + 1) ⟨q, l, [], 0⟩).1.nm BN ∧ OwnSl 64 2 la2 (traced (2 * nn + 1) ⟨q, l, [], 0⟩).1.l.length lc2 (sl2 (traced (2 * nn + 1) ⟨q, l, [], 0⟩).1.l) BL2) := by
 refine givesS_of Tryz.func62 rfl (bs := [.pointer (some ⟨gx, 0, none⟩), undef, undef, undef, undef, undef, undef, undef, undef, undef, undef, undef, undef, undef, undef, undef, undef, undef, undef, undef, undef, undef, undef, undef, undef, undef, undef, undef, undef, undef, undef, undef, undef, undef, undef, undef, undef, undef, undef, undef, undef, undef, undef, undef, undef, undef, undef, undef, undef, undef, undef, undef, undef, undef, undef, undef, undef, undef, undef, undef, undef, undef, undef, undef, undef, undef, undef, undef, undef, undef, undef, undef, undef, undef, undef, undef, undef, undef, undef, undef, undef, undef, undef, undef, undef, undef, undef, undef, undef, undef, undef, undef, undef, undef, undef, undef, undef, undef, undef, undef, undef, undef, undef, undef, undef, undef, undef, undef, undef, undef, undef, undef, undef, undef, undef, undef, undef, undef, undef, undef, undef, undef, undef, undef, undef, undef, undef, undef, undef, undef, undef]) rfl ?_
 intro b L w hP hW
 obtain ⟨k1, k3, d0, d6, -⟩ := schB_iff.1 hs
 have hp6 := p2_le (n := q.s.d.toNat) (by omega)
 have hrg : ∀ x ∈ allm q.s l, 0 ≤ x ∧ x < 64 := fun x hx => by
  have := all_lt hx
  omega
 refine c_scope ?_
 refine c_seq ?_
 refine c_label ?_
 refine n_then (c_block ?_)
 refine c_loop (fun (z : TrS) (j : Nat → Value) => [.pointer (some ⟨gx, 0, none⟩), j 1, j 2, j 3, j 4, j 5, j 6, j 7, j 8, j 9, j 10, j 11, j 12, j 13, j 14, j 15, j 16, j 17, j 18, j 19, j 20, j 21, j 22, j 23, j 24, j 25, j 26, j 27, j 28, j 29, j 30, j 31, j 32, j 33, j 34, j 35, j 36, j 37, j 38, j 39, j 40, j 41, j 42, j 43, j 44, j 45, j 46, j 47, j 48, j 49, j 50, j 51, j 52, j 53, j 54, j 55, j 56, j 57, j 58, j 59, j 60, j 61, j 62, j 63, j 64, j 65, j 66, j 67, j 68, j 69, j 70, j 71, j 72, j 73, j 74, j 75, j 76, j 77, j 78, j 79, j 80, j 81, j 82, j 83, j 84, j 85, j 86, j 87, j 88, j 89, j 90, j 91, j 92, j 93, j 94, j 95, j 96, j 97, j 98, j 99, j 100, j 101, j 102, j 103, j 104, j 105, j 106, j 107, j 108, j 109, j 110, j 111, j 112, j 113, j 114, j 115, j 116, j 117, j 118, j 119, j 120, j 121, j 122, j 123, j 124, j 125, j 126, j 127, j 128, j 129, j 130]) (fun (z : TrS) => [⟨gx, (boC z.t.b t ++ trR nn z.n2 ⟨z.la, z.t.l.length, z.lc⟩ z.t.a 0), 124⟩] ++ L ++ z.bn ++ z.bl) (fun (z : TrS) => TrP 64 (2 * nn + 1) q (allm q.s l) ⟨q, l, [], 0⟩ z) (fun (z : TrS) => z.t.pot) (⟨⟨q, l, [], 0⟩, t, [], Sl.no, [], la, lc, BL⟩ : TrS) (by kernel_rfl) (pickI (show Cl _ (([_] ++ BL) ++ L) _ from hW)) ⟨Tin.first hs x0 x1 hb hnd, rfl, NewI.no, hO0⟩ ?_
 intro z j W hx hW
 obtain ⟨ht, heq, hnm, hls⟩ := hx
 have ha := ht.ask
 have e1 := ha.a
 have e2 := ha.n
 have e3 := ha.x0
 have e4 := ha.x1
 have hbs := ha.s
 have hbl := ha.l
 obtain ⟨hlen1, hlen2⟩ := len_le hs hnd ht.part
 have hfit := ht.fit
 rw [Nat.succ_mul] at hfit
 have hK := Nat.add_mul q.s.d.toNat 2 (2 * nn + 1)
 have hst : schB z.t.b.s = true := by rw [hbs]; exact hs
 have hut : usersB z.t.b.l ((p2 z.t.b.s.d.toNat : Nat) : Int) = true := by rw [hbs, hbl]; exact hu
 have hsubs : ∀ i, i < z.t.l.length → subB z.t.b.s (qn z.t.l i) (qm z.t.l i) = true := fun i hi => by rw [hbs]; exact ht.part.sub (qn z.t.l i, qm z.t.l i) (q_mem.2 ⟨i, hi, rfl⟩)
 have hrnd := ht.round hs hnd hrg
 have hnml : z.t.nm.length ≤ 64 := by
  have h1 : z.t.nm.Nodup := (List.nodup_append.1 ((ht.part.perm.nodup_iff).2 hnd)).2.1
  have h2 := List.Nodup.length_le_of_subset (l₂ := (List.range 64).map fun u : Nat => (u : Int)) h1 fun x hx => by
   have := hrg x (ht.part.perm.subset (List.mem_append_right _ hx))
   exact List.mem_map.2 ⟨x.toNat, List.mem_range.2 (by omega), by omega⟩
  simpa using h2
 have e5 := ha.m
 refine c_block (c_seq ?_)
 refine c_regC hW [] [.q, .q, .q, .q, .q, .q, .q, .q, .q, .q, .mk 0, .tail, .tail, .tail, .tail, .tail] [⟨21, fun _ u Bs => ∃ (t : Sl) (ss : List Sl), u = .tuple #[t.v, .int .i64 (subsE z.t.b.s z.t.l)] ∧ (subsE z.t.b.s z.t.l = 0 → Rep Bs fun W => RdG W t ss (mems z.t.b.s z.t.l))⟩] [[]] [10] [0, 1, 3, 7, 15, 0, 32, 96, 224, 480, 1023, 2047, 4095, 4095, 8191, 32767] [] [.q, .q, .q, .q, .q, .q, .q, .q, .q, .q, .q, .q, .q, .q, .q, .q] [] [] [] (by kernel_rfl) (by kernel_rfl) rfl rfl (by kernel_rfl) (by kernel_rfl) ?_
 refine y_val (r_move (v := .pointer _) rfl rfl) rfl rfl ?_
 refine y_val (r_nilCheck rfl rfl) rfl rfl ?_
 refine y_val (r_fieldAddr 0 Tryz.underlying124 rfl tyA31.size rfl rfl rfl) rfl rfl ?_
 refine y_val (r_fieldAddr 0 Tryz.underlying31 rfl tyA26.size rfl rfl rfl) rfl rfl ?_
 refine y_loadP 0 tyA26 rfl rfl rfl rfl rfl (by rw [List.length_append, boC_len]; omega) (show _ = ([.int .u8 z.t.b.s.k, .int .i64 z.t.b.s.d, .int .i64 z.t.b.s.g, .int .u64 z.t.b.s.p, .int .u64 z.t.b.s.q, .int .u64 z.t.b.s.r] : List Value) from rfl) (by decide) ?_
 refine y_val (r_move (v := .pointer _) rfl rfl) rfl rfl ?_
 refine y_val (r_nilCheck rfl rfl) rfl rfl ?_
 refine y_val (r_fieldAddr 29 Tryz.underlying124 rfl tyA38.size rfl rfl rfl) rfl rfl ?_
 refine y_val (r_fieldAddr 30 Tryz.underlying38 rfl tyC33.size rfl rfl rfl) rfl rfl ?_
 refine y_loadC 0 tyC33 rfl rfl rfl rfl rfl rfl (by decide) ?_
 refine y_callX 0 (g_psubsets z.t.b.s z.la z.t.l.length z.lc z.t.l hst (by omega)) en83 rfl rfl (fun L2 w hs hC => hls.repB.at hC ((List.sublist_append_right _ z.bl).trans hs.pre)) rfl rfl ?_
 refine y_tail ?_
 refine y_made ?_
 rintro _ BsS ⟨tS, ss, rfl, hG⟩
 have hz0 : subsE z.t.b.s z.t.l = 0 := subsE_yes (by omega) hsubs
 have hG1 := hG hz0
 refine y_val (r_move (v := .tuple _) rfl rfl) rfl rfl ?_
 refine y_val (r_extract (v := .slice _ _ _) rfl rfl rfl) rfl rfl ?_
 refine y_val (r_extract (v := .int _ _) rfl rfl rfl) rfl rfl ?_
 refine y_val (r_assign (v := .slice _ _ _) rfl rfl) rfl rfl ?_
 refine y_val (r_assign (v := .int _ _) rfl rfl) rfl rfl ?_
 refine y_end ?_
 intro W hW
 replace hW := hW.perm List.perm_append_comm
 refine n_then (c_seq (c_reg ?_))
 refine aP ?_
 refine l_val (r_nilCheck rfl rfl) rfl rfl ?_
 refine l_val (r_fieldAddr 0 Tryz.underlying124 rfl tyA31.size rfl rfl rfl) rfl rfl ?_
 refine l_loadP hW 0 tyA31 rfl rfl rfl rfl rfl (by rw [List.length_append, boC_len]; omega) (boC_boxR _ _ _) ?_
 refine aS ?_
 have hgl : ∀ m ∈ mems z.t.b.s z.t.l, m.length ≤ 4294967296 := fun m hm => by
  obtain ⟨y, -, rfl⟩ := List.mem_map.1 hm
  have h1 := mem_len z.t.b.s y.1 y.2 (p2 z.t.b.s.d.toNat)
  have h2 : p2 z.t.b.s.d.toNat ≤ 64 := by rw [hbs]; exact hp6
  omega
 have htn : tS.n = z.t.l.length := by
  have h1 := (hG1.at hW (List.sublist_append_right _ BsS)).n
  have h2 := (hG1.at hW (List.sublist_append_right _ BsS)).len
  rw [mems_len] at h2; omega
 refine l_callX hW (g_opens z.t.b t tS.a tS.n tS.c ss (mems z.t.b.s z.t.l) (users_pair hut) (by rw [hbl]; exact hl) (by rw [mems_len]; omega) hgl) en85 ⟨by rw [hbl]; exact hP W (hW.sub ((((List.sublist_append_right _ L).trans (List.sublist_append_left _ z.bn)).trans (List.sublist_append_left _ z.bl)).trans (List.sublist_append_left _ BsS))), hG1.at hW (List.sublist_append_right _ BsS)⟩ rfl rfl rfl rfl ?_
 rintro _ BO W ⟨ao, co, rfl, hOO⟩ hW
 have hOT : OwnSl 4 1 ao z.t.l.length co (tl z.t.o) BO := by
  have h := hOO
  rw [mems_len, opl_opens hut] at h
  exact h
 rw [mems_len]
 have hol : z.t.o.length = z.t.l.length := opens_length z.t
 refine bS ?_
 refine l_end (n_then (c_seq (c_seq (c_reg ?_))))
 refine aP ?_
 refine aS ?_
 refine l_callS (B := [_]) (L := ((((L ++ z.bn) ++ z.bl) ++ BsS) ++ BO)) (g_tseen z.t.b t gx nn z.t.a 0 z.n2 ⟨z.la, z.t.l.length, z.lc⟩ ao z.t.l.length co z.t.o 0 (by omega) (by omega) (by omega) (by omega) (by omega) (by omega) hn (by omega) (by omega) (by omega)) (show Cl _ ([_] ++ ((((L ++ z.bn) ++ z.bl) ++ BsS) ++ BO)) _ from hW) en105 (fun W hC => hOT.repT.at hC (List.sublist_append_right _ BO)) rfl rfl rfl rfl ?_
 rintro _ _ W ⟨rfl, rfl⟩ hW
 obtain ⟨r1, hr1⟩ : ∃ r, r = seenN z.t.o 0 (2 * nn + 1) z.t.b z.t.a := ⟨_, rfl⟩
 rw [← hr1] at hW ⊢
 obtain ⟨m1, hm1a, hm1b, hm1c, -⟩ := seenN_run z.t.o 0 (2 * nn + 1) z.t.a ha
 rw [← hr1] at hm1b hm1c
 have ha1 : Askd q r1.1 r1.2.2 := by rw [hm1c]; exact hm1b
 have hsa1 : seenN z.t.o 0 (2 * nn + 1) z.t.b z.t.a = (r1.1, r1.2.1, r1.2.2) := hr1.symm
 have f1a := ha1.a
 have f1n := ha1.n
 have f1m := ha1.m
 have f10 := ha1.x0
 have f11 := ha1.x1
 refine l_split ?_ ?_
 ·intro hc1
  have hpos : 0 < z.t.o.length := seenN_pos (k := 2 * nn + 1) (b := z.t.b) (n := z.t.a) (f := 0) (by rw [← hr1]; exact hc1)
  refine l_val (r_not rfl rfl) rfl rfl ?_
  refine l_end (n_then ?_)
  refine c_false rfl ?_
  refine c_skip (n_then (c_seq (c_reg ?_)))
  refine aS ?_
  refine l_val (r_lenSlice Tryz.underlying155 rfl rfl) rfl rfl ?_
  refine bI ?_
  refine bI ?_
  refine l_end (n_then (c_seq (c_block ?_)))
  refine c_loop (fun (y : Nat × Nat × Bo × Nat) (j : Nat → Value) => [.pointer (some ⟨gx, 0, none⟩), j 1, .slice tS.a tS.n tS.c, .int .i64 (subsE z.t.b.s z.t.l), .slice ao z.t.l.length co, .int .i64 (y.1 : Int), .int .i64 (y.2.1 : Int), j 7, j 8, j 9, .tuple #[.slice tS.a tS.n tS.c, .int .i64 (subsE z.t.b.s z.t.l)], .pointer (some ⟨gx, 0, none⟩), .pointer (some ⟨gx, 0, none⟩), .pointer (some ⟨gx, 0, none⟩), .pointer (some ⟨gx, 0, none⟩), .agg [.int .u8 z.t.b.s.k, .int .i64 z.t.b.s.d, .int .i64 z.t.b.s.g, .int .u64 z.t.b.s.p, .int .u64 z.t.b.s.q, .int .u64 z.t.b.s.r].toArray, .pointer (some ⟨gx, 0, none⟩), .pointer (some ⟨gx, 0, none⟩), .pointer (some ⟨gx, 29, none⟩), .pointer (some ⟨gx, 30, none⟩), .slice z.la z.t.l.length z.lc, .tuple #[.slice tS.a tS.n tS.c, .int .i64 (subsE z.t.b.s z.t.l)], .slice tS.a tS.n tS.c, .int .i64 (subsE z.t.b.s z.t.l), .pointer (some ⟨gx, 0, none⟩), .pointer (some ⟨gx, 0, none⟩), .pointer (some ⟨gx, 0, none⟩), .agg (boC z.t.b t).toArray, .slice tS.a tS.n tS.c, .slice ao z.t.l.length co, .pointer (some ⟨gx, 0, none⟩), .slice ao z.t.l.length co, .bool true, .bool false, j 34, j 35, j 36, j 37, .slice ao z.t.l.length co, .int .i64 (z.t.l.length : Int), j 40, j 41, j 42, j 43, j 44, j 45, j 46, j 47, j 48, j 49, j 50, j 51, j 52, j 53, j 54, j 55, j 56, j 57, j 58, j 59, j 60, j 61, j 62, j 63, j 64, j 65, j 66, j 67, j 68, j 69, j 70, j 71, j 72, j 73, j 74, j 75, j 76, j 77, j 78, j 79, j 80, j 81, j 82, j 83, j 84, j 85, j 86, j 87, j 88, j 89, j 90, j 91, j 92, j 93, j 94, j 95, j 96, j 97, j 98, j 99, j 100, j 101, j 102, j 103, j 104, j 105, j 106, j 107, j 108, j 109, j 110, j 111, j 112, j 113, j 114, j 115, j 116, j 117, j 118, j 119, j 120, j 121, j 122, j 123, j 124, j 125, j 126, j 127, j 128, j 129, j 130]) (fun (y : Nat × Nat × Bo × Nat) => [⟨gx, (boC y.2.2.1 t ++ trR nn z.n2 ⟨z.la, z.t.l.length, z.lc⟩ y.2.2.2 0), 124⟩] ++ ((((L ++ z.bn) ++ z.bl) ++ BsS) ++ BO)) (fun (y : Nat × Nat × Bo × Nat) => y.1 < y.2.1 ∧ y.2.1 ≤ z.t.o.length ∧ (∃ j, y.2.1 - y.1 ≤ p2 j ∧ y.2.2.2 + j * (2 * nn + 1) ≤ r1.2.2 + q.s.d.toNat * (2 * nn + 1)) ∧ Askd q y.2.2.1 y.2.2.2 ∧ searchN z.t.o (2 * nn + 1) z.t.o.length 0 z.t.o.length r1.1 r1.2.2 = searchN z.t.o (2 * nn + 1) (y.2.1 - y.1) y.1 y.2.1 y.2.2.1 y.2.2.2) (fun (y : Nat × Nat × Bo × Nat) => y.2.1 - y.1) (0, z.t.l.length, r1.1, r1.2.2) (by kernel_rfl) (show Cl _ ([_] ++ ((((L ++ z.bn) ++ z.bl) ++ BsS) ++ BO)) _ from hW) ⟨by simp only; omega, by simp only; omega, ⟨q.s.d.toNat, by simp only; omega, by simp only; omega⟩, ha1, by simp only [Nat.sub_zero, opens_length]⟩ ?_
  intro y j W hx hW
  obtain ⟨hlo, hhi, ⟨j, hj1, hj2⟩, hay, hsr⟩ := hx
  have g1 := hay.a
  have g2 := hay.n
  have g3 := hay.x0
  have g4 := hay.x1
  have g5 := hay.m
  refine c_seq (c_seq (c_reg ?_))
  refine aI ?_
  refine aI ?_
  refine l_val (r_subN rfl rfl rfl (by omega) (by omega)) rfl rfl ?_
  refine l_val (r_gtrN (n := 1) rfl rfl rfl rfl) rfl rfl ?_
  refine l_split ?_ ?_
  ·intro hc2
   replace hc2 := of_decide_eq_true hc2
   obtain ⟨jj, rfl⟩ : ∃ jj, j = jj + 1 := ⟨j - 1, by
    cases j with
    | zero => simp only [p2] at hj1; omega
    | succ j => rfl⟩
   rw [p2] at hj1
   rw [Nat.succ_mul] at hj2
   refine l_end (n_then ?_)
   refine c_true rfl ?_
   refine c_skip (n_then (c_block (c_seq (c_reg ?_))))
   refine aI ?_
   refine aI ?_
   refine l_val (r_addN rfl rfl rfl (by omega)) rfl rfl ?_
   refine l_val (r_quoN (n := 2) rfl rfl rfl (by omega) (by omega)) rfl rfl ?_
   refine bI ?_
   refine l_end (n_then (c_seq (c_reg ?_)))
   refine aP ?_
   refine aS ?_
   refine aI ?_
   refine l_callS (B := [_]) (L := ((((L ++ z.bn) ++ z.bl) ++ BsS) ++ BO)) (g_tseen y.2.2.1 t gx nn y.2.2.2 0 z.n2 ⟨z.la, z.t.l.length, z.lc⟩ ao z.t.l.length co z.t.o (((y.1 + y.2.1) / 2 : Nat) : Int) (by omega) (by omega) (by omega) (by omega) (by omega) (by omega) hn (by omega) (by omega) (by omega)) (show Cl _ ([_] ++ ((((L ++ z.bn) ++ z.bl) ++ BsS) ++ BO)) _ from hW) en105 (fun W hC => hOT.repT.at hC (List.sublist_append_right _ BO)) rfl rfl rfl rfl ?_
   rintro _ _ W ⟨rfl, rfl⟩ hW
   obtain ⟨r2, hr2⟩ : ∃ r, r = seenN z.t.o (((y.1 + y.2.1) / 2 : Nat) : Int) (2 * nn + 1) y.2.2.1 y.2.2.2 := ⟨_, rfl⟩
   rw [← hr2] at hW ⊢
   obtain ⟨m2, hm2a, hm2b, hm2c, -⟩ := seenN_run z.t.o (((y.1 + y.2.1) / 2 : Nat) : Int) (2 * nn + 1) y.2.2.2 hay
   rw [← hr2] at hm2b hm2c
   have ha2 : Askd q r2.1 r2.2.2 := by rw [hm2c]; exact hm2b
   have hsa2 : seenN z.t.o (((y.1 + y.2.1) / 2 : Nat) : Int) (2 * nn + 1) y.2.2.1 y.2.2.2 = (r2.1, r2.2.1, r2.2.2) := hr2.symm
   have f2a := ha2.a
   have f2n := ha2.n
   have f2m := ha2.m
   have f20 := ha2.x0
   have f21 := ha2.x1
   refine l_split ?_ ?_
   ·intro hc3
    refine l_end (n_then ?_)
    refine c_true rfl ?_
    refine c_reg ?_
    refine aI ?_
    refine bI ?_
    refine l_end (n_block (n_then ?_))
    exact loop_next ((y.1 + y.2.1) / 2, y.2.1, r2.1, r2.2.2) (by kernel_rfl) hW ⟨by simp only; omega, by simp only; omega, ⟨jj, by simp only; omega, by simp only; omega⟩, ha2, by simp only; rw [hsr, show y.2.1 - y.1 = (y.2.1 - y.1 - 1) + 1 by omega, searchN_yes (by omega) (hsa2.trans (by rw [hc3]))]; exact searchN_fuel (by omega) (by omega)⟩ (by simp only; omega)
   ·intro hc3
    refine l_end (n_then ?_)
    refine c_false rfl ?_
    refine c_reg ?_
    refine aI ?_
    refine bI ?_
    refine l_end (n_block (n_then ?_))
    exact loop_next (y.1, (y.1 + y.2.1) / 2, r2.1, r2.2.2) (by kernel_rfl) hW ⟨by simp only; omega, by simp only; omega, ⟨jj, by simp only; omega, by simp only; omega⟩, ha2, by simp only; rw [hsr, show y.2.1 - y.1 = (y.2.1 - y.1 - 1) + 1 by omega, searchN_no (by omega) (hsa2.trans (by rw [hc3]))]; exact searchN_fuel (by omega) (by omega)⟩ (by simp only; omega)
  ·intro hc2
   replace hc2 := of_decide_eq_false hc2
   have hsa2 : searchN z.t.o (2 * nn + 1) z.t.o.length 0 z.t.o.length r1.1 r1.2.2 = (y.2.2.1, y.1, y.2.2.2) := by rw [hsr, searchN_end (by omega)]
   have hj3 := Nat.zero_le (j * (2 * nn + 1))
   refine l_end (n_then ?_)
   refine c_false rfl ?_
   refine c_exit (x_then (x_then ?_))
   refine x_hit ?_
   refine n_then (c_seq (c_seq (c_reg ?_)))
   refine aP ?_
   refine aS ?_
   refine l_callS (B := [_]) (L := ((((L ++ z.bn) ++ z.bl) ++ BsS) ++ BO)) (g_tseen y.2.2.1 t gx nn y.2.2.2 0 z.n2 ⟨z.la, z.t.l.length, z.lc⟩ ao z.t.l.length co z.t.o 0 (by omega) (by omega) (by omega) (by omega) (by omega) (by omega) hn (by omega) (by omega) (by omega)) (show Cl _ ([_] ++ ((((L ++ z.bn) ++ z.bl) ++ BsS) ++ BO)) _ from hW) en105 (fun W hC => hOT.repT.at hC (List.sublist_append_right _ BO)) rfl rfl rfl rfl ?_
   rintro _ _ W ⟨rfl, rfl⟩ hW
   obtain ⟨r3, hr3⟩ : ∃ r, r = seenN z.t.o 0 (2 * nn + 1) y.2.2.1 y.2.2.2 := ⟨_, rfl⟩
   rw [← hr3] at hW ⊢
   obtain ⟨m3, hm3a, hm3b, hm3c, -⟩ := seenN_run z.t.o 0 (2 * nn + 1) y.2.2.2 hay
   rw [← hr3] at hm3b hm3c
   have ha3 : Askd q r3.1 r3.2.2 := by rw [hm3c]; exact hm3b
   have hsa3 : seenN z.t.o 0 (2 * nn + 1) y.2.2.1 y.2.2.2 = (r3.1, r3.2.1, r3.2.2) := hr3.symm
   have f3a := ha3.a
   have f3n := ha3.n
   have f3m := ha3.m
   have f30 := ha3.x0
   have f31 := ha3.x1
   refine l_split ?_ ?_
   ·intro hc4
    refine l_val (r_not rfl rfl) rfl rfl ?_
    refine l_end (n_then ?_)
    refine c_false rfl ?_
    refine c_skip (n_then (c_seq (c_seq (c_reg ?_))))
    refine aI ?_
    refine aS ?_
    refine l_val (r_lenSlice Tryz.underlying150 rfl rfl) rfl rfl ?_
    refine l_val (r_geqN (b := false) rfl rfl rfl (decide_eq_false (by omega))) rfl rfl ?_
    refine l_end (n_then ?_)
    refine c_false rfl ?_
    refine c_skip (n_then (c_seq (c_seq (c_reg ?_))))
    have hG2 := hG1.at (show Cl _ ([_] ++ ((((L ++ z.bn) ++ z.bl) ++ BsS) ++ BO)) _ from hW) (((List.sublist_append_right _ BsS).trans (List.sublist_append_left _ BO)).trans (List.sublist_append_right [_] _))
    obtain ⟨b0, o0, hat⟩ := hG2.ptr (by omega)
    have hG3 : Rep BsS fun W => RdG W ⟨some ⟨b0, o0, none⟩, tS.n, tS.c⟩ ss (mems z.t.b.s z.t.l) := by rw [← hat]; exact hG1
    obtain ⟨sm, mm, hs1, hm1, -, hmr⟩ := (hG3.at (show Cl _ ([_] ++ ((((L ++ z.bn) ++ z.bl) ++ BsS) ++ BO)) _ from hW) (((List.sublist_append_right _ BsS).trans (List.sublist_append_left _ BO)).trans (List.sublist_append_right [_] _))).get (i := y.1) (by omega)
    have hrm0 : Rep BsS fun W => RdI W sm mm := fun b W hC => (hG3 b W hC).es _ _ _ hs1 hm1
    have hmm : mm = membersN z.t.b.s (qn z.t.l y.1) (qm z.t.l y.1) (p2 z.t.b.s.d.toNat) := by
     rw [mems_get (by omega)] at hm1
     exact (Option.some.inj hm1).symm
    have hsml := hmr.len
    have hmlen := mem_len z.t.b.s (qn z.t.l y.1) (qm z.t.l y.1) (p2 z.t.b.s.d.toNat)
    have hp62 : p2 z.t.b.s.d.toNat ≤ 64 := by rw [hbs]; exact hp6
    rw [hmm] at hsml
    have hrm : Rep BsS fun W => RdI W sm (membersN z.t.b.s (qn z.t.l y.1) (qm z.t.l y.1) (p2 z.t.b.s.d.toNat)) := by rw [← hmm]; exact hrm0
    obtain ⟨tk, htk⟩ : ∃ k, k = taken z.t.b.s z.t.l y.1 := ⟨_, rfl⟩
    obtain ⟨tm, htm⟩ : ∃ k, k = takenM z.t.b.s z.t.l z.t.nm y.1 := ⟨_, rfl⟩
    have hs3 : r3.1.s = z.t.b.s := ha3.s.trans hbs.symm
    have hsrt := (ht.part.step hs hnd hrg (i := y.1) (by omega)).2.2
    rw [← hbs] at hsrt
    obtain ⟨gr, cur, hla, hbl2, -, -, -⟩ := hls.row (by omega)
    have hls2 := hls
    rw [hla, hbl2] at hls2
    refine aS ?_
    refine aI ?_
    refine l_val (r_indexAddrSl2 (n := y.1) Tryz.underlying150 tyC27.size rfl (congrArg (fun a => Value.slice a tS.n tS.c) hat) rfl (by omega)) rfl rfl ?_
    refine l_loadW tyC27 (v := sm.v) ((hG3.at (show Cl _ ([_] ++ ((((L ++ z.bn) ++ z.bl) ++ BsS) ++ BO)) _ from hW) (((List.sublist_append_right _ BsS).trans (List.sublist_append_left _ BO)).trans (List.sublist_append_right [_] _))).cell hs1) rfl rfl rfl rfl ?_
    refine l_val (r_lenSlice Tryz.underlying27 rfl rfl) rfl rfl ?_
    refine l_val (r_eqlN (n := 1) rfl rfl rfl rfl) rfl rfl ?_
    refine l_split ?_ ?_
    ·intro hc5
     replace hc5 := of_decide_eq_true hc5
     have h1 : (membersN z.t.b.s (qn z.t.l y.1) (qm z.t.l y.1) (p2 z.t.b.s.d.toNat)).length = 1 := by omega
     have htk1 : tk = z.t.l.take y.1 ++ z.t.l.drop (y.1 + 1) := by rw [htk, taken_mid, mid_one h1]; rfl
     have htm1 : tm = merged z.t.nm (membersN z.t.b.s (qn z.t.l y.1) (qm z.t.l y.1) (p2 z.t.b.s.d.toNat)) := htm.trans (if_pos h1)
     have hln : z.t.l.length - 1 = tk.length := by rw [htk1, List.length_append, List.length_take, List.length_drop]; omega
     refine l_end (n_then ?_)
     refine c_true rfl ?_
     refine c_seq ?_
     refine c_regM hW [] [.q, .q, .q, .q, .q, .q, .q, .q, .q, .q, .mk 0, .mkd 1 0, .tail, .tail, .tail, .tail] [⟨82, bslX 27 2⟩, ⟨83, fun _ v Bs => ∃ s : Sl, v = s.v ∧ NewI s (sortI [z.t.nm, membersN z.t.b.s (qn z.t.l y.1) (qm z.t.l y.1) (p2 z.t.b.s.d.toNat)].flatten) Bs⟩] [[z.n2.v, sm.v], []] [10, 11] [0, 0, 2, 6, 14, 30, 0, 0, 192, 448, 1022, 2046, 4095, 8191, 16383, 32767] (by kernel_rfl) (by kernel_rfl) rfl (by kernel_rfl) ?_
     refine y_val (r_move (v := .pointer _) rfl rfl) rfl rfl ?_
     refine y_val (r_move (v := .pointer _) rfl rfl) rfl rfl ?_
     refine y_val (r_nilCheck rfl rfl) rfl rfl ?_
     refine y_val (r_fieldAddr 29 Tryz.underlying124 rfl tyA38.size rfl rfl rfl) rfl rfl ?_
     refine y_val (r_fieldAddr 29 Tryz.underlying38 rfl tyC27.size rfl rfl rfl) rfl rfl ?_
     refine y_loadC 0 tyC27 rfl rfl rfl rfl rfl rfl (by decide) ?_
     refine yS ?_
     refine yI ?_
     refine y_val (r_indexAddrSl2 (n := y.1) Tryz.underlying150 tyC27.size rfl (congrArg (fun a => Value.slice a tS.n tS.c) hat) rfl (by omega)) rfl rfl ?_
     refine y_loadR tyC27 (v := sm.v) (fun L2 w hs hC => (hG3.at hC ((((List.sublist_append_right _ BsS).trans (List.sublist_append_left _ BO)).trans (List.sublist_append_right [_] _)).trans hs.pre)).cell hs1) rfl rfl rfl rfl ?_
     refine y_buildSliceF 0 (bsl150_2_0_1 _ _ _ _ _ _) rfl rfl rfl rfl ?_
     refine y_callXs 1 0 en80 rfl rfl rfl rfl ?_ rfl ?_
     ·rintro _ _ L2 hS ⟨g2, rfl, rfl⟩
      exact ⟨_, _, g_merged (some ⟨g2, 0, none⟩) 2 2 [z.n2, sm] [z.t.nm, membersN z.t.b.s (qn z.t.l y.1) (qm z.t.l y.1) (p2 z.t.b.s.d.toNat)] (by rw [sumL_flat]; simp only [List.flatten_cons, List.flatten_nil, List.append_nil, List.length_append]; omega) (by decide), fun w hC => RdG.two (hC.sub (List.sublist_append_right L2 _)) 0 rfl (hnm.rep.at hC ((((((List.sublist_append_right _ z.bn).trans (List.sublist_append_left _ z.bl)).trans (List.sublist_append_left _ BsS)).trans (List.sublist_append_left _ BO)).trans (List.sublist_append_right [_] _)).trans (hS.pre.trans (List.sublist_append_left L2 _)))) (hrm.at hC ((((List.sublist_append_right _ BsS).trans (List.sublist_append_left _ BO)).trans (List.sublist_append_right [_] _)).trans (hS.pre.trans (List.sublist_append_left L2 _)))), rfl⟩
     refine y_tail ?_
     refine y_made ?_
     rintro _ _ ⟨g2, rfl, rfl⟩
     refine y_made ?_
     rintro _ BM ⟨s9, rfl, h9⟩
     intro W hW
     replace hW := pickM (G := [_]) hW
     rw [show [z.t.nm, membersN z.t.b.s (qn z.t.l y.1) (qm z.t.l y.1) (p2 z.t.b.s.d.toNat)].flatten = z.t.nm ++ membersN z.t.b.s (qn z.t.l y.1) (qm z.t.l y.1) (p2 z.t.b.s.d.toNat) by simp, hsrt, ← htm1] at h9
     refine l_val (r_nilCheck rfl rfl) rfl rfl ?_
     refine l_val (r_fieldAddr 29 Tryz.underlying124 rfl tyA38.size rfl rfl rfl) rfl rfl ?_
     refine l_val (r_fieldAddr 29 Tryz.underlying38 rfl tyC27.size rfl rfl rfl) rfl rfl ?_
     refine l_storeC hW 0 tyC27 (v := s9.v) rfl rfl rfl rfl rfl rfl (trR_len (by decide)) rfl ?_
     intro W hW
     replace hW := (show Cl _ (([⟨gx, boC r3.1 t ++ trR nn s9 ⟨z.la, z.t.l.length, z.lc⟩ r3.2.2 0, 124⟩] ++ ((((L ++ z.bn) ++ z.bl) ++ BsS) ++ BO)) ++ ([_] ++ BM)) _ from hW)
     refine l_end (n_then (c_seq (c_reg ?_)))
     refine aP ?_
     refine aP ?_
     refine l_val (r_nilCheck rfl rfl) rfl rfl ?_
     refine l_val (r_fieldAddr 29 Tryz.underlying124 rfl tyA38.size rfl rfl rfl) rfl rfl ?_
     refine l_val (r_fieldAddr 30 Tryz.underlying38 rfl tyC33.size rfl rfl rfl) rfl rfl ?_
     refine dC hW 0 tyC33 ?_
     refine aI ?_
     refine aI ?_
     refine l_val (r_addN (n := 1) rfl rfl rfl (by omega)) rfl rfl ?_
     replace hW := pickA hW
     rw [hbl2] at hW
     refine l_callS (B := [_]) (L := [_] ++ (L ++ BM)) (g_DeleteB gr z.t.l.length z.lc y.1 cur (sl2 z.t.l) hls2 (by omega) (sl2_one _)) hW en106 trivial rfl rfl (by show [Value.slice z.la _ _, _, _] = _; rw [hla]; rfl) rfl ?_
     rintro _ B9 W ⟨rfl, hO9⟩ hW
     replace hW := hW.perm List.perm_append_comm
     replace hO9 := hO9.castx hln (xs' := sl2 tk) (by rw [htk1, sl2_append, sl2_take, sl2_drop])
     rw [hln]
     refine l_val (r_nilCheck rfl rfl) rfl rfl ?_
     refine l_val (r_fieldAddr 29 Tryz.underlying124 rfl tyA38.size rfl rfl rfl) rfl rfl ?_
     refine l_val (r_fieldAddr 30 Tryz.underlying38 rfl tyC33.size rfl rfl rfl) rfl rfl ?_
     refine l_storeC hW 0 tyC33 (v := .slice (some ⟨gr, 0, none⟩) tk.length z.lc) rfl rfl rfl rfl rfl rfl (trR_len (by decide)) rfl ?_
     intro W hW
     refine l_end (n_then (c_exit (x_then ?_)))
     refine x_hit ?_
     refine n_then ?_
     have hround : roundN (2 * nn + 1) z.t = (⟨r3.1, tk, tm, r3.2.2⟩, 0) := by rw [round_0 (hsa1.trans (by rw [hc1])) hsa2 (hsa3.trans (by rw [hc4])), htk, htm]
     have hin := (hrnd.1 (by rw [hround])).1
     have hpt := (hrnd.1 (by rw [hround])).2
     rw [hround] at hin hpt
     exact loop_next ⟨⟨r3.1, tk, tm, r3.2.2⟩, t, [], s9, BM, some ⟨gr, 0, none⟩, z.lc, B9⟩ (by kernel_rfl) (show Cl _ ((([⟨gx, boC r3.1 t ++ trR nn s9 ⟨some ⟨gr, 0, none⟩, tk.length, z.lc⟩ r3.2.2 0, 124⟩] ++ L) ++ BM) ++ B9) _ from hW) ⟨hin, heq.trans ((traced_0 hs hnd hrg ht (by rw [hround])).trans (by rw [hround])), h9, hO9⟩ hpt
    ·intro hc5
     replace hc5 := of_decide_eq_false hc5
     have h1 : (membersN z.t.b.s (qn z.t.l y.1) (qm z.t.l y.1) (p2 z.t.b.s.d.toNat)).length ≠ 1 := by omega
     have htk2 : tk = z.t.l.take y.1 ++ (splitV z.t.b.s (qn z.t.l y.1) (qm z.t.l y.1) ++ z.t.l.drop (y.1 + 1)) := by rw [htk, taken_mid, mid_two h1]
     have htm2 : tm = z.t.nm := htm.trans (if_neg h1)
     have hsp2 := (split_perm hst (hsubs y.1 (by omega)) h1).2.1
     have hln : z.t.l.length + 1 = tk.length := by rw [htk2, List.length_append, List.length_append, List.length_take, List.length_drop, hsp2]; omega
     have hB2 : Rep z.bl fun W => RdB W ⟨some ⟨gr, 0, none⟩, z.t.l.length, z.lc⟩ z.t.l := by rw [← hla]; exact hls.repB
     refine l_end (n_then ?_)
     refine c_false rfl ?_
     refine c_skip (n_then (c_seq ?_))
     refine c_regC hW [] [.q, .q, .q, .q, .q, .q, .q, .q, .q, .q, .q, .q, .q, .mk 0, .tail, .tail, .tail, .tail, .tail] [⟨114, fun _ u Bs => ∃ a c, u = .tuple #[.slice a 2 c, .int .i64 0] ∧ OwnSl 64 2 a 2 c (sl2 (splitV r3.1.s (qn z.t.l y.1) (qm z.t.l y.1))) Bs⟩] [[]] [13] [0, 1, 3, 7, 15, 0, 32, 96, 224, 480, 0, 2016, 4064, 8191, 16383, 32767, 32767, 65535, 262143] [] [.q, .q, .q, .q, .q, .q, .q, .q, .q, .q, .q, .q, .q, .q, .q, .q, .q, .q, .q] [] [] [] (by kernel_rfl) (by kernel_rfl) rfl rfl (by kernel_rfl) (by kernel_rfl) ?_
     refine y_val (r_move (v := .pointer _) rfl rfl) rfl rfl ?_
     refine y_val (r_nilCheck rfl rfl) rfl rfl ?_
     refine y_val (r_fieldAddr 0 Tryz.underlying124 rfl tyA31.size rfl rfl rfl) rfl rfl ?_
     refine y_val (r_fieldAddr 0 Tryz.underlying31 rfl tyA26.size rfl rfl rfl) rfl rfl ?_
     refine y_loadP 0 tyA26 rfl rfl rfl rfl rfl (by rw [List.length_append, boC_len]; omega) (show _ = ([.int .u8 r3.1.s.k, .int .i64 r3.1.s.d, .int .i64 r3.1.s.g, .int .u64 r3.1.s.p, .int .u64 r3.1.s.q, .int .u64 r3.1.s.r] : List Value) from rfl) (by decide) ?_
     refine y_val (r_move (v := .pointer _) rfl rfl) rfl rfl ?_
     refine y_val (r_nilCheck rfl rfl) rfl rfl ?_
     refine y_val (r_fieldAddr 29 Tryz.underlying124 rfl tyA38.size rfl rfl rfl) rfl rfl ?_
     refine y_val (r_fieldAddr 30 Tryz.underlying38 rfl tyC33.size rfl rfl rfl) rfl rfl ?_
     refine y_loadC 0 tyC33 rfl rfl rfl rfl rfl rfl (by decide) ?_
     refine yI ?_
     refine y_val (r_indexAddrSlB (n := y.1) Tryz.underlying33 tyA64.size rfl (congrArg (fun a => Value.slice a z.t.l.length z.lc) hla) rfl (by omega)) rfl rfl ?_
     refine y_loadR2 tyA64 (fun L2 w hs hC => (hB2.at hC (((((List.sublist_append_right _ z.bl).trans (List.sublist_append_left _ BsS)).trans (List.sublist_append_left _ BO)).trans (List.sublist_append_right [_] _)).trans hs.pre)).cells (by omega)) rfl rfl rfl rfl ?_
     refine y_callX 0 (g_Split r3.1.s (qn z.t.l y.1) (qm z.t.l y.1) (by rw [hs3]; exact hst) (by rw [hs3]; exact hsubs _ (by omega)) (by rw [hs3]; exact h1)) en107 rfl rfl (fun _ _ _ _ => trivial) rfl rfl ?_
     refine y_tail ?_
     refine y_made ?_
     rintro _ _ ⟨aS, cS, rfl, hOS⟩
     obtain ⟨gs, curS, rfl, rfl, -, -, htS⟩ := hOS.row (by omega)
     rw [hs3] at htS
     refine y_val (r_move (v := .tuple _) rfl rfl) rfl rfl ?_
     refine y_val (r_extract (v := .slice _ _ _) rfl rfl rfl) rfl rfl ?_
     refine y_val (r_extract (v := .int _ _) rfl rfl rfl) rfl rfl ?_
     refine y_val (r_assign (v := .slice _ _ _) rfl rfl) rfl rfl ?_
     refine y_val (r_assign (v := .int _ _) rfl rfl) rfl rfl ?_
     refine y_end ?_
     intro W hW
     refine n_then (c_reg ?_)
     refine aP ?_
     refine aP ?_
     refine l_val (r_nilCheck rfl rfl) rfl rfl ?_
     refine l_val (r_fieldAddr 29 Tryz.underlying124 rfl tyA38.size rfl rfl rfl) rfl rfl ?_
     refine l_val (r_fieldAddr 30 Tryz.underlying38 rfl tyC33.size rfl rfl rfl) rfl rfl ?_
     refine dC hW 1 tyC33 ?_
     refine aI ?_
     refine aI ?_
     refine l_val (r_addN (n := 1) rfl rfl rfl (by omega)) rfl rfl ?_
     refine aS ?_
     replace hW := pickB hW
     rw [hbl2] at hW
     refine l_callS (B := [_]) (L := [_] ++ ((L ++ z.bn) ++ [⟨gs, curS, 64⟩])) (g_ReplaceB gr z.t.l.length z.lc y.1 gs cS cur (sl2 z.t.l) curS (sl2 (splitV z.t.b.s (qn z.t.l y.1) (qm z.t.l y.1))) hls2 (by omega) (sl2_one _) htS (by rw [sl2_len, hsp2]) (sl2_one _) (by omega)) hW en108 (by simp) rfl rfl (by show [Value.slice z.la _ _, _, _, _] = _; rw [hla]; rfl) rfl ?_
     rintro _ B9 W ⟨a9, c9, rfl, hO9⟩ hW
     replace hW := hW.perm List.perm_append_comm
     replace hO9 := hO9.castx hln (xs' := sl2 tk) (by rw [htk2, sl2_append, sl2_append, sl2_take, sl2_drop])
     rw [hln]
     refine l_val (r_nilCheck rfl rfl) rfl rfl ?_
     refine l_val (r_fieldAddr 29 Tryz.underlying124 rfl tyA38.size rfl rfl rfl) rfl rfl ?_
     refine l_val (r_fieldAddr 30 Tryz.underlying38 rfl tyC33.size rfl rfl rfl) rfl rfl ?_
     refine l_storeC hW 0 tyC33 (v := .slice a9 tk.length c9) rfl rfl rfl rfl rfl rfl (trR_len (by decide)) rfl ?_
     intro W hW
     refine l_end (n_block (n_then ?_))
     have hround : roundN (2 * nn + 1) z.t = (⟨r3.1, tk, tm, r3.2.2⟩, 0) := by rw [round_0 (hsa1.trans (by rw [hc1])) hsa2 (hsa3.trans (by rw [hc4])), htk, htm]
     have hin := (hrnd.1 (by rw [hround])).1
     have hpt := (hrnd.1 (by rw [hround])).2
     rw [hround] at hin hpt
     exact loop_next ⟨⟨r3.1, tk, tm, r3.2.2⟩, t, [], z.n2, z.bn, a9, c9, B9⟩ (by kernel_rfl) (pickC (show Cl _ (([⟨gx, boC r3.1 t ++ trR nn z.n2 ⟨a9, tk.length, c9⟩ r3.2.2 0, 124⟩] ++ ((L ++ z.bn) ++ [_])) ++ B9) _ from hW)) ⟨hin, heq.trans ((traced_0 hs hnd hrg ht (by rw [hround])).trans (by rw [hround])), by rw [htm2]; exact hnm, hO9⟩ hpt
   ·intro hc4
    refine l_val (r_not rfl rfl) rfl rfl ?_
    refine l_end (n_then ?_)
    refine c_true rfl ?_
    refine c_seq (c_reg ?_)
    refine aP ?_
    refine l_val (r_nilCheck rfl rfl) rfl rfl ?_
    refine l_val (r_fieldAddr 29 Tryz.underlying124 rfl tyA38.size rfl rfl rfl) rfl rfl ?_
    refine l_val (r_fieldAddr 32 Tryz.underlying38 rfl tyC5.size rfl rfl rfl) rfl rfl ?_
    refine l_storeC hW 0 tyC5 (v := .int .u8 2) rfl rfl rfl rfl rfl rfl (trR_len (by decide)) rfl ?_
    intro W hW
    replace hW := (show Cl _ ([⟨gx, boC r3.1 t ++ trR nn z.n2 ⟨z.la, z.t.l.length, z.lc⟩ r3.2.2 2, 124⟩] ++ ((((L ++ z.bn) ++ z.bl) ++ BsS) ++ BO)) _ from hW)
    refine l_end (n_then (c_exit (x_then ?_)))
    refine x_miss (by decide) ?_
    refine x_then ?_
    refine x_hit ?_
    refine n_scope ?_
    refine end_none rfl ?_
    have hround : roundN (2 * nn + 1) z.t = (⟨r3.1, z.t.l, z.t.nm, r3.2.2⟩, 2) := round_2 (hsa1.trans (by rw [hc1])) hsa2 (hsa3.trans (by rw [hc4]))
    have hR : traced (2 * nn + 1) ⟨q, l, [], 0⟩ = (⟨r3.1, z.t.l, z.t.nm, r3.2.2⟩, 2) := heq.trans ((traced_e (by rw [hround]; exact (show (2 : Nat) ≠ 0 by decide))).trans hround)
    exact ⟨_, _, rfl, ⟨z.n2, z.la, z.lc, z.bn, z.bl, by rw [hR], by rw [hR]; exact hnm, by rw [hR]; exact hls⟩, pickF hW⟩
 ·intro hc1
  refine l_val (r_not rfl rfl) rfl rfl ?_
  refine l_end (n_then ?_)
  refine c_true rfl ?_
  refine c_seq (c_reg ?_)
  refine aP ?_
  refine l_val (r_nilCheck rfl rfl) rfl rfl ?_
  refine l_val (r_fieldAddr 29 Tryz.underlying124 rfl tyA38.size rfl rfl rfl) rfl rfl ?_
  refine l_val (r_fieldAddr 32 Tryz.underlying38 rfl tyC5.size rfl rfl rfl) rfl rfl ?_
  refine l_storeC hW 0 tyC5 (v := .int .u8 1) rfl rfl rfl rfl rfl rfl (trR_len (by decide)) rfl ?_
  intro W hW
  replace hW := (show Cl _ ([⟨gx, boC r1.1 t ++ trR nn z.n2 ⟨z.la, z.t.l.length, z.lc⟩ r1.2.2 1, 124⟩] ++ ((((L ++ z.bn) ++ z.bl) ++ BsS) ++ BO)) _ from hW)
  refine l_end (n_then (c_exit (x_then ?_)))
  refine x_miss (by decide) ?_
  refine x_then ?_
  refine x_hit ?_
  refine n_scope ?_
  refine end_none rfl ?_
  have hround : roundN (2 * nn + 1) z.t = (⟨r1.1, z.t.l, z.t.nm, r1.2.2⟩, 1) := round_1 (hsa1.trans (by rw [hc1]))
  have hR : traced (2 * nn + 1) ⟨q, l, [], 0⟩ = (⟨r1.1, z.t.l, z.t.nm, r1.2.2⟩, 1) := heq.trans ((traced_e (by rw [hround]; exact (show (1 : Nat) ≠ 0 by decide))).trans hround)
  exact ⟨_, _, rfl, ⟨z.n2, z.la, z.lc, z.bn, z.bl, by rw [hR], by rw [hR]; exact hnm, by rw [hR]; exact hls⟩, pickF hW⟩

end Go.Proofs.YtoegpalacppllaaGreat

/- A region that draws its order, as in Or2, after one more quiet operation that waits for nothing. -/
namespace Go.Proofs.YtoegpalacppllaaGreat
open Go.RowKit
def closedB (md : Region.Mode) (ops : Array Oper) (d : Array Bool) : Bool := (List.range ops.size).all fun j => !d.getD j false || match ops[j]? with | some o => o.after.all fun e => !Region.binds md e || d.getD e.on false | none => true
section
variable {P : Program} {ops : Array Oper} {Q : Exit → Act → World → Prop} {a : Act} {w0 : Base} {W : World} {L : List Blk} {md : Region.Mode} {S : List Nat} {r : Option (Option Nat)} {m : Nat} {ms : List Mk} {bs : List Value} {us : List (Nat × Value)} {ds : List Deferred}
theorem closedB_spec {d : Array Bool} (h : closedB md ops d = true) : Closed md ops d := by
  intro j oj hj hd e he hb
  have h1 := List.all_eq_true.1 h j (List.mem_range.2 (Array.getElem?_eq_some_iff.1 hj).1)
  simp only [hd, hj, Bool.not_true, Bool.false_or] at h1
  have h2 := Array.all_eq_true_iff_forall_mem.1 h1 e he
  simpa [hb] using h2
def regionW4 (d0 : Array Bool) (ops : Array Oper) (ks ks2 : List Kd) (D ix M D2 ix2 ord rest zs : List Nat) : Bool :=
  Region.noSelect ops && closedB .any ops d0 && (ix.all fun i => !d0.getD i false) && allB .any ops D ix (fun j => ks.getD j .tail) && masksB .any ops M && allB .any ops D2 ix2 (fun j => ks2.getD j .tail) && ((zs ++ (ord ++ rest)).all fun k => Nat.blt k ops.size) && (zs.all fun z => !d0.getD z true) &&
    zsB ops D ix (fun j => ks.getD j .tail) zs && zchB .any ops [] zs && decide zs.Nodup && (zs.all fun z => match ks2.getD z .tail with | .q => true | _ => false) &&
    lexO .any ops (fun j => ks.getD j .tail) ix M (fun o done => (o == rest) && ((zs.all fun z => done.getD z false) && (ix2.all fun i => !zs.contains i && !done.getD i false) && lexO .any ops (fun j => ks2.getD j .tail) ix2 M (fun o done => seqO .any ops o done) (zs ++ rest) (setA false done zs))) (ord ++ rest) (setA true d0 zs)

theorem AW_W (hW : Cl w0 L W) (d0 : Array Bool) {os : List Oper} (S : List Nat) (ks : List Kd) (ms : List Mk) (V : List (List Value)) (ix M S2 : List Nat) (ks2 : List Kd) (D2 ix2 ord rest zs : List Nat) (hB : regionW4 d0 os.toArray ks ks2 (ms.map Mk.d) ix M D2 ix2 ord rest zs = true) (hV : V.length = ms.length) (hd : (ms.all fun k => Nat.blt k.d bs.length) = true) (hd2 : (D2.all fun k => Nat.blt k bs.length) = true)
    (l : Zl) (hlz : l.map (·.1) = zs) (hat : Zat os.toArray l) (hzr : ZevL P w0 S L bs us l)
    (h : lx P os.toArray w0 S ms (fun _ _ => False)
      (fun _ a' s' => Full ms s'.2 a' s'.1 fun a' L' => ∃ (ms2 : List Mk) (V2 : List (List Value)), (ms2.map Mk.d = D2 ∧ V2.length = ms2.length) ∧ lx P os.toArray w0 S2 ms2 (fun a' s' => Full ms2 s'.2 a' s'.1 fun a' L' => ∀ w', Cl w0 L' w' → Q .normal a' w') (fun l' a' s' => Full ms2 s'.2 a' s'.1 fun a' L' => ∀ w', Cl w0 L' w' → LW r m P os.toArray Q l' a' w') ((zs ++ rest).map fun j => ks2.getD j .tail) (pickL os.toArray (zs ++ rest)) a' (L', V2)) ((ord ++ rest).map fun j => ks.getD j .tail) (pickL os.toArray (ord ++ rest)) (fr bs us ds) (L, V)) : AW r m P .any os.toArray Q ((ord ++ rest).length + zs.length) d0 (fr bs us ds) W := by
  subst hlz
  simp only [regionW4, Bool.and_eq_true, decide_eq_true_eq] at hB
  obtain ⟨⟨⟨⟨⟨⟨⟨⟨⟨⟨⟨⟨hsel, hc0B⟩, hix0⟩, hall⟩, hM⟩, hall2⟩, hv⟩, hz0⟩, hzB⟩, hch⟩, hnd⟩, hkz⟩, hlex⟩ := hB
  have hz := zsB_spec hat hzB
  have hchain := zchB_spec hat hch
  have hkz' : ∀ z ∈ l.map (·.1), ks2.getD z .tail = .q := fun z hz => by
    have := List.all_eq_true.1 hkz z hz
    cases hk : ks2.getD z .tail <;> rw [hk] at this <;> first | rfl | cases this
  have hv' : ∀ k ∈ l.map (·.1) ++ (ord ++ rest), k < os.toArray.size := fun k hk => by
    have := List.all_eq_true.1 hv k hk
    rwa [Nat.blt_eq] at this
  have sz : ∀ {k : Mk} {l : List Mk}, (l.all fun k => Nat.blt k.d bs.length) = true → k ∈ l → k.d < (fr bs us ds).tmps.size := fun hl hk => by
    have := List.all_eq_true.1 hl _ hk
    rw [Nat.blt_eq] at this
    simpa [fr, toL_len] using this
  have hz0' : ∀ x ∈ l, d0.getD x.1 true = false := fun x hx => by
    have := List.all_eq_true.1 hz0 x.1 (List.mem_map.2 ⟨x, hx, rfl⟩)
    simpa using this
  have hZ : ZokL P w0 S L (fr bs us ds) l := ZevL.ok l us hzr
  obtain ⟨T, hT⟩ : ∃ T : Act → List Blk → Prop, T = fun a' L' => ∃ (ms2 : List Mk) (V2 : List (List Value)), (ms2.map Mk.d = D2 ∧ V2.length = ms2.length) ∧ lx P os.toArray w0 S2 ms2 (fun a' s' => Full ms2 s'.2 a' s'.1 fun a' L' => ∀ w', Cl w0 L' w' → Q .normal a' w') (fun l' a' s' => Full ms2 s'.2 a' s'.1 fun a' L' => ∀ w', Cl w0 L' w' → LW r m P os.toArray Q l' a' w') ((l.map (·.1) ++ rest).map fun j => ks2.getD j .tail) (pickL os.toArray (l.map (·.1) ++ rest)) a' (L', V2) := ⟨_, rfl⟩
  rw [← hT] at h
  obtain ⟨ck, hck⟩ : ∃ ck : Array Bool → Bool, ck = fun done => ((l.map (·.1)).all fun z => done.getD z false) && (ix2.all fun i => !(l.map (·.1)).contains i && !done.getD i false) && lexO .any os.toArray (fun j => ks2.getD j .tail) ix2 M (fun o done => seqO .any os.toArray o done) (l.map (·.1) ++ rest) (setA false done (l.map (·.1))) := ⟨_, rfl⟩
  have lay2 : ∀ (l : List Nat) (done : Array Bool) (a : Act) (L' : List Blk) (w : World) (ms2 : List Mk) (V2 : List (List Value)), (∀ k ∈ l, k < os.toArray.size) → Closed .any os.toArray done → (∀ i ∈ ix2, done.getD i false = false) → ms2.map Mk.d = D2 → V2.length = ms2.length → a.tmps.size = (fr bs us ds).tmps.size →
      lexO .any os.toArray (fun j => ks2.getD j .tail) ix2 M (fun o done => seqO .any os.toArray o done) l done = true → lx P os.toArray w0 S2 ms2 (fun a' s' => Full ms2 s'.2 a' s'.1 fun a' L' => ∀ w', Cl w0 L' w' → Q .normal a' w') (fun l' a' s' => Full ms2 s'.2 a' s'.1 fun a' L' => ∀ w', Cl w0 L' w' → LW r m P os.toArray Q l' a' w') (l.map fun j => ks2.getD j .tail) (pickL os.toArray l) a (L', V2) → Cl w0 L' w → AW r m P .any os.toArray Q l.length done a w := by
    intro l done a L' w ms2 V2 hl hc hix hD hV2 hsz ht hk hC
    subst hD
    have h1 := anyC_lexO (P := P) (w0 := w0) (S := S2) (ms := ms2) (md := .any) (kd := fun j => ks2.getD j .tail) (ix := ix2) (U := fun f done a s => ∃ o, o.length = f ∧ seqO .any os.toArray o done = true ∧ Full ms2 s.2 a s.1 fun a' L' => ∀ w', Cl w0 L' w' → LW r m P os.toArray Q (pickL os.toArray o) a' w') hM hsel (fun o done a s _ ht hT => ⟨o, rfl, ht, hT⟩) l done a (L', V2) hl hc ht hk
    have h2 := anyC_any (N := a.tmps.size) (P := P) (r := r) (m := m) (Q := Q) (ms := ms2) (allB_spec hall2) (Region.noSelect_spec hsel)
      (fun a s vs Ns w hM hs hC hR => by obtain ⟨L', hp, hk⟩ := Full.use hM hs hR; exact hk w (hC.perm hp)) (fun f done a s vs Ns w hM hs hC _ ⟨o, hf, ht, hT⟩ => by obtain ⟨L', hp, hk⟩ := Full.use hM hs hT; subst hf; exact AW_seqO o done _ w ht (hk w (hC.perm hp))) l.length done a (L', V2) _ _ w (none_made ms2 V2 hV2) (made0 hix) (fun k hk => by rw [hsz]; exact sz (by simpa [List.all_map, Function.comp_def] using hd2) hk) rfl (by
        have : (List.replicate ms2.length ([] : List Blk)).flatten = [] := by simp
        rw [this, List.append_nil]
        exact hC) h1
    rw [none_puts] at h2
    exact h2
  have H : AW r m P .any os.toArray Q ((ord ++ rest).length + (l.map (·.1)).length) d0 (fr bs us ds) W := by
    have hc0 : ∀ (l : Zl) (pre : List Nat) (d : Array Bool), Zat os.toArray l → zchain .any pre l → Closed .any os.toArray d → (∀ i ∈ pre, d.getD i false = true) → (∀ x ∈ l, x.1 < d.size) → Closed .any os.toArray (zset d l) := by
      intro l
      induction l with
      | nil => intro pre d _ _ h _ _; exact h
      | cons x l ih =>
        intro pre d hat hch hc hpre hlt
        refine ih (x.1 :: pre) _ hat.2 hch.2.2 ?_ (fun i hi => ?_) (fun y hy => by simpa using hlt y (by simp [hy]))
        · intro j oj hj hd e he hb
          have hmono : ∀ i, d.getD i false = true → (d.setIfInBounds x.1 true).getD i false = true := fun i h => by
            by_cases hx : x.1 = i
            · subst hx; simp [hlt x (by simp)]
            · rw [getD_set_ne false hx]; exact h
          by_cases hjx : x.1 = j
          · subst hjx
            obtain rfl : oj = x.2.1 := Option.some.inj (hj.symm.trans hat.1)
            exact hmono _ (hpre _ (hch.1 e he hb))
          · rw [getD_set_ne false hjx] at hd
            exact hmono _ (hc j oj hj hd e he hb)
        · rcases List.mem_cons.1 hi with rfl | hi
          · simp [hlt x (by simp)]
          · by_cases hx : x.1 = i
            · subst hx; simp [hlt x (by simp)]
            · rw [getD_set_ne false hx]; exact hpre i hi
    have hcl := hc0 l [] d0 hat hchain (closedB_spec hc0B) (by simp) (fun x hx => getD_false_lt (hz0' x hx))
    rw [← zset_A] at hlex
    have h1 := anyC_lexO (P := P) (w0 := w0) (S := S) (ms := ms) (md := .any) (kd := fun j => ks.getD j .tail) (ix := ix) (R := fun _ _ => False) (T := fun _ a' s' => Full ms s'.2 a' s'.1 T) (U := fun f done a s => f = rest.length ∧ Closed .any os.toArray done ∧ ck done = true ∧ Full ms s.2 a s.1 T)
      hM hsel (fun o done a s hc ht hT => by
        simp only [Bool.and_eq_true, beq_iff_eq] at ht
        refine ⟨by rw [ht.1], hc, ?_, hT⟩
        rw [hck]
        simp only [Bool.and_eq_true]; exact ht.2) (ord ++ rest) (zset d0 l) (fr bs us ds) (L, V) (fun k hk => hv' k (List.mem_append.2 (.inr hk))) hcl hlex h
    have h2 := anyC_zs (N := (fr bs us ds).tmps.size) (P := P) (r := r) (m := m) (Q := Q) (L0 := L) (allB_spec hall) (Region.noSelect_spec hsel) l [] _ hz hchain hnd
      (fun p q hpq f done a s vs Ns w hMd hs hC hsz hcq hdq hSZ ⟨hf, hc, ht, hF⟩ => by
        rw [hck] at ht
        simp only [Bool.and_eq_true] at ht
        obtain ⟨⟨hzt, hix⟩, ht⟩ := ht
        obtain ⟨L', hp, hk⟩ := Full.use hMd hs hF
        rw [hT] at hk
        obtain ⟨ms2, V2, ⟨hD, hV2⟩, hk⟩ := hk
        subst hf
        have hmap : l.map (·.1) = p.map (·.1) ++ q.map (·.1) := by rw [hpq, List.map_append]
        have hcd : Closed .any os.toArray done := by
          cases q with
          | nil => exact hc
          | cons y q => exact hcq (by simp)
        have hback : setA true (setA false (zset done q) (l.map (·.1))) (p.map (·.1)) = done := by
          rw [hmap, zset_A]
          refine setA_back (fun i hi => ?_) (fun i hi => ?_) (by rw [← hmap]; exact hnd)
          · obtain ⟨y, hy, rfl⟩ := List.mem_map.1 hi
            exact hdq y hy
          · rw [← hmap] at hi
            rw [← zset_A]
            exact List.all_eq_true.1 hzt i hi
        rw [hmap, List.append_assoc] at hk
        rw [hmap, List.append_assoc, ← hmap] at ht
        have ht' := lexO_peel (p.map (·.1)) (fun z hz => hkz' z (by rw [hmap]; simp only [List.mem_append]; exact .inl hz)) ht
        rw [hback] at ht'
        have hln : rest.length + q.length = (q.map (·.1) ++ rest).length := by simp [Nat.add_comm]
        rw [hln]
        refine lay2 (q.map (·.1) ++ rest) done _ L' w ms2 V2 (fun k hk => hv' k ?_) hcd (fun i hi => ?_) hD hV2 (by rw [puts_size, zput_size, hsz]) ht' ?_ (hC.perm hp)
        · rcases List.mem_append.1 hk with h | h
          · exact List.mem_append.2 (.inl (by rw [hmap]; exact List.mem_append.2 (.inr h)))
          · exact List.mem_append.2 (.inr (List.mem_append.2 (.inr h)))
        · have := List.all_eq_true.1 hix i hi
          simp only [Bool.and_eq_true, Bool.not_eq_true'] at this
          have h2 := this.2
          rw [zset_ne q false fun y hy e => ?_] at h2
          · exact h2
          · have h3 := this.1
            have : (l.map (·.1)).contains i = true := by
              rw [List.contains_iff_mem, ← e, hmap]
              exact List.mem_append.2 (.inr (List.mem_map.2 ⟨y, hy, rfl⟩))
            rw [this] at h3; cases h3
        · cases p with
          | nil => exact hk
          | cons x p =>
            obtain ⟨hS, hZ⟩ := hSZ (by rw [hpq]; simp)
            have hZp : ∀ (p q : Zl) (a : Act), ZokL P w0 S L a (p ++ q) → ZokL P w0 S L a p := by
              intro p
              induction p with
              | nil => intro q a _; trivial
              | cons y p ih => intro q a h; exact ⟨h.1, ih q _ h.2⟩
            rw [hpq] at hZ
            refine lx_peel (kd := fun j => ks2.getD j .tail) (hC.perm hp) ⟨_, hS.trans (Sim.more S s.1 Ns.flatten), hC⟩ (Region.noSelect_spec hsel) (x :: p) (q.map (·.1) ++ rest) a (fun y hy => ?_) (fun y hy => ?_) (hZp _ _ _ hZ) hk
            · have hyl : y ∈ l := by rw [hpq]; exact List.mem_append.2 (.inl hy)
              exact ⟨(hz y hyl).at_, (hz y hyl).guard, (hz y hyl).ds⟩
            · exact hkz' y.1 (List.mem_map.2 ⟨y, by rw [hpq]; exact List.mem_append.2 (.inl hy), rfl⟩))
      (ord ++ rest).length d0 (fr bs us ds) (L, V) _ _ W (Sim.refl _ _) hZ (closedB_spec hc0B) hz0' (by simp) (none_made ms V hV) (made0 fun i hi => by
        have := List.all_eq_true.1 hix0 i hi
        simpa using this) (fun k hk => sz hd hk) rfl (by
        have : (List.replicate ms.length ([] : List Blk)).flatten = [] := by simp
        rw [this, List.append_nil]
        exact hW) h1
    rw [none_puts] at h2
    rw [List.length_map]
    exact h2
  exact H
def regionM (ops : Array Oper) (y n : Nat) : Bool := Region.noSelect ops && Region.free .any ops (Array.replicate ops.size false) y && (Region.ready .any ops (Array.replicate ops.size false)).contains y && (n + 1 == ops.size)
/-- a move that waits for nothing, then what Or2 can do -/
theorem c_regMv (hW : Cl w0 L W) {id : Nat} {os : List Oper} (y dy : Nat) (oy : Oper) (vy : Value) (S : List Nat) (ks : List Kd) (ms : List Mk) (V : List (List Value)) (ix M S2 : List Nat) (ks2 : List Kd) (D2 ix2 ord rest zs : List Nat) (hm : P.follows .mixedOrders = true)
    (hy : os.toArray[y]? = some oy) (hdy : oy.dst = some dy) (hgy : oy.guard = none) (hvy : ∀ w, (execOp (ev bs us) oy).run P w = .ok (.value vy) w) (hQ : ∀ c a w, Q (.panic c) (a.put oy.dst vy) w → Q (.panic c) a w) (hM : regionM os.toArray y ((ord ++ rest).length + zs.length) = true)
    (hB : regionW4 ((Array.replicate os.toArray.size false).setIfInBounds y true) os.toArray ks ks2 (ms.map Mk.d) ix M D2 ix2 ord rest zs = true) (hV : V.length = ms.length) (hd : (ms.all fun k => Nat.blt k.d bs.length) = true) (hd2 : (D2.all fun k => Nat.blt k bs.length) = true)
    (l : Zl) (hlz : l.map (·.1) = zs) (hat : Zat os.toArray l) (hzr : ZevL P w0 S L bs ((dy, vy) :: us) l)
    (h : lx P os.toArray w0 S ms (fun _ _ => False)
      (fun _ a' s' => Full ms s'.2 a' s'.1 fun a' L' => ∃ (ms2 : List Mk) (V2 : List (List Value)), (ms2.map Mk.d = D2 ∧ V2.length = ms2.length) ∧ lx P os.toArray w0 S2 ms2 (fun a' s' => Full ms2 s'.2 a' s'.1 fun a' L' => ∀ w', Cl w0 L' w' → Q .normal a' w') (fun l' a' s' => Full ms2 s'.2 a' s'.1 fun a' L' => ∀ w', Cl w0 L' w' → LW none m P os.toArray Q l' a' w') ((zs ++ rest).map fun j => ks2.getD j .tail) (pickL os.toArray (zs ++ rest)) a' (L', V2)) ((ord ++ rest).map fun j => ks.getD j .tail) (pickL os.toArray (ord ++ rest)) (fr bs ((dy, vy) :: us) ds) (L, V)) : CW none m P (Code.region id os.toArray true) Q (fr bs us ds) W := by
  simp only [regionM, Bool.and_eq_true, beq_iff_eq] at hM
  obtain ⟨⟨⟨hs, hf⟩, hr⟩, hn⟩ := hM
  have h0 : ∀ F, F = os.toArray.size → wpAny P .any os.toArray Q F (Array.replicate os.toArray.size false) (fr bs us ds) W.drew → CW none m P (Code.region id os.toArray true) Q (fr bs us ds) W := fun F hF h => by subst hF; exact wp_region_any hm h
  refine h0 _ hn ?_
  have h1 := AW_W (r := none) (m := m) hW.drew ((Array.replicate os.toArray.size false).setIfInBounds y true) S ks ms V ix M S2 ks2 D2 ix2 ord rest zs hB hV hd hd2 l hlz hat hzr h
  refine wpAny_take hy hs hf hr hQ (.inl ⟨by simp [Region.wanted, hgy], fun w => by rw [eval_ev]; exact hvy w⟩) ?_
  rw [hdy, put_st]
  exact h1
end
end Go.Proofs.YtoegpalacppllaaGreat

/- A trace, by the program, with its errors. -/
namespace Go.Proofs.YtoegpalacppllaaGreat
open Go.RowKit Pl
open Tr Hn
theorem traced_ask {N : Nat} {b0 : Bo} {tot : List Int} (hs : schB b0.s = true) (ht : tot.Nodup) (hr : ∀ x ∈ tot, 0 ≤ x ∧ x < 64) : ∀ {k : Nat} {t : Ts}, Tin N b0 tot t → Askd b0 (tracedN N k t).1.b (tracedN N k t).1.a
 | 0, t, hi => hi.ask
 | k + 1, t, hi => by
  obtain ⟨h1, h2, -⟩ := hi.round hs ht hr
  by_cases h : (roundN N t).2 = 0
  ·rw [tracedN_0 h]; exact traced_ask hs ht hr (h1 h).1
  ·rw [tracedN_e h]; exact h2
theorem pickT2 {b : Base} {W : World} {x : Blk} {X A B : List Blk} (h : Cl b ((x :: B) ++ (X ++ A)) W) : Cl b (((x :: X) ++ A) ++ B) W := h.perm (by classical exact List.perm_iff_count.2 fun y => by simp only [List.count_append, List.count_cons]; omega)
theorem pickT3 {b : Base} {W : World} {X A B : List Blk} (h : Cl b ((X ++ A) ++ B) W) : Cl b (B ++ A) W := h.pick X (by classical exact List.perm_iff_count.2 fun y => by simp only [List.count_append]; omega)
theorem bld_tr (b : Bo) (t : Sl) (n : Int) (x0 x1 x2 x3 : Value) : ∀ w, (Instr.build 124 [(0, .agg (boC b t).toArray), (1, .int .i64 n), (2, .agg [x0, x1, x2, x3].toArray)].toArray).run Tryz.prog w = .ok (.agg (boC b t ++ [.int .i64 n, x0, x1, x2, x3]).toArray) w := fun _ => by kernel_rfl
set_option maxRecDepth 10000 in
set_option maxHeartbeats 2000000 in
/-- headend/trace.Trace -/
theorem g_Trace (b : Bo) (t : Sl) (ra : Option Addr) (rn rc : Nat) (l : List (Int × Int)) (noise : Int) (hl : b.l.length ≤ 100) (hq : l.length ≤ 100) : GivesX Tryz.prog 18 [.agg (boC b t).toArray, .slice ra rn rc, .int .i64 noise].toArray (fun w => RdI w t b.l ∧ RdB w ⟨ra, rn, rc⟩ l) (fun v Bs => ∃ fv bv : List Value, v = .tuple #[.agg fv.toArray, .agg bv.toArray, .int .i64 (traceE b l noise)] ∧ foundX 64 (traceT b l noise) fv bv Bs) := by
 refine givesX_of Tryz.func18 rfl (bs := [.agg (boC b t).toArray, .slice ra rn rc, .int .i64 noise, undef, undef, undef, undef, undef, undef, undef, undef, undef, undef, undef, undef, undef, undef, undef, undef, undef, undef, undef, undef, undef, undef, undef, undef, undef, undef, undef, undef, undef, undef, undef, undef, undef, undef, undef, undef, undef, undef, undef, undef, undef, undef, undef, undef, undef, undef, undef, undef, undef, undef, undef, undef, undef, undef, undef, undef, undef, undef, undef, undef, undef, undef, undef]) rfl ?_
 intro w hP hW
 refine c_seq (c_reg ?_)
 refine xB hW ?_
 intro g1 W hW
 refine l_alloc hW tyZ38 rfl rfl rfl ?_
 intro g2 W hW
 refine l_alloc hW tyZ31 rfl rfl rfl ?_
 intro g3 W hW
 refine bI ?_
 refine l_end (n_then (c_seq (c_reg ?_)))
 refine dA hW 2 tyA31 ?_
 refine l_callR hW (g_CheckBox b t hl) en36 (hP.1.past hW.below) rfl rfl rfl rfl ?_
 intro W hW
 refine bI ?_
 refine l_end (n_then (c_seq (c_seq (c_reg ?_))))
 refine aI ?_
 refine l_val (r_eql rfl rfl rfl rfl) rfl rfl ?_
 refine l_split ?_ ?_
 ·intro hc1
  replace hc1 := of_decide_eq_true hc1
  obtain ⟨hs, hu, hb1, hb2, hb3, hb4, hb5, hb6, hb7, hb8, hb9, hb10⟩ := chkB_ok (fun e => e hc1)
  refine l_end (n_then ?_)
  refine c_true rfl ?_
  refine c_reg ?_
  refine l_val (r_fieldAddr 0 Tryz.underlying31 rfl tyA26.size rfl rfl rfl) rfl rfl ?_
  refine l_loadP hW 2 tyA26 rfl rfl rfl rfl rfl (by first | rfl | omega | (simp; done) | (simp; omega)) rfl ?_
  refine aS ?_
  refine l_callR hW (g_CheckParts b.s ra rn rc l hq) en37 (hP.2.past hW.below) rfl rfl rfl rfl ?_
  intro W hW
  refine bI ?_
  refine l_end (n_then (c_seq (c_reg ?_)))
  refine l_val (r_fieldAddr 0 Tryz.underlying31 rfl tyA26.size rfl rfl rfl) rfl rfl ?_
  refine l_loadP hW 2 tyA26 rfl rfl rfl rfl rfl (by first | rfl | omega | (simp; done) | (simp; omega)) rfl ?_
  refine aI ?_
  refine l_call hW (g_Bound _ _) en44 rfl rfl rfl rfl ?_
  intro W hW
  refine l_val (r_move (v := .tuple _) rfl rfl) rfl rfl ?_
  refine l_val (r_extract (v := .int _ _) rfl rfl rfl) rfl rfl ?_
  refine l_val (r_extract (v := .int _ _) rfl rfl rfl) rfl rfl ?_
  refine bI ?_
  refine bI ?_
  refine l_end (n_then (c_seq (c_seq (c_reg ?_))))
  refine aI ?_
  refine l_val (r_eql rfl rfl rfl rfl) rfl rfl ?_
  refine l_split ?_ ?_
  ·intro hc2
   replace hc2 := of_decide_eq_true hc2
   obtain ⟨-, hpe, hnd⟩ := parts_ok (fun e => e hc2)
   obtain ⟨hq2, hbb⟩ := subsE_ok (show ¬ subsE b.s l ≠ 0 by omega)
   refine l_end (n_then ?_)
   refine c_true rfl ?_
   refine c_reg ?_
   refine aI ?_
   refine bI ?_
   refine l_end (n_then (c_seq (c_seq (c_reg ?_))))
   refine aI ?_
   refine l_val (r_eql rfl rfl rfl rfl) rfl rfl ?_
   refine l_split ?_ ?_
   ·intro hc3
    replace hc3 := of_decide_eq_true hc3
    have hbv0 : boundV b.s noise ≤ 17544 ∧ 0 ≤ boundV b.s noise := by
     have hno : 0 ≤ noise ∧ noise ≤ 8 := Classical.byContradiction fun h => absurd ((bound_arg hs h).2.symm.trans hc3) (by decide)
     rw [(bound_ok hs hno).1]
     have := schB_iff.1 hs
     have := lim_b (d := b.s.d) (n := noise) (by omega) (by omega) hno.1 hno.2
     omega
    refine aB ?_
    refine l_valG (r_fieldAddr 26 Tryz.underlying31 rfl tyC3.size rfl rfl rfl) (by kernel_rfl) rfl ?_
    refine dG hW 2 tyC3 ?_
    refine gI ?_
    refine l_valG (r_addZ rfl rfl rfl (by omega)) (by kernel_rfl) rfl ?_
    refine l_valG (r_gtr rfl rfl rfl rfl) (by kernel_rfl) rfl ?_
    refine l_split ?_ ?_
    ·intro hc4
     replace hc4 := of_decide_eq_true hc4
     refine kB ?_
     refine l_end (n_then ?_)
     refine c_true rfl ?_
     refine c_reg ?_
     refine bI ?_
     refine l_end (n_then (c_seq (c_seq (c_reg ?_))))
     refine aI ?_
     refine l_val (r_neq (b := true) rfl rfl rfl (by decide)) rfl rfl ?_
     refine l_end (n_then ?_)
     refine c_true rfl ?_
     refine c_seq (c_reg ?_)
     refine l_val (r_build (ps := []) (bld38_) rfl rfl) rfl rfl ?_
     refine l_val (r_build (ps := []) (bld31_) rfl rfl) rfl rfl ?_
     refine aI ?_
     refine sA hW 1 tyA38 ?_
     intro W hW
     refine sA hW 0 tyA31 ?_
     intro W hW
     refine bI ?_
     refine l_end (n_then (c_ret (r_then ?_)))
     refine ret_cell2_tmp hW 1 0 tyA38 tyA31 rfl rfl rfl rfl rfl (by first | rfl | exact kc_len _ | exact kcf_len _ | exact boC_len _ _ | (simp; done)) (by first | rfl | exact kc_len _ | exact kcf_len _ | exact boC_len _ _ | (simp; done)) rfl ?_
     have hno : 0 ≤ noise ∧ noise ≤ 8 := Classical.byContradiction fun h => absurd ((bound_arg hs h).2.symm.trans hc3) (by decide)
     have e : traceE b l noise = 9 := trE_f (fun e => e hc1) (fun e => e hc2) hno (by rw [← (bound_ok hs hno).1]; exact hc4)
     exact ⟨_, [], rfl, ⟨z38, z31, by rw [e]; rfl, by rw [traceT, if_neg (by rw [e]; decide), z38_no, z31_no]; exact found_no 64⟩, hW.sub (List.nil_sublist _)⟩
    ·intro hc4
     replace hc4 := of_decide_eq_false hc4
     refine kB ?_
     refine l_end (n_then ?_)
     refine c_false rfl ?_
     refine c_skip (n_then (c_seq (c_seq (c_reg ?_))))
     refine aI ?_
     refine l_val (r_neq rfl rfl rfl rfl) rfl rfl ?_
     refine l_split ?_ ?_
     ·intro hc5
      replace hc5 := of_decide_eq_true hc5
      exact absurd hc3 hc5
     ·intro hc5
      replace hc5 := of_decide_eq_false hc5
      have hno : 0 ≤ noise ∧ noise ≤ 8 := Classical.byContradiction fun h => absurd ((bound_arg hs h).2.symm.trans hc3) (by decide)
      have hbv := (bound_ok hs hno).1
      obtain ⟨nn, rfl⟩ : ∃ nn : Nat, noise = nn := ⟨noise.toNat, by omega⟩
      have hd0 := (schB_iff.1 hs).2.2.1
      have hln := lim_nat (d := b.s.d) (n := (nn : Int)) hd0 hno.1
      rw [Int.toNat_natCast] at hln
      have hbs6 : b.s.d ≤ 6 := (schB_iff.1 hs).2.2.2.1
      have hp6 := p2_le (n := b.s.d.toNat) (by omega)
      refine l_end (n_then ?_)
      refine c_false rfl ?_
      refine c_skip (n_then (c_seq (c_reg ?_)))
      refine l_val (r_fieldAddr 6 Tryz.underlying31 rfl tyC27.size rfl rfl rfl) rfl rfl ?_
      refine dC hW 2 tyC27 ?_
      refine l_callX hW (g_Clone t.a t.n t.c b.l (by omega)) en60 (hP.1.past hW.below) rfl rfl rfl rfl ?_
      rintro _ BC W ⟨s2, rfl, hNC⟩ hW
      refine l_val (r_fieldAddr 6 Tryz.underlying31 rfl tyC27.size rfl rfl rfl) rfl rfl ?_
      refine l_storeC hW 2 tyC27 (v := s2.v) rfl rfl rfl rfl rfl rfl (by rw [boC_len]; decide) rfl ?_
      intro W hW
      replace hW := (show Cl _ ([_, _, ⟨_, (boC b t).set 6 s2.v, _⟩] ++ BC) _ from hW)
      rw [boC_setL] at hW
      refine l_end (n_then (c_seq ?_))
      refine c_regMv hW 1 50 _ _ [] [.q, .q, .q, .mk 0, .tail, .tail, .tail, .tail] [⟨52, fun _ => NewSl 64 2 l.length (sl2 l)⟩] [[]] [3] [0, 0, 0, 4, 12, 31, 63, 127] [] [.q, .q, .q, .q, .q, .q, .tail, .tail] [] [] [2, 3] [4, 5, 6, 7] [0] (by kernel_rfl) rfl rfl rfl (r_move (v := .int _ _) rfl rfl) (fun _ _ _ h => by first | exact h | exact h.elim) (by kernel_rfl) (by kernel_rfl) rfl (by kernel_rfl) (by kernel_rfl) [(0, _, _)] rfl ⟨rfl, trivial⟩ ⟨fun _ w hs hC => run_loadP_at tyA31 2 rfl rfl (hs 2 _ (by decide) rfl) (by rw [boC_len]; decide) (take_all (boC_len _ _)) w hC, _, rfl, trivial⟩ ?_
      refine yS ?_
      refine y_callX 0 (g_CloneB ra rn rc l (by omega)) en61 rfl rfl (fun L2 w hs hC => hP.2.past hC.below) rfl rfl ?_
      refine y_tail ?_
      refine y_made ?_
      rintro _ BLc ⟨aL, cL, rfl, hOL⟩
      refine ⟨[], [], ⟨rfl, rfl⟩, ?_⟩
      refine y_loadA (BLc.length + 2) tyA31 rfl rfl rfl rfl (at_app rfl) (boC_len _ _) (by simp) ?_
      refine y_val (r_build (ps := [(1, .slice _ _ _)]) (bld38_1 _ _ _) rfl rfl) rfl rfl ?_
      refine y_val (r_build (ps := [(0, .agg _), (1, .int _ _), (2, .agg _)]) (bld_tr _ _ _ _ _ _ _) rfl rfl) rfl rfl ?_
      refine y_tail ?_
      intro W hW
      refine l_box hW (cs := boC b s2 ++ trR nn Sl.no ⟨aL, l.length, cL⟩ 0 0) rfl rfl rfl rfl ?_
      intro gx W hW
      refine l_val (r_assign (v := .pointer _) rfl rfl) rfl rfl ?_
      refine l_end (n_then (c_seq (c_reg ?_)))
      refine aP ?_
      refine l_callS (B := [_] ++ BLc) (L := [_, _, _] ++ BC) (g_run b s2 gx nn aL cL l BLc hOL hs hu (by omega) (by omega) (by omega) (by omega) (by omega) (by omega) hl (by omega) hbb hnd (by omega)) (show Cl _ (([_] ++ BLc) ++ ([_, _, _] ++ BC)) _ from hW) en62 (fun W hC => hNC.rep.at hC (List.sublist_append_right _ BC)) rfl rfl rfl rfl ?_
      rintro _ _ W ⟨n2, la2, lc2, BN, BL, rfl, h1, h2⟩ hW
      have htl : (traced (2 * nn + 1) ⟨b, l, [], 0⟩).1.b.l = b.l := (traced_ask hs hnd (fun x hx => by have := all_lt hx; omega) (Tin.first hs (by omega) (by omega) hbb hnd)).l
      obtain ⟨R, hR⟩ : ∃ R, R = traced (2 * nn + 1) ⟨b, l, [], 0⟩ := ⟨_, rfl⟩
      rw [← hR] at h1 h2 hW htl
      replace hW := pickT2 (X := [_, _, _]) hW
      refine l_end (n_then (c_seq ?_))
      refine c_regY hW [2, 1] [.q, .q, .q, .q, .q, .q, .q, .q, .s, .s, .q] [0, 1, 3, 7, 0, 16, 48, 112, 15, 511, 1023] (by kernel_rfl) (by kernel_rfl) ?_
      refine y_val (r_move (v := .pointer _) rfl rfl) rfl rfl ?_
      refine y_val (r_nilCheck rfl rfl) rfl rfl ?_
      refine y_val (r_fieldAddr 29 Tryz.underlying124 rfl tyA38.size rfl rfl rfl) rfl rfl ?_
      refine y_loadP 0 tyA38 rfl rfl rfl rfl rfl (trR_len (k := 32) (by decide)) (show _ = fiC n2 ⟨la2, R.1.l.length, lc2⟩ R.1.a R.2 from rfl) (by decide) ?_
      refine y_val (r_move (v := .pointer _) rfl rfl) rfl rfl ?_
      refine y_val (r_nilCheck rfl rfl) rfl rfl ?_
      refine y_val (r_fieldAddr 0 Tryz.underlying124 rfl tyA31.size rfl rfl rfl) rfl rfl ?_
      refine y_loadP 0 tyA31 rfl rfl rfl rfl rfl (by rw [List.length_append, boC_len]; omega) (boC_boxR _ _ _) (by decide) ?_
      refine y_storeA 2 tyA38 rfl rfl rfl rfl rfl rfl (by first | rfl | exact kc_len _ | exact kcf_len _ | exact boC_len _ _ | (simp; done)) (by first | rfl | exact kc_len _ | exact kcf_len _ | exact boC_len _ _ | (simp; done)) (by first | exact kc_one _ | exact kcf_one _ | exact boC_one _ _ | (simp [Value.oneCell']; done)) (by decide) ?_
      refine y_storeA 1 tyA31 rfl rfl rfl rfl rfl rfl (by first | rfl | exact kc_len _ | exact kcf_len _ | exact boC_len _ _ | (simp; done)) (by first | rfl | exact kc_len _ | exact kcf_len _ | exact boC_len _ _ | (simp; done)) (by first | exact kc_one _ | exact kcf_one _ | exact boC_one _ _ | (simp [Value.oneCell']; done)) (by decide) ?_
      refine y_val (r_assign (v := .int _ _) rfl rfl) rfl rfl ?_
      refine y_end ?_
      intro W hW
      refine n_then (c_ret ?_)
      refine ret_cell2_tmp hW 2 1 tyA38 tyA31 rfl rfl rfl rfl rfl (by first | rfl | exact kc_len _ | exact kcf_len _ | exact boC_len _ _ | (simp; done)) (by first | rfl | exact kc_len _ | exact kcf_len _ | exact boC_len _ _ | (simp; done)) rfl ?_
      have e : traceE b l nn = 0 := trE_0 (fun e => e hc1) (fun e => e hc2) hno (by rw [← (bound_ok hs hno).1]; exact hc4)
      exact ⟨_, (BN ++ BL) ++ BC, rfl, ⟨_, _, by rw [e]; rfl, by rw [traceT, if_pos e, Int.toNat_natCast, ← hR]; exact ⟨n2, la2, lc2, s2, BN, BL, BC, rfl, rfl, rfl, h1, h2, by rw [htl]; exact hNC⟩⟩, pickT3 (show Cl _ (([_, _, _, _] ++ BC) ++ (BN ++ BL)) _ from hW)⟩
   ·intro hc3
    replace hc3 := of_decide_eq_false hc3
    refine aB ?_
    refine lN ?_
    refine lN ?_
    refine lN ?_
    refine lN ?_
    refine lN ?_
    refine kB ?_
    refine l_end (n_then ?_)
    refine c_false rfl ?_
    refine c_skip (n_then (c_seq (c_seq (c_reg ?_))))
    refine aI ?_
    refine l_val (r_neq rfl rfl rfl rfl) rfl rfl ?_
    refine l_split ?_ ?_
    ·intro hc6
     replace hc6 := of_decide_eq_true hc6
     refine l_end (n_then ?_)
     refine c_true rfl ?_
     refine c_seq (c_reg ?_)
     refine l_val (r_build (ps := []) (bld38_) rfl rfl) rfl rfl ?_
     refine l_val (r_build (ps := []) (bld31_) rfl rfl) rfl rfl ?_
     refine aI ?_
     refine sA hW 1 tyA38 ?_
     intro W hW
     refine sA hW 0 tyA31 ?_
     intro W hW
     refine bI ?_
     refine l_end (n_then (c_ret (r_then ?_)))
     refine ret_cell2_tmp hW 1 0 tyA38 tyA31 rfl rfl rfl rfl rfl (by first | rfl | exact kc_len _ | exact kcf_len _ | exact boC_len _ _ | (simp; done)) (by first | rfl | exact kc_len _ | exact kcf_len _ | exact boC_len _ _ | (simp; done)) rfl ?_
     have hno : ¬ (0 ≤ noise ∧ noise ≤ 8) := fun h => hc3 (bound_ok hs h).2
     have hbe := (bound_arg hs hno).2
     have e : traceE b l noise = 2 := trE_n (fun e => e hc1) (fun e => e hc2) hno
     exact ⟨_, [], rfl, ⟨z38, z31, by rw [e, hbe]; rfl, by rw [traceT, if_neg (by rw [e]; decide), z38_no, z31_no]; exact found_no 64⟩, hW.sub (List.nil_sublist _)⟩
    ·intro hc6
     replace hc6 := of_decide_eq_false hc6
     exact (hc6 hc3).elim
  ·intro hc2
   replace hc2 := of_decide_eq_false hc2
   refine l_end (n_then ?_)
   refine c_false rfl ?_
   refine c_skip (n_then (c_seq (c_seq (c_reg ?_))))
   refine aI ?_
   refine l_val (r_eql rfl rfl rfl rfl) rfl rfl ?_
   refine l_split ?_ ?_
   ·intro hc7
    replace hc7 := of_decide_eq_true hc7
    exact absurd hc7 hc2
   ·intro hc7
    replace hc7 := of_decide_eq_false hc7
    refine aB ?_
    refine lN ?_
    refine lN ?_
    refine lN ?_
    refine lN ?_
    refine lN ?_
    refine kB ?_
    refine l_end (n_then ?_)
    refine c_false rfl ?_
    refine c_skip (n_then (c_seq (c_seq (c_reg ?_))))
    refine aI ?_
    refine l_val (r_neq rfl rfl rfl rfl) rfl rfl ?_
    refine l_split ?_ ?_
    ·intro hc8
     replace hc8 := of_decide_eq_true hc8
     refine l_end (n_then ?_)
     refine c_true rfl ?_
     refine c_seq (c_reg ?_)
     refine l_val (r_build (ps := []) (bld38_) rfl rfl) rfl rfl ?_
     refine l_val (r_build (ps := []) (bld31_) rfl rfl) rfl rfl ?_
     refine aI ?_
     refine sA hW 1 tyA38 ?_
     intro W hW
     refine sA hW 0 tyA31 ?_
     intro W hW
     refine bI ?_
     refine l_end (n_then (c_ret (r_then ?_)))
     refine ret_cell2_tmp hW 1 0 tyA38 tyA31 rfl rfl rfl rfl rfl (by first | rfl | exact kc_len _ | exact kcf_len _ | exact boC_len _ _ | (simp; done)) (by first | rfl | exact kc_len _ | exact kcf_len _ | exact boC_len _ _ | (simp; done)) rfl ?_
     have e : traceE b l noise = partsE b.s l := trE_p (fun e => e hc1) hc2
     exact ⟨_, [], rfl, ⟨z38, z31, by rw [e]; rfl, by rw [traceT, if_neg (by rw [e]; exact hc2), z38_no, z31_no]; exact found_no 64⟩, hW.sub (List.nil_sublist _)⟩
    ·intro hc8
     replace hc8 := of_decide_eq_false hc8
     exact (hc8 hc7).elim
 ·intro hc1
  replace hc1 := of_decide_eq_false hc1
  refine l_end (n_then ?_)
  refine c_false rfl ?_
  refine c_skip (n_then (c_seq (c_reg ?_)))
  refine l_val (r_fieldAddr 0 Tryz.underlying31 rfl tyA26.size rfl rfl rfl) rfl rfl ?_
  refine l_loadP hW 2 tyA26 rfl rfl rfl rfl rfl (by first | rfl | omega | (simp; done) | (simp; omega)) rfl ?_
  refine aI ?_
  refine l_call hW (g_Bound _ _) en44 rfl rfl rfl rfl ?_
  intro W hW
  refine l_val (r_move (v := .tuple _) rfl rfl) rfl rfl ?_
  refine l_val (r_extract (v := .int _ _) rfl rfl rfl) rfl rfl ?_
  refine l_val (r_extract (v := .int _ _) rfl rfl rfl) rfl rfl ?_
  refine bI ?_
  refine bI ?_
  refine l_end (n_then (c_seq (c_seq (c_reg ?_))))
  refine aI ?_
  refine l_val (r_eql rfl rfl rfl rfl) rfl rfl ?_
  refine l_split ?_ ?_
  ·intro hc9
   replace hc9 := of_decide_eq_true hc9
   exact absurd hc9 hc1
  ·intro hc9
   replace hc9 := of_decide_eq_false hc9
   refine l_end (n_then ?_)
   refine c_false rfl ?_
   refine c_skip (n_then (c_seq (c_seq (c_reg ?_))))
   refine aI ?_
   refine l_val (r_eql rfl rfl rfl rfl) rfl rfl ?_
   refine l_split ?_ ?_
   ·intro hc10
    replace hc10 := of_decide_eq_true hc10
    exact absurd hc10 hc9
   ·intro hc10
    replace hc10 := of_decide_eq_false hc10
    refine aB ?_
    refine lN ?_
    refine lN ?_
    refine lN ?_
    refine lN ?_
    refine lN ?_
    refine kB ?_
    refine l_end (n_then ?_)
    refine c_false rfl ?_
    refine c_skip (n_then (c_seq (c_seq (c_reg ?_))))
    refine aI ?_
    refine l_val (r_neq rfl rfl rfl rfl) rfl rfl ?_
    refine l_split ?_ ?_
    ·intro hc11
     replace hc11 := of_decide_eq_true hc11
     refine l_end (n_then ?_)
     refine c_true rfl ?_
     refine c_seq (c_reg ?_)
     refine l_val (r_build (ps := []) (bld38_) rfl rfl) rfl rfl ?_
     refine l_val (r_build (ps := []) (bld31_) rfl rfl) rfl rfl ?_
     refine aI ?_
     refine sA hW 1 tyA38 ?_
     intro W hW
     refine sA hW 0 tyA31 ?_
     intro W hW
     refine bI ?_
     refine l_end (n_then (c_ret (r_then ?_)))
     refine ret_cell2_tmp hW 1 0 tyA38 tyA31 rfl rfl rfl rfl rfl (by first | rfl | exact kc_len _ | exact kcf_len _ | exact boC_len _ _ | (simp; done)) (by first | rfl | exact kc_len _ | exact kcf_len _ | exact boC_len _ _ | (simp; done)) rfl ?_
     have e : traceE b l noise = chkB b := trE_b hc1
     exact ⟨_, [], rfl, ⟨z38, z31, by rw [e]; rfl, by rw [traceT, if_neg (by rw [e]; exact hc1), z38_no, z31_no]; exact found_no 64⟩, hW.sub (List.nil_sublist _)⟩
    ·intro hc11
     replace hc11 := of_decide_eq_false hc11
     exact (hc11 hc10).elim

end Go.Proofs.YtoegpalacppllaaGreat

/- What is heard, by the program. -/
namespace Go.Proofs.YtoegpalacppllaaGreat
open Go.RowKit Pl
open Tr Hn
set_option maxRecDepth 10000 in
set_option maxHeartbeats 1000000 in
/-- headend/trace.Hear -/
theorem g_HearN (h : Hu) (pa : Option Addr) (pn pc : Nat) (r q : Sl) (ss : List Sl) (n : Nat) (hsm : Small h) (hfit : pn * 48 ≤ 140737488351232) : GivesX Tryz.prog 29 [.agg [.int .i64 h.users, .slice pa pn pc, .slice r.a r.n r.c, .slice q.a q.n q.c, .int .i64 h.rounds].toArray, .int .i64 (n : Int)].toArray (fun w => RdHu w h ⟨pa, pn, pc⟩ r q ss) (fun v Bs => ∃ a, v = .tuple #[a, .int .i64 ((hear h (n : Int)).2 : Int)] ∧ huX (hear h (n : Int)).1 a Bs) := by
 refine givesX_of Tryz.func29 rfl (bs := [.agg [.int .i64 h.users, .slice pa pn pc, .slice r.a r.n r.c, .slice q.a q.n q.c, .int .i64 h.rounds].toArray, .int .i64 (n : Int), undef, undef, undef, undef, undef, undef, undef, undef, undef, undef, undef, undef, undef, undef, undef, undef, undef, undef, undef, undef, undef, undef, undef, undef, undef, undef, undef, undef, undef, undef, undef, undef, undef, undef, undef, undef, undef, undef, undef, undef, undef, undef, undef, undef, undef, undef, undef, undef, undef, undef, undef, undef, undef, undef, undef, undef, undef, undef, undef, undef, undef, undef, undef, undef, undef, undef, undef, undef, undef, undef, undef, undef, undef, undef, undef, undef, undef, undef, undef, undef, undef, undef, undef, undef, undef, undef, undef, undef, undef, undef, undef, undef, undef, undef, undef, undef, undef, undef, undef, undef, undef, undef, undef, undef, undef, undef, undef, undef, undef, undef, undef, undef, undef, undef, undef, undef, undef, undef, undef, undef, undef, undef, undef, undef, undef, undef, undef, undef, undef]) rfl ?_
 intro w hP hW
 have hpn := hP.pn
 have hpl := hP.len
 simp only at hpn
 have hgl := hP.gl
 have hgs := hsm.sum
 have hone := hsm.one
 have hrl := hP.rest.len
 have hl1 := hone h.rest (by simp [groups])
 have hl2 := hone h.named (by simp [groups])
 refine c_seq (c_reg ?_)
 refine xB hW ?_
 intro g1 W hW
 refine l_alloc hW tyZ69 rfl rfl rfl ?_
 intro g2 W hW
 refine bI ?_
 refine l_end (n_then (c_seq (c_reg ?_)))
 refine dA hW 1 tyA69 ?_
 refine l_callX hW (g_Variants h pa pn pc r q ss hsm hfit) en39 (hP.past hW.below) rfl rfl rfl rfl ?_
 rintro _ Bs0 W ⟨s, rfl, hs⟩ hW
 refine l_val (r_move (v := .tuple _) rfl rfl) rfl rfl ?_
 refine l_val (r_extract (v := .slice _ _ _) rfl rfl rfl) rfl rfl ?_
 refine l_val (r_extract (v := .int _ _) rfl rfl rfl) rfl rfl ?_
 refine bS ?_
 refine bI ?_
 refine l_end (n_then (c_seq (c_seq (c_reg ?_))))
 refine aI ?_
 refine l_val (r_neq rfl rfl rfl rfl) rfl rfl ?_
 refine l_split ?_ ?_
 ·intro hc1
  replace hc1 := of_decide_eq_true hc1
  refine l_end (n_then ?_)
  refine c_true rfl ?_
  refine c_seq (c_reg ?_)
  refine l_val (r_build (ps := []) (bld69_) rfl rfl) rfl rfl ?_
  refine aI ?_
  refine sA hW 0 tyA69 ?_
  intro W hW
  refine bI ?_
  refine l_end (n_then (c_ret (r_then ?_)))
  refine rT hW 0 tyA69 ?_
  have e := hear_8 (x := (n : Int)) (chk_not hc1)
  exact ⟨_, [], rfl, ⟨.agg (huC noHunt Sl.no Sl.no Sl.no).toArray, by rw [e]; exact congrArg (fun z => Value.tuple #[_, .int .i64 z]) (chkH_no (chk_not hc1)), by rw [e]; exact ⟨_, _, _, _, rfl, no_newHu⟩⟩, hW.sub (List.nil_sublist _)⟩
 ·intro hc1
  replace hc1 := of_decide_eq_false hc1
  have hv := chk_valid (h := h) (by omega)
  have hvb := (valid_iff h).2 hv
  have hv1 := hv.u1
  have hv2 := hv.r1
  have hv3 := hv.r2
  have hv4 := hv.p
  have hv5 := hv.u2
  rw [varsR_yes hvb] at hs
  refine l_end (n_then ?_)
  refine c_false rfl ?_
  refine c_skip (n_then (c_seq (c_seq (c_reg ?_))))
  refine aI ?_
  refine l_val (r_lssN (b := false) (n := 0) rfl rfl rfl (decide_eq_false (by omega))) rfl rfl ?_
  refine aB ?_
  refine l_valG (r_move (v := .slice _ _ _) rfl rfl) (by kernel_rfl) rfl ?_
  refine gI ?_
  refine l_callRG hW (g_Contains s.a s.n s.c (variants h) (n : Int) (by rw [vars_len]; omega)) en79 (hs.rep.at hW (List.sublist_append_right _ _)) (by kernel_rfl) rfl rfl rfl ?_
  intro W hW
  refine l_split ?_ ?_
  ·intro hc2
   replace hW := hW.sub (List.sublist_append_left [_, _] _)
   rw [hv.has_variant _ (by omega)] at hc2
   have hvx := of_decide_eq_true hc2
   have hvx1 : n ≤ h.ps.length := by omega
   have hvx2 : n = 0 → h.rest.length ≠ 0 := fun h0 h1 => hvx.2 (by omega) (List.eq_nil_of_length_eq_zero h1)
   refine l_valG (r_not rfl rfl) (by kernel_rfl) rfl ?_
   refine kB ?_
   refine l_end (n_then ?_)
   refine c_false rfl ?_
   refine c_skip (n_then (c_seq (c_seq (c_reg ?_))))
   refine l_val (r_fieldAddr 4 Tryz.underlying69 rfl tyC3.size rfl rfl rfl) rfl rfl ?_
   refine dC hW 1 tyC3 ?_
   refine l_val (r_eql rfl rfl rfl rfl) rfl rfl ?_
   refine l_split ?_ ?_
   ·intro hc3
    replace hc3 := of_decide_eq_true hc3
    refine l_end (n_then ?_)
    refine c_true rfl ?_
    refine c_seq (c_reg ?_)
    refine l_val (r_build (ps := []) (bld69_) rfl rfl) rfl rfl ?_
    refine sA hW 0 tyA69 ?_
    intro W hW
    refine bI ?_
    refine l_end (n_then (c_ret (r_then ?_)))
    refine rT hW 0 tyA69 ?_
    have e := hear_9 (x := (n : Int)) hvb (by omega) (by omega)
    exact ⟨_, [], rfl, ⟨.agg (huC noHunt Sl.no Sl.no Sl.no).toArray, by rw [e]; rfl, by rw [e]; exact ⟨_, _, _, _, rfl, no_newHu⟩⟩, hW.sub (List.nil_sublist _)⟩
   ·intro hc3
    replace hc3 := of_decide_eq_false hc3
    refine l_end (n_then ?_)
    refine c_false rfl ?_
    refine c_skip (n_then (c_seq ?_))
    refine c_regV hW [] [.q, .q, .q, .q, .q, .q, .q, .mk 0, .q, .q, .mk 1, .tail, .tail, .tail] [⟨43, fun _ v Bs => ∃ s : Sl, v = s.v ∧ NewI s (h.named) Bs⟩, ⟨46, fun _ v Bs => ∃ s : Sl, v = s.v ∧ NewI s (h.rest) Bs⟩] [[], []] [7, 10] [0, 1, 0, 4, 12, 0, 32, 96, 0, 256, 992, 2047, 0, 8191] [] [.q, .q, .q, .q, .q, .q, .q, .q, .q, .q, .q, .q, .mk 0, .st 0] [] [] [0, 1, 2, 3, 4, 5, 6, 7, 8, 9, 10] [11, 13] 12 8 (by kernel_rfl) (by kernel_rfl) rfl (by kernel_rfl) (by kernel_rfl) rfl (al_agg tyZ69 rfl) rfl ?_
    refine y_val (r_fieldAddr 0 Tryz.underlying69 rfl tyC3.size rfl rfl rfl) rfl rfl ?_
    refine y_loadC 1 tyC3 rfl rfl rfl rfl rfl rfl (by decide) ?_
    refine y_val (r_fieldAddr 4 Tryz.underlying69 rfl tyC3.size rfl rfl rfl) rfl rfl ?_
    refine y_loadC 1 tyC3 rfl rfl rfl rfl rfl rfl (by decide) ?_
    refine y_val (r_addZ rfl rfl rfl (by omega)) rfl rfl ?_
    refine y_val (r_fieldAddr 3 Tryz.underlying69 rfl tyC27.size rfl rfl rfl) rfl rfl ?_
    refine y_loadC 1 tyC27 rfl rfl rfl rfl rfl rfl (by decide) ?_
    refine y_callX 0 (g_Clone (q).a (q).n (q).c (h.named) (by omega)) en60 rfl rfl (fun L2 w hs hC => hP.named.past hC.below) rfl rfl ?_
    refine y_val (r_fieldAddr 2 Tryz.underlying69 rfl tyC27.size rfl rfl rfl) rfl rfl ?_
    refine y_loadC 1 tyC27 rfl rfl rfl rfl rfl rfl (by decide) ?_
    refine y_callX 1 (g_Clone (r).a (r).n (r).c (h.rest) (by omega)) en60 rfl rfl (fun L2 w hs hC => hP.rest.past hC.below) rfl rfl ?_
    refine y_tail ?_
    refine y_made ?_
    rintro _ Bs1 ⟨q1, rfl, hq1⟩
    refine y_made ?_
    rintro _ Bs2 ⟨r1, rfl, hr1⟩
    refine ⟨[], [], ⟨rfl, rfl⟩, ?_⟩
    refine y_alloc 0 tyZ69 rfl rfl rfl rfl ?_
    refine y_val (r_build (ps := [(0, .int _ _), (4, .int _ _), (3, .slice _ _ _), (2, .slice _ _ _)]) (bld69_0_4_3_2 _ _ _ _ _ _ _ _) rfl rfl) rfl rfl ?_
    refine y_stA 0 tyA69 rfl rfl rfl rfl (by first | rfl | exact kc_len _ | exact kcf_len _ | exact boC_len _ _ | (simp; done)) (by first | exact kc_one _ | exact kcf_one _ | exact boC_one _ _ | (simp [Value.oneCell']; done)) ?_
    refine y_end ?_
    refine y_made ?_
    rintro _ _ ⟨g3, rfl, rfl, -⟩
    intro W hW
    replace hW := (show Cl _ (_ :: (Bs2 ++ (Bs1 ++ [_, _]))) _ from hW).perm (List.Perm.cons _ perm2)
    refine n_then (c_seq (c_seq (c_reg ?_)))
    refine l_val (r_fieldAddr 1 Tryz.underlying69 rfl tyC67.size rfl rfl rfl) rfl rfl ?_
    refine dC hW 2 tyC67 ?_
    refine l_val (r_lenSlice Tryz.underlying67 rfl rfl) rfl rfl ?_
    refine aI ?_
    refine l_end (n_then (c_block ?_))
    refine c_loop (fun (x : Nat × Option Addr × Nat × List Blk × List Blk × List Sl) (j : Nat → Value) => [.agg [.int .i64 h.users, .slice pa pn pc, .slice r.a r.n r.c, .slice q.a q.n q.c, .int .i64 h.rounds].toArray, .int .i64 (n : Int), .pointer (some ⟨g1, 0, none⟩), j 3, .pointer (some ⟨g2, 0, none⟩), .int .i64 0, .slice s.a s.n s.c, .int .i64 (chkH h), .pointer (some ⟨g3, 0, none⟩), j 9, j 10, j 11, j 12, j 13, .tuple #[.slice s.a s.n s.c, .int .i64 (chkH h)], .agg ([.int .i64 h.users, .slice pa pn pc, .slice r.a r.n r.c, .slice q.a q.n q.c, .int .i64 h.rounds]).toArray, .tuple #[.slice s.a s.n s.c, .int .i64 (chkH h)], .slice s.a s.n s.c, .int .i64 (chkH h), .int .i64 (chkH h), .bool false, j 21, j 22, .int .i64 (n : Int), .bool false, .bool false, .slice s.a s.n s.c, .int .i64 (n : Int), .bool true, .bool false, .bool false, j 31, .pointer (some ⟨g1, 4, none⟩), .int .i64 h.rounds, .bool false, j 35, .pointer (some ⟨g1, 0, none⟩), .int .i64 h.users, .pointer (some ⟨g1, 4, none⟩), .int .i64 h.rounds, .int .i64 (h.rounds + (1 : Int)), .pointer (some ⟨g1, 3, none⟩), .slice q.a q.n q.c, .slice q1.a q1.n q1.c, .pointer (some ⟨g1, 2, none⟩), .slice r.a r.n r.c, .slice r1.a r1.n r1.c, .agg ([.int .i64 h.users, .slice none 0 0, .slice r1.a r1.n r1.c, .slice q1.a q1.n q1.c, .int .i64 (h.rounds + (1 : Int))]).toArray, .pointer (some ⟨g1, 1, none⟩), .slice pa pn pc, .int .i64 (pn : Int), .int .i64 (x.1 : Int), j 52, j 53, j 54, j 55, j 56, j 57, j 58, j 59, j 60, j 61, j 62, j 63, j 64, j 65, j 66, j 67, j 68, j 69, j 70, j 71, j 72, j 73, j 74, j 75, j 76, j 77, j 78, j 79, j 80, j 81, j 82, j 83, j 84, j 85, j 86, j 87, j 88, j 89, j 90, j 91, j 92, j 93, j 94, j 95, j 96, j 97, j 98, j 99, j 100, j 101, j 102, j 103, j 104, j 105, j 106, j 107, j 108, j 109, j 110, j 111, j 112, j 113, j 114, j 115, j 116, j 117, j 118, j 119, j 120, j 121, j 122, j 123, j 124, j 125, j 126, j 127, j 128, j 129, j 130]) (fun (x : Nat × Option Addr × Nat × List Blk × List Blk × List Sl) => [⟨g3, [.int .i64 h.users, .slice x.2.1 x.1 x.2.2.1, .slice r1.a r1.n r1.c, .slice q1.a q1.n q1.c, .int .i64 (h.rounds + 1)], 69⟩, ⟨g2, z69, 69⟩, ⟨g1, [.int .i64 h.users, .slice pa pn pc, .slice r.a r.n r.c, .slice q.a q.n q.c, .int .i64 h.rounds], 69⟩] ++ (x.2.2.2.1 ++ x.2.2.2.2.1)) (fun (x : Nat × Option Addr × Nat × List Blk × List Blk × List Sl) => x.1 ≤ pn ∧ OwnSl 146 2 x.2.1 x.1 x.2.2.1 (x.2.2.2.2.2.map Sl.v) x.2.2.2.1 ∧ x.2.2.2.2.2.length = 2 * x.1 ∧ NewSs x.2.2.2.2.2 h.ps x.2.2.2.2.1 ∧ List.Sublist (Bs2 ++ Bs1) x.2.2.2.2.1) (fun (x : Nat × Option Addr × Nat × List Blk × List Blk × List Sl) => pn - x.1) (0, none, 0, [], Bs2 ++ Bs1, []) (by kernel_rfl) hW ⟨Nat.zero_le _, OwnSl.nil 146 2, rfl, NewSs.nil _ _, List.Sublist.refl _⟩ ?_
    intro x j W hx hW
    obtain ⟨i, a, c, Bs, N, ssN⟩ := x
    obtain ⟨hx, hO, hl, hN, hsub⟩ := hx
    simp only at hx hO hl hN hsub
    refine c_seq (c_reg ?_)
    refine l_val (r_lssN rfl rfl rfl rfl) rfl rfl ?_
    refine l_split ?_ ?_
    ·intro hc4
     replace hc4 := of_decide_eq_true hc4
     have hlt : i < pn := by omega
     obtain ⟨b0, o0, rfl⟩ := hP.ptr (by omega)
     obtain ⟨s0, s1, l0, l1, e0, e1, f0, f1, c0, c1, hr0, hr1⟩ := hP.side2 hlt
     have hl0 := hsm.one l0 (by simp [groups, List.mem_of_getElem? f0])
     have hl1 := hsm.one l1 (by simp [groups, List.mem_of_getElem? f1])
     refine l_end (n_then (c_seq ?_))
     refine c_true rfl ?_
     refine c_skip (n_then (c_seq (c_block (c_seq (c_reg ?_)))))
     refine l_val (r_indexAddrSl (n := i) Tryz.underlying67 tyA146.size rfl rfl rfl (by omega)) rfl rfl ?_
     refine l_loadF2 hW tyA146 c0 c1 rfl rfl rfl rfl ?_
     refine l_alloc hW tyZ146 rfl rfl rfl ?_
     intro g4 W hW
     refine sA hW 0 tyA146 ?_
     intro W hW
     refine l_end (n_then ?_)
     refine c_regW hW [] [.q, .q, .q, .q, .mk 0, .q, .q, .mk 1, .tail, .tail, .tail, .tail, .tail] [⟨59, fun _ v Bs => ∃ s : Sl, v = s.v ∧ NewI s (l0) Bs⟩, ⟨62, fun _ v Bs => ∃ s : Sl, v = s.v ∧ NewI s (l1) Bs⟩] [[], []] [4, 7] [0, 1, 0, 4, 12, 0, 32, 124, 252, 508, 1023, 2047, 4095] [] [.q, .q, .q, .q, .q, .q, .q, .q, .q, .mk 0, .tail, .tail, .tail] [64] [9] [2, 3, 4, 5, 6, 7] [8, 9, 10, 11, 12] [0, 1] (by kernel_rfl) (by kernel_rfl) rfl (by kernel_rfl) (by kernel_rfl) [(0, _, _), (1, _, _)] rfl ⟨rfl, rfl, trivial⟩ ⟨fun _ w _ _ => (r_fieldAddr 1 Tryz.underlying69 rfl tyC67.size rfl rfl rfl) w, _, rfl, ⟨fun _ w hs hC => run_loadC_at tyC67 1 rfl rfl (hs 1 _ (by decide) rfl) rfl w hC, _, rfl, trivial⟩⟩ ?_
     refine y_val (r_fieldAddr 0 Tryz.underlying146 rfl tyC27.size rfl rfl rfl) rfl rfl ?_
     refine y_loadC 0 tyC27 rfl rfl rfl rfl rfl rfl (by decide) ?_
     refine y_callX 0 (g_Clone (s0).a (s0).n (s0).c (l0) (by omega)) en60 rfl rfl (fun L2 w hs hC => hr0.past hC.below) rfl rfl ?_
     refine y_val (r_fieldAddr 1 Tryz.underlying146 rfl tyC27.size rfl rfl rfl) rfl rfl ?_
     refine y_loadC 0 tyC27 rfl rfl rfl rfl rfl rfl (by decide) ?_
     refine y_callX 1 (g_Clone (s1).a (s1).n (s1).c (l1) (by omega)) en60 rfl rfl (fun L2 w hs hC => hr1.past hC.below) rfl rfl ?_
     refine y_tail ?_
     refine y_made ?_
     rintro _ Bs3 ⟨t0, rfl, ht0⟩
     refine y_made ?_
     rintro _ Bs4 ⟨t1, rfl, ht1⟩
     refine ⟨[⟨64, bslX 146 1⟩], [[t0.v, t1.v]], ⟨rfl, rfl⟩, ?_⟩
     refine y_val (r_fieldAddr 1 Tryz.underlying69 rfl tyC67.size rfl rfl rfl) rfl rfl ?_
     refine y_loadC (Bs4.length + (Bs3.length + 1)) tyC67 (v := .slice a i c) rfl rfl rfl rfl (at_app (at_app rfl)) rfl (by simp) ?_
     refine y_val (r_build (ps := [(0, .slice _ _ _), (1, .slice _ _ _)]) (bld146_0_1 _ _ _ _ _ _) rfl rfl) rfl rfl ?_
     refine y_buildSliceF 0 (bsl67_1_0 _ _ _ _ _ _) rfl rfl rfl rfl ?_
     refine y_tail ?_
     refine y_made ?_
     rintro _ _ ⟨gb, rfl, rfl⟩
     intro W hW
     replace hW := (show Cl _ (_ :: (Bs4 ++ (Bs3 ++ ([_, _, _, _] ++ (Bs ++ N))))) _ from hW).perm (List.Perm.cons _ permH)
     refine l_appendB tyE67 (L := ⟨gb, [t0.v, t1.v], _⟩ :: ([_, _, _, _] ++ (N ++ (Bs4 ++ Bs3)))) hO hW 0 (N := i + 1) rfl rfl rfl rfl rfl rfl rfl rfl (by simp [Value.oneCell']) (by unfold maxLen; omega) (by omega) ?_
     intro a1 c1 Bs5 W hO1 hW
     replace hO1 := hO1.castx rfl (xs' := (ssN ++ [t0, t1]).map Sl.v) (by simp)
     refine l_val (r_fieldAddr 1 Tryz.underlying69 rfl tyC67.size rfl rfl rfl) rfl rfl ?_
     refine l_storeC hW 2 tyC67 (v := .slice _ _ _) rfl rfl rfl rfl rfl rfl (by first | rfl | omega | (simp; done) | (simp; omega)) rfl ?_
     intro W hW
     refine l_end (n_block (n_then (c_reg ?_)))
     refine l_val (r_addN (n := 1) rfl rfl rfl (by omega)) rfl rfl ?_
     refine aI ?_
     refine l_end (n_then ?_)
     exact loop_next (i + 1, a1, c1, Bs5, N ++ (Bs4 ++ Bs3), ssN ++ [t0, t1]) (by kernel_rfl) ((show Cl _ (([_, _, _] ++ _) ++ _) _ from (hW.drop 2)).perm permX) ⟨by simp only; omega, hO1, by simp only [List.length_append, hl]; simp only [List.length_cons, List.length_nil]; omega, hN.two hl f0 f1 (ht0.sub (List.sublist_append_right _ _)) (ht1.sub (List.sublist_append_left _ _)), hsub.trans (List.sublist_append_left _ _)⟩ (by simp only; omega)
    ·intro hc4
     replace hc4 := of_decide_eq_false hc4
     obtain rfl : pn = i := by omega
     have hH : OwnHu 146 (oneUp h) ⟨a, pn, c⟩ r1 q1 ssN Bs N := ⟨hO, by show ssN.length = h.ps.length; omega, hN, hr1.sub ((List.sublist_append_left _ _).trans hsub), hq1.sub ((List.sublist_append_right _ _).trans hsub)⟩
     have hr1n := hr1.n
     have hq1n := hq1.n
     refine l_end (n_then (c_seq ?_))
     refine c_false rfl ?_
     refine c_exit (x_then (x_then ?_))
     refine x_hit ?_
     refine n_then (c_seq ?_)
     refine c_regY hW [] [.q, .q, .q, .q, .q, .q, .q] [0, 1, 3, 0, 8, 7, 63] (by kernel_rfl) (by kernel_rfl) ?_
     refine y_val (r_fieldAddr 1 Tryz.underlying69 rfl tyC67.size rfl rfl rfl) rfl rfl ?_
     refine y_loadC 0 tyC67 rfl rfl rfl rfl rfl rfl (by decide) ?_
     refine y_val (r_lenSlice Tryz.underlying67 rfl rfl) rfl rfl ?_
     refine y_val (r_fieldAddr 2 Tryz.underlying69 rfl tyC27.size rfl rfl rfl) rfl rfl ?_
     refine y_loadC 0 tyC27 rfl rfl rfl rfl rfl rfl (by decide) ?_
     refine y_val (r_assign (v := .int _ _) rfl rfl) rfl rfl ?_
     refine y_val (r_assign (v := .slice _ _ _) rfl rfl) rfl rfl ?_
     refine y_end ?_
     intro W hW
     refine n_then (c_seq (c_seq (c_reg ?_)))
     refine aI ?_
     refine l_val (r_gtrN (n := 0) rfl rfl rfl rfl) rfl rfl ?_
     refine l_split ?_ ?_
     ·intro hc5
      replace hc5 := of_decide_eq_true hc5
      obtain ⟨gr, cur, ha, hRb, -, -, -⟩ := hH.row.row (by simp only; omega)
      simp only at ha
      subst ha
      subst hRb
      obtain ⟨s0, s1, e0, e1, k0, k1⟩ := hH.row.pair2 (i := (n - 1) / 2) (by simp only; omega)
      obtain ⟨l0, f0, n0⟩ := hH.ps _ _ e0
      obtain ⟨l1, f1, n1⟩ := hH.ps _ _ e1
      have v0 := (hv.ps l0 (List.mem_of_getElem? f0)).2
      have v1 := (hv.ps l1 (List.mem_of_getElem? f1)).2
      have y0 := hone l0 (List.mem_of_getElem? (i := 2 * ((n - 1) / 2) + 2) f0)
      have y1 := hone l1 (List.mem_of_getElem? (i := 2 * ((n - 1) / 2) + 3) f1)
      have p0 := List.length_pos_iff.2 v0
      have p1 := List.length_pos_iff.2 v1
      have hn0 := n0.n
      have hn1 := n1.n
      have hh := heard_at (h := h) (x := n) (by omega) rfl f0 f1 v0 v1
      refine l_end (n_then ?_)
      refine c_true rfl ?_
      refine c_seq (c_reg ?_)
      refine aI ?_
      refine l_val (r_subN (n := 1) rfl rfl rfl (by omega) (by omega)) rfl rfl ?_
      refine l_val (r_quoN (n := 2) rfl rfl rfl (by omega) (by omega)) rfl rfl ?_
      refine bI ?_
      refine l_end (n_then (c_seq (c_reg ?_)))
      refine l_val (r_fieldAddr 1 Tryz.underlying69 rfl tyC67.size rfl rfl rfl) rfl rfl ?_
      refine dC hW 0 tyC67 ?_
      refine aI ?_
      refine l_val (r_indexAddrSl (n := (n - 1) / 2) Tryz.underlying67 tyA146.size rfl rfl rfl (by first | omega | (simp only; omega))) rfl rfl ?_
      refine l_val (r_fieldAddr _ Tryz.underlying146 rfl tyC27.size rfl rfl rfl) rfl rfl ?_
      refine l_loadC hW 3 tyC27 (v := s1.v) rfl rfl rfl rfl rfl k1 ?_
      refine bS ?_
      refine l_end (n_then (c_seq (c_reg ?_)))
      refine l_val (r_fieldAddr 1 Tryz.underlying69 rfl tyC67.size rfl rfl rfl) rfl rfl ?_
      refine dC hW 0 tyC67 ?_
      refine aI ?_
      refine l_val (r_indexAddrSl (n := (n - 1) / 2) Tryz.underlying67 tyA146.size rfl rfl rfl (by first | omega | (simp only; omega))) rfl rfl ?_
      refine l_val (r_fieldAddr _ Tryz.underlying146 rfl tyC27.size rfl rfl rfl) rfl rfl ?_
      refine l_loadC hW 3 tyC27 (v := s0.v) rfl rfl rfl rfl rfl k0 ?_
      refine bS ?_
      refine l_end (n_then (c_seq (c_seq (c_reg ?_))))
      refine aI ?_
      refine l_val (r_remN (n := 2) rfl rfl rfl (by omega)) rfl rfl ?_
      refine l_val (r_eqlN (n := 0) rfl rfl rfl rfl) rfl rfl ?_
      refine l_split ?_ ?_
      ·intro hc6
       replace hc6 := of_decide_eq_true hc6
       rw [if_neg (by omega), if_neg (by omega)] at hh
       refine l_end (n_then ?_)
       refine c_true rfl ?_
       refine c_reg ?_
       refine aS ?_
       refine aS ?_
       refine bS ?_
       refine bS ?_
       refine l_end (n_then (c_reg ?_))
       refine l_val (r_fieldAddr 2 Tryz.underlying69 rfl tyC27.size rfl rfl rfl) rfl rfl ?_
       refine dC hW 0 tyC27 ?_
       refine aS ?_
       refine l_buildSliceF hW (bsl150_2_0_1 _ _ _ _ _ _) rfl rfl rfl rfl ?_
       intro gm W hW
       refine l_callX hW (g_merged (some ⟨gm, 0, none⟩) 2 2 [r1, s0] [h.rest, l0] (by simp only [sumL]; omega) (by omega)) en80 (RdG.two hW 0 rfl (hH.rest.rep.at hW (List.sublist_append_right [_, _, _, _, _] N)) (n0.rep.at hW (List.sublist_append_right [_, _, _, _, _] N))) rfl rfl rfl rfl ?_
       rintro _ BsR W ⟨rm, rfl, hrm⟩ hW
       refine l_val (r_fieldAddr 2 Tryz.underlying69 rfl tyC27.size rfl rfl rfl) rfl rfl ?_
       refine l_storeC hW 1 tyC27 (v := .slice _ _ _) rfl rfl rfl rfl rfl rfl (by first | rfl | omega | (simp; done) | (simp; omega)) rfl ?_
       intro W hW
       refine l_end (n_then (c_seq (c_seq (c_reg ?_))))
       refine aS ?_
       refine l_val (r_lenSlice Tryz.underlying27 rfl rfl) rfl rfl ?_
       refine l_val (r_eqlN (n := 1) rfl rfl rfl rfl) rfl rfl ?_
       refine l_split ?_ ?_
       ·intro hc7
        replace hc7 := of_decide_eq_true hc7
        have mgr : sortI [h.rest, l0].flatten = merged h.rest l0 := by rw [List.flatten_cons, List.flatten_cons, List.flatten_nil, List.append_nil]; exact hv.merged_rest (List.mem_of_getElem? f0)
        have mgn : sortI [h.named, l1].flatten = merged h.named l1 := by rw [List.flatten_cons, List.flatten_cons, List.flatten_nil, List.append_nil]; exact hv.merged_named (List.mem_of_getElem? f1)
        refine l_end (n_then ?_)
        refine c_true rfl ?_
        refine c_seq (c_reg ?_)
        refine l_val (r_fieldAddr 3 Tryz.underlying69 rfl tyC27.size rfl rfl rfl) rfl rfl ?_
        refine dC hW 1 tyC27 ?_
        refine aS ?_
        refine l_buildSliceF hW (bsl150_2_0_1 _ _ _ _ _ _) rfl rfl rfl rfl ?_
        intro gk W hW
        refine l_callX hW (g_merged (some ⟨gk, 0, none⟩) 2 2 [q1, s1] [h.named, l1] (by simp only [sumL]; omega) (by omega)) en80 (RdG.two hW 0 rfl (hH.named.rep.at hW ((List.sublist_append_right [_, _, _, _, _, _] N).trans (List.sublist_append_left _ BsR))) (n1.rep.at hW ((List.sublist_append_right [_, _, _, _, _, _] N).trans (List.sublist_append_left _ BsR)))) rfl rfl rfl rfl ?_
        rintro _ BsN W ⟨rn, rfl, hrn⟩ hW
        refine l_val (r_fieldAddr 3 Tryz.underlying69 rfl tyC27.size rfl rfl rfl) rfl rfl ?_
        refine l_storeC hW 2 tyC27 (v := .slice _ _ _) rfl rfl rfl rfl rfl rfl (by first | rfl | omega | (simp; done) | (simp; omega)) rfl ?_
        intro W hW
        refine l_end (n_then (c_reg ?_))
        refine l_val (r_fieldAddr 1 Tryz.underlying69 rfl tyC67.size rfl rfl rfl) rfl rfl ?_
        refine dC hW 2 tyC67 ?_
        refine aI ?_
        refine aI ?_
        refine l_val (r_addN (n := 1) rfl rfl rfl (by omega)) rfl rfl ?_
        replace hW := (show Cl _ ((_ :: (([_, _, _, _] ++ (⟨gr, cur, 146⟩ :: N)) ++ BsR)) ++ BsN) _ from hW).perm delA
        refine l_callS (g_DeleteP gr pn c ((n - 1) / 2) cur (ssN.map Sl.v) hH.row (by omega) (fun v hv => by obtain ⟨x, _, rfl⟩ := List.mem_map.1 hv; rfl)) hW en81 trivial rfl rfl rfl rfl ?_
        rintro _ Bx W ⟨rfl, hO3⟩ hW
        replace hW := hW.perm List.perm_append_comm
        refine l_val (r_fieldAddr 1 Tryz.underlying69 rfl tyC67.size rfl rfl rfl) rfl rfl ?_
        refine l_storeC hW 2 tyC67 (v := .slice _ _ _) rfl rfl rfl rfl rfl rfl (by first | rfl | omega | (simp; done) | (simp; omega)) rfl ?_
        intro W hW
        refine l_end (n_then (c_seq (c_reg ?_)))
        refine dA hW 2 tyA69 ?_
        refine sA hW 3 tyA69 ?_
        intro W hW
        refine bI ?_
        refine l_end (n_then (c_ret ?_))
        refine rT hW 3 tyA69 ?_
        have e := hear_0 (n := n) hvb (by omega) (by omega)
        have hF : OwnHu 146 (heardAt (oneUp h) ((n - 1) / 2) l1 l0) ⟨some ⟨gr, 0, none⟩, pn - 1, c⟩ rm rn (ssN.take (2 * ((n - 1) / 2)) ++ ssN.drop (2 * ((n - 1) / 2) + 2)) Bx (N ++ (BsR ++ BsN)) := by
         have hps : (heardAt (oneUp h) ((n - 1) / 2) l1 l0).ps = h.ps.take (2 * ((n - 1) / 2)) ++ h.ps.drop (2 * ((n - 1) / 2) + 2) := if_neg (by omega)
         have hnm : (heardAt (oneUp h) ((n - 1) / 2) l1 l0).named = merged h.named l1 := if_neg (by omega)
         refine ⟨?_, by rw [hps]; simp only [List.length_append, List.length_take, List.length_drop]; omega, by rw [hps]; exact (hH.ps.sub (List.sublist_append_left _ _)).cut hH.len (by omega), (show NewI rm (merged h.rest l0) _ from (by rw [← mgr]; exact hrm)).sub ((List.sublist_append_left _ _).trans (List.sublist_append_right _ _)), by rw [hnm, ← mgn]; exact hrn.sub ((List.sublist_append_right _ _).trans (List.sublist_append_right _ _))⟩
         rw [show ((n - 1) / 2 + 1) * 2 = 2 * ((n - 1) / 2) + 2 by omega, show (n - 1) / 2 * 2 = 2 * ((n - 1) / 2) by omega, ← List.map_take, ← List.map_drop, ← List.map_append] at hO3
         exact hO3
        exact ⟨_, (N ++ (BsR ++ BsN)) ++ Bx, rfl, ⟨_, by rw [e]; rfl, by rw [e, hh]; exact ⟨_, _, _, _, rfl, hF.newHu (List.sublist_append_left _ _) (List.sublist_append_right _ _)⟩⟩, (show Cl _ ((N ++ (BsR ++ BsN)) ++ Bx) _ from hW.drop 5)⟩
       ·intro hc7
        replace hc7 := of_decide_eq_false hc7
        have mgr : sortI [h.rest, l0].flatten = merged h.rest l0 := by rw [List.flatten_cons, List.flatten_cons, List.flatten_nil, List.append_nil]; exact hv.merged_rest (List.mem_of_getElem? f0)
        refine l_end (n_then ?_)
        refine c_false rfl ?_
        refine c_regM hW [] [.q, .q, .q, .q, .mk 0, .q, .tail] [⟨128, fun _ v Bs => ∃ s0 s1 : Sl, v = .agg [s0.v, s1.v].toArray ∧ NewI s0 (l1.take (halfN l1)) Bs ∧ NewI s1 (l1.drop (halfN l1)) Bs⟩] [[]] [4] [0, 1, 0, 0, 8, 31, 63] (by kernel_rfl) (by kernel_rfl) rfl (by kernel_rfl) ?_
        refine y_val (r_fieldAddr 1 Tryz.underlying69 rfl tyC67.size rfl rfl rfl) rfl rfl ?_
        refine y_loadC 1 tyC67 rfl rfl rfl rfl rfl rfl (by decide) ?_
        refine yI ?_
        refine yS ?_
        refine y_callX 0 (g_halves s1.a s1.n s1.c l1 (by omega)) en82 rfl rfl (fun L2 w hs hC => n1.rep.at hC (((List.sublist_append_right [_, _, _, _, _] N).trans (List.sublist_append_left _ BsR)).trans hs.pre)) rfl rfl ?_
        refine y_val (r_indexAddrSl (n := ((n - 1) / 2)) Tryz.underlying67 tyA146.size rfl rfl rfl (by first | omega | (simp only; omega))) rfl rfl ?_
        refine y_tail ?_
        refine y_made ?_
        rintro _ BsH ⟨t0, t1, rfl, ht0, ht1⟩
        intro W hW
        replace hW := hW.perm List.perm_append_comm
        obtain ⟨_, _, _, _, _, hil⟩ := hH.row.pair (i := ((n - 1) / 2)) (by first | omega | (simp only; omega))
        refine l_storeP hW 4 tyA146 (i := 0 + ((n - 1) / 2) * 2) (vs := [t0.v, t1.v]) rfl rfl rfl rfl rfl rfl (by omega) rfl (by simp [Sl.v, Value.oneCell']) ?_
        intro W hW
        rw [Nat.zero_add] at hW
        refine l_end (n_then (c_seq (c_reg ?_)))
        refine dA hW 1 tyA69 ?_
        refine sA hW 2 tyA69 ?_
        intro W hW
        refine bI ?_
        refine l_end (n_then (c_ret ?_))
        refine rT hW 2 tyA69 ?_
        have e := hear_0 (n := n) hvb (by omega) (by omega)
        have hF : OwnHu 146 (heardAt (oneUp h) ((n - 1) / 2) l1 l0) ⟨some ⟨gr, 0, none⟩, pn, c⟩ rm q1 ((ssN.set ((n - 1) / 2 * 2) t0).set ((n - 1) / 2 * 2 + 1) t1) [⟨gr, cur.take ((n - 1) / 2 * 2) ++ [t0.v, t1.v] ++ cur.drop ((n - 1) / 2 * 2 + 2), 146⟩] (N ++ (BsR ++ BsH)) := by
         have hps : (heardAt (oneUp h) ((n - 1) / 2) l1 l0).ps = (h.ps.set ((n - 1) / 2 * 2) (l1.take (halfN l1))).set ((n - 1) / 2 * 2 + 1) (l1.drop (halfN l1)) := if_pos (by omega)
         have hnm : (heardAt (oneUp h) ((n - 1) / 2) l1 l0).named = h.named := if_pos (by omega)
         refine ⟨hH.row.two (by first | omega | (simp only; omega)), by rw [hps]; simpa using hH.len, by rw [hps]; exact (hH.ps.sub (List.sublist_append_left _ _)).two_set hH.len (ht0.sub ((List.sublist_append_right _ _).trans (List.sublist_append_right _ _))) (ht1.sub ((List.sublist_append_right _ _).trans (List.sublist_append_right _ _))), (show NewI rm (merged h.rest l0) _ from (by rw [← mgr]; exact hrm)).sub ((List.sublist_append_left _ _).trans (List.sublist_append_right _ _)), by rw [hnm]; exact hH.named.sub (List.sublist_append_left _ _)⟩
        exact ⟨_, (N ++ (BsR ++ BsH)) ++ [_], rfl, ⟨_, by rw [e]; rfl, by rw [e, hh]; exact ⟨_, _, _, _, rfl, hF.newHu (List.sublist_append_left _ _) (List.sublist_append_right _ _)⟩⟩, (show Cl _ (_ :: ((N ++ BsR) ++ BsH)) _ from hW.drop 4).perm fin1⟩
      ·intro hc6
       replace hc6 := of_decide_eq_false hc6
       rw [if_pos (by omega), if_pos (by omega)] at hh
       refine l_end (n_then ?_)
       refine c_false rfl ?_
       refine c_skip (n_then (c_reg ?_))
       refine l_val (r_fieldAddr 2 Tryz.underlying69 rfl tyC27.size rfl rfl rfl) rfl rfl ?_
       refine dC hW 0 tyC27 ?_
       refine aS ?_
       refine l_buildSliceF hW (bsl150_2_0_1 _ _ _ _ _ _) rfl rfl rfl rfl ?_
       intro gm W hW
       refine l_callX hW (g_merged (some ⟨gm, 0, none⟩) 2 2 [r1, s1] [h.rest, l1] (by simp only [sumL]; omega) (by omega)) en80 (RdG.two hW 0 rfl (hH.rest.rep.at hW (List.sublist_append_right [_, _, _, _, _] N)) (n1.rep.at hW (List.sublist_append_right [_, _, _, _, _] N))) rfl rfl rfl rfl ?_
       rintro _ BsR W ⟨rm, rfl, hrm⟩ hW
       refine l_val (r_fieldAddr 2 Tryz.underlying69 rfl tyC27.size rfl rfl rfl) rfl rfl ?_
       refine l_storeC hW 1 tyC27 (v := .slice _ _ _) rfl rfl rfl rfl rfl rfl (by first | rfl | omega | (simp; done) | (simp; omega)) rfl ?_
       intro W hW
       refine l_end (n_then (c_seq (c_seq (c_reg ?_))))
       refine aS ?_
       refine l_val (r_lenSlice Tryz.underlying27 rfl rfl) rfl rfl ?_
       refine l_val (r_eqlN (n := 1) rfl rfl rfl rfl) rfl rfl ?_
       refine l_split ?_ ?_
       ·intro hc8
        replace hc8 := of_decide_eq_true hc8
        have mgr : sortI [h.rest, l1].flatten = merged h.rest l1 := by rw [List.flatten_cons, List.flatten_cons, List.flatten_nil, List.append_nil]; exact hv.merged_rest (List.mem_of_getElem? f1)
        have mgn : sortI [h.named, l0].flatten = merged h.named l0 := by rw [List.flatten_cons, List.flatten_cons, List.flatten_nil, List.append_nil]; exact hv.merged_named (List.mem_of_getElem? f0)
        refine l_end (n_then ?_)
        refine c_true rfl ?_
        refine c_seq (c_reg ?_)
        refine l_val (r_fieldAddr 3 Tryz.underlying69 rfl tyC27.size rfl rfl rfl) rfl rfl ?_
        refine dC hW 1 tyC27 ?_
        refine aS ?_
        refine l_buildSliceF hW (bsl150_2_0_1 _ _ _ _ _ _) rfl rfl rfl rfl ?_
        intro gk W hW
        refine l_callX hW (g_merged (some ⟨gk, 0, none⟩) 2 2 [q1, s0] [h.named, l0] (by simp only [sumL]; omega) (by omega)) en80 (RdG.two hW 0 rfl (hH.named.rep.at hW ((List.sublist_append_right [_, _, _, _, _, _] N).trans (List.sublist_append_left _ BsR))) (n0.rep.at hW ((List.sublist_append_right [_, _, _, _, _, _] N).trans (List.sublist_append_left _ BsR)))) rfl rfl rfl rfl ?_
        rintro _ BsN W ⟨rn, rfl, hrn⟩ hW
        refine l_val (r_fieldAddr 3 Tryz.underlying69 rfl tyC27.size rfl rfl rfl) rfl rfl ?_
        refine l_storeC hW 2 tyC27 (v := .slice _ _ _) rfl rfl rfl rfl rfl rfl (by first | rfl | omega | (simp; done) | (simp; omega)) rfl ?_
        intro W hW
        refine l_end (n_then (c_reg ?_))
        refine l_val (r_fieldAddr 1 Tryz.underlying69 rfl tyC67.size rfl rfl rfl) rfl rfl ?_
        refine dC hW 2 tyC67 ?_
        refine aI ?_
        refine aI ?_
        refine l_val (r_addN (n := 1) rfl rfl rfl (by omega)) rfl rfl ?_
        replace hW := (show Cl _ ((_ :: (([_, _, _, _] ++ (⟨gr, cur, 146⟩ :: N)) ++ BsR)) ++ BsN) _ from hW).perm delA
        refine l_callS (g_DeleteP gr pn c ((n - 1) / 2) cur (ssN.map Sl.v) hH.row (by omega) (fun v hv => by obtain ⟨x, _, rfl⟩ := List.mem_map.1 hv; rfl)) hW en81 trivial rfl rfl rfl rfl ?_
        rintro _ Bx W ⟨rfl, hO3⟩ hW
        replace hW := hW.perm List.perm_append_comm
        refine l_val (r_fieldAddr 1 Tryz.underlying69 rfl tyC67.size rfl rfl rfl) rfl rfl ?_
        refine l_storeC hW 2 tyC67 (v := .slice _ _ _) rfl rfl rfl rfl rfl rfl (by first | rfl | omega | (simp; done) | (simp; omega)) rfl ?_
        intro W hW
        refine l_end (n_then (c_seq (c_reg ?_)))
        refine dA hW 2 tyA69 ?_
        refine sA hW 3 tyA69 ?_
        intro W hW
        refine bI ?_
        refine l_end (n_then (c_ret ?_))
        refine rT hW 3 tyA69 ?_
        have e := hear_0 (n := n) hvb (by omega) (by omega)
        have hF : OwnHu 146 (heardAt (oneUp h) ((n - 1) / 2) l0 l1) ⟨some ⟨gr, 0, none⟩, pn - 1, c⟩ rm rn (ssN.take (2 * ((n - 1) / 2)) ++ ssN.drop (2 * ((n - 1) / 2) + 2)) Bx (N ++ (BsR ++ BsN)) := by
         have hps : (heardAt (oneUp h) ((n - 1) / 2) l0 l1).ps = h.ps.take (2 * ((n - 1) / 2)) ++ h.ps.drop (2 * ((n - 1) / 2) + 2) := if_neg (by omega)
         have hnm : (heardAt (oneUp h) ((n - 1) / 2) l0 l1).named = merged h.named l0 := if_neg (by omega)
         refine ⟨?_, by rw [hps]; simp only [List.length_append, List.length_take, List.length_drop]; omega, by rw [hps]; exact (hH.ps.sub (List.sublist_append_left _ _)).cut hH.len (by omega), (show NewI rm (merged h.rest l1) _ from (by rw [← mgr]; exact hrm)).sub ((List.sublist_append_left _ _).trans (List.sublist_append_right _ _)), by rw [hnm, ← mgn]; exact hrn.sub ((List.sublist_append_right _ _).trans (List.sublist_append_right _ _))⟩
         rw [show ((n - 1) / 2 + 1) * 2 = 2 * ((n - 1) / 2) + 2 by omega, show (n - 1) / 2 * 2 = 2 * ((n - 1) / 2) by omega, ← List.map_take, ← List.map_drop, ← List.map_append] at hO3
         exact hO3
        exact ⟨_, (N ++ (BsR ++ BsN)) ++ Bx, rfl, ⟨_, by rw [e]; rfl, by rw [e, hh]; exact ⟨_, _, _, _, rfl, hF.newHu (List.sublist_append_left _ _) (List.sublist_append_right _ _)⟩⟩, (show Cl _ ((N ++ (BsR ++ BsN)) ++ Bx) _ from hW.drop 5)⟩
       ·intro hc8
        replace hc8 := of_decide_eq_false hc8
        have mgr : sortI [h.rest, l1].flatten = merged h.rest l1 := by rw [List.flatten_cons, List.flatten_cons, List.flatten_nil, List.append_nil]; exact hv.merged_rest (List.mem_of_getElem? f1)
        refine l_end (n_then ?_)
        refine c_false rfl ?_
        refine c_regM hW [] [.q, .q, .q, .q, .mk 0, .q, .tail] [⟨128, fun _ v Bs => ∃ s0 s1 : Sl, v = .agg [s0.v, s1.v].toArray ∧ NewI s0 (l0.take (halfN l0)) Bs ∧ NewI s1 (l0.drop (halfN l0)) Bs⟩] [[]] [4] [0, 1, 0, 0, 8, 31, 63] (by kernel_rfl) (by kernel_rfl) rfl (by kernel_rfl) ?_
        refine y_val (r_fieldAddr 1 Tryz.underlying69 rfl tyC67.size rfl rfl rfl) rfl rfl ?_
        refine y_loadC 1 tyC67 rfl rfl rfl rfl rfl rfl (by decide) ?_
        refine yI ?_
        refine yS ?_
        refine y_callX 0 (g_halves s0.a s0.n s0.c l0 (by omega)) en82 rfl rfl (fun L2 w hs hC => n0.rep.at hC (((List.sublist_append_right [_, _, _, _, _] N).trans (List.sublist_append_left _ BsR)).trans hs.pre)) rfl rfl ?_
        refine y_val (r_indexAddrSl (n := ((n - 1) / 2)) Tryz.underlying67 tyA146.size rfl rfl rfl (by first | omega | (simp only; omega))) rfl rfl ?_
        refine y_tail ?_
        refine y_made ?_
        rintro _ BsH ⟨t0, t1, rfl, ht0, ht1⟩
        intro W hW
        replace hW := hW.perm List.perm_append_comm
        obtain ⟨_, _, _, _, _, hil⟩ := hH.row.pair (i := ((n - 1) / 2)) (by first | omega | (simp only; omega))
        refine l_storeP hW 4 tyA146 (i := 0 + ((n - 1) / 2) * 2) (vs := [t0.v, t1.v]) rfl rfl rfl rfl rfl rfl (by omega) rfl (by simp [Sl.v, Value.oneCell']) ?_
        intro W hW
        rw [Nat.zero_add] at hW
        refine l_end (n_then (c_seq (c_reg ?_)))
        refine dA hW 1 tyA69 ?_
        refine sA hW 2 tyA69 ?_
        intro W hW
        refine bI ?_
        refine l_end (n_then (c_ret ?_))
        refine rT hW 2 tyA69 ?_
        have e := hear_0 (n := n) hvb (by omega) (by omega)
        have hF : OwnHu 146 (heardAt (oneUp h) ((n - 1) / 2) l0 l1) ⟨some ⟨gr, 0, none⟩, pn, c⟩ rm q1 ((ssN.set ((n - 1) / 2 * 2) t0).set ((n - 1) / 2 * 2 + 1) t1) [⟨gr, cur.take ((n - 1) / 2 * 2) ++ [t0.v, t1.v] ++ cur.drop ((n - 1) / 2 * 2 + 2), 146⟩] (N ++ (BsR ++ BsH)) := by
         have hps : (heardAt (oneUp h) ((n - 1) / 2) l0 l1).ps = (h.ps.set ((n - 1) / 2 * 2) (l0.take (halfN l0))).set ((n - 1) / 2 * 2 + 1) (l0.drop (halfN l0)) := if_pos (by omega)
         have hnm : (heardAt (oneUp h) ((n - 1) / 2) l0 l1).named = h.named := if_pos (by omega)
         refine ⟨hH.row.two (by first | omega | (simp only; omega)), by rw [hps]; simpa using hH.len, by rw [hps]; exact (hH.ps.sub (List.sublist_append_left _ _)).two_set hH.len (ht0.sub ((List.sublist_append_right _ _).trans (List.sublist_append_right _ _))) (ht1.sub ((List.sublist_append_right _ _).trans (List.sublist_append_right _ _))), (show NewI rm (merged h.rest l1) _ from (by rw [← mgr]; exact hrm)).sub ((List.sublist_append_left _ _).trans (List.sublist_append_right _ _)), by rw [hnm]; exact hH.named.sub (List.sublist_append_left _ _)⟩
        exact ⟨_, (N ++ (BsR ++ BsH)) ++ [_], rfl, ⟨_, by rw [e]; rfl, by rw [e, hh]; exact ⟨_, _, _, _, rfl, hF.newHu (List.sublist_append_left _ _) (List.sublist_append_right _ _)⟩⟩, (show Cl _ (_ :: ((N ++ BsR) ++ BsH)) _ from hW.drop 4).perm fin1⟩
     ·intro hc5
      replace hc5 := of_decide_eq_false hc5
      refine l_end (n_then ?_)
      refine c_false rfl ?_
      refine c_seq (c_reg ?_)
      refine l_val (r_fieldAddr 2 Tryz.underlying69 rfl tyC27.size rfl rfl rfl) rfl rfl ?_
      refine l_storeC hW 0 tyC27 (v := .slice _ _ _) rfl rfl rfl rfl rfl rfl (by first | rfl | omega | (simp; done) | (simp; omega)) rfl ?_
      intro W hW
      refine l_end (n_then (c_reg ?_))
      refine l_val (r_fieldAddr 1 Tryz.underlying69 rfl tyC67.size rfl rfl rfl) rfl rfl ?_
      refine dC hW 0 tyC67 ?_
      refine l_val (r_build (ps := []) (bld146_) rfl rfl) rfl rfl ?_
      refine l_buildSliceF hW (bsl67_1_0 _ _ _ _ _ _) rfl rfl rfl rfl ?_
      intro gb W hW
      replace hW := (show Cl _ ([_, _, _, _] ++ (Bs ++ N)) _ from hW).perm permY
      refine l_appendB tyE67 (L := [_, _, _, _] ++ N) hO hW 0 (N := pn + 1) rfl rfl rfl rfl rfl rfl rfl rfl (by simp [Value.oneCell']) (by unfold maxLen; omega) (by omega) ?_
      intro a1 c1 Bs5 W hO1 hW
      replace hO1 := hO1.castx rfl (xs' := (ssN ++ [Sl.no, Sl.no]).map Sl.v) (by simp)
      obtain ⟨gr, cur, rfl, rfl, -, -, -⟩ := hO1.row (by omega)
      replace hW := (show Cl _ (([_, _, _, _] ++ N) ++ [⟨gr, cur, _⟩]) _ from hW).perm permX
      refine l_val (r_fieldAddr 1 Tryz.underlying69 rfl tyC67.size rfl rfl rfl) rfl rfl ?_
      refine l_storeC hW 1 tyC67 (v := .slice _ _ _) rfl rfl rfl rfl rfl rfl (by first | rfl | omega | (simp; done) | (simp; omega)) rfl ?_
      intro W hW
      refine l_end (n_then (c_seq (c_seq (c_reg ?_))))
      refine aS ?_
      refine l_val (r_lenSlice Tryz.underlying27 rfl rfl) rfl rfl ?_
      refine l_val (r_eqlN (n := 1) rfl rfl rfl rfl) rfl rfl ?_
      refine l_split ?_ ?_
      ·intro hc9
       replace hc9 := of_decide_eq_true hc9
       have mgn : sortI [h.named, h.rest].flatten = merged h.named h.rest := by rw [List.flatten_cons, List.flatten_cons, List.flatten_nil, List.append_nil]; exact hv.named_rest
       refine l_end (n_then ?_)
       refine c_true rfl ?_
       refine c_seq (c_reg ?_)
       refine l_val (r_fieldAddr 3 Tryz.underlying69 rfl tyC27.size rfl rfl rfl) rfl rfl ?_
       refine dC hW 1 tyC27 ?_
       refine aS ?_
       refine l_buildSliceF hW (bsl150_2_0_1 _ _ _ _ _ _) rfl rfl rfl rfl ?_
       intro gk W hW
       refine l_callX hW (g_merged (some ⟨gk, 0, none⟩) 2 2 [q1, r1] [h.named, h.rest] (by simp only [sumL]; omega) (by omega)) en80 (RdG.two hW 0 rfl (hH.named.rep.at hW (List.sublist_append_right [_, _, _, _, _, _] N)) (hH.rest.rep.at hW (List.sublist_append_right [_, _, _, _, _, _] N))) rfl rfl rfl rfl ?_
       rintro _ BsN W ⟨rn, rfl, hrn⟩ hW
       refine l_val (r_fieldAddr 3 Tryz.underlying69 rfl tyC27.size rfl rfl rfl) rfl rfl ?_
       refine l_storeC hW 2 tyC27 (v := .slice _ _ _) rfl rfl rfl rfl rfl rfl (by first | rfl | omega | (simp; done) | (simp; omega)) rfl ?_
       intro W hW
       refine l_end (n_then (c_reg ?_))
       refine l_val (r_fieldAddr 1 Tryz.underlying69 rfl tyC67.size rfl rfl rfl) rfl rfl ?_
       refine dC hW 2 tyC67 ?_
       refine aI ?_
       refine aI ?_
       refine l_val (r_addN (n := 1) rfl rfl rfl (by omega)) rfl rfl ?_
       replace hW := (show Cl _ ((_ :: ([_, _, _, _] ++ (⟨gr, cur, 146⟩ :: N))) ++ BsN) _ from hW).perm delB
       refine l_callS (g_DeleteP gr (pn + 1) c1 pn cur ((ssN ++ [Sl.no, Sl.no]).map Sl.v) hO1 (by omega) (fun v hv => by obtain ⟨x, _, rfl⟩ := List.mem_map.1 hv; rfl)) hW en81 trivial rfl rfl rfl rfl ?_
       rintro _ Bx W ⟨rfl, hO3⟩ hW
       replace hW := hW.perm List.perm_append_comm
       refine l_val (r_fieldAddr 1 Tryz.underlying69 rfl tyC67.size rfl rfl rfl) rfl rfl ?_
       refine l_storeC hW 2 tyC67 (v := .slice _ _ _) rfl rfl rfl rfl rfl rfl (by first | rfl | omega | (simp; done) | (simp; omega)) rfl ?_
       intro W hW
       refine l_end (n_then (c_seq (c_reg ?_)))
       refine dA hW 2 tyA69 ?_
       refine sA hW 3 tyA69 ?_
       intro W hW
       refine bI ?_
       refine l_end (n_then (c_ret ?_))
       refine rT hW 3 tyA69 ?_
       have e := hear_0 (n := n) hvb (by omega) (by omega)
       have h0 : heard h 0 = ⟨h.users, h.ps, [], merged h.named h.rest, h.rounds + 1⟩ := by rw [heard_zero, if_pos (by omega), if_pos (by omega)]
       obtain rfl : n = 0 := by omega
       have hss : ssN.length = 2 * pn := by omega
       have hF : OwnHu 146 ⟨h.users, h.ps, [], merged h.named h.rest, h.rounds + 1⟩ ⟨some ⟨gr, 0, none⟩, pn + 1 - 1, c1⟩ Sl.no rn ssN Bx (N ++ BsN) := by
        refine ⟨?_, hH.len, hH.ps.sub (List.sublist_append_left _ _), NewI.no.sub (List.nil_sublist _), by rw [← mgn]; exact hrn.sub (List.sublist_append_right _ _)⟩
        rw [show (pn + 1) * 2 = 2 * pn + 2 by omega, show pn * 2 = 2 * pn by omega, ← List.map_take, ← List.map_drop, ← List.map_append, sk_end hss] at hO3
        exact hO3
       exact ⟨_, (N ++ BsN) ++ Bx, rfl, ⟨_, by rw [e]; rfl, by rw [e, h0]; exact ⟨_, _, _, _, rfl, hF.newHu (List.sublist_append_left _ _) (List.sublist_append_right _ _)⟩⟩, (show Cl _ ((N ++ BsN) ++ Bx) _ from hW.drop 5)⟩
      ·intro hc9
       replace hc9 := of_decide_eq_false hc9
       refine l_end (n_then ?_)
       refine c_false rfl ?_
       refine c_regM hW [] [.q, .q, .q, .q, .mk 0, .q, .tail] [⟨128, fun _ v Bs => ∃ s0 s1 : Sl, v = .agg [s0.v, s1.v].toArray ∧ NewI s0 (h.rest.take (halfN h.rest)) Bs ∧ NewI s1 (h.rest.drop (halfN h.rest)) Bs⟩] [[]] [4] [0, 1, 0, 0, 8, 31, 63] (by kernel_rfl) (by kernel_rfl) rfl (by kernel_rfl) ?_
       refine y_val (r_fieldAddr 1 Tryz.underlying69 rfl tyC67.size rfl rfl rfl) rfl rfl ?_
       refine y_loadC 1 tyC67 rfl rfl rfl rfl rfl rfl (by decide) ?_
       refine yI ?_
       refine yS ?_
       refine y_callX 0 (g_halves r1.a r1.n r1.c h.rest (by omega)) en82 rfl rfl (fun L2 w hs hC => hH.rest.rep.at hC ((List.sublist_append_right [_, _, _, _, _] N).trans hs.pre)) rfl rfl ?_
       refine y_val (r_indexAddrSl (n := pn) Tryz.underlying67 tyA146.size rfl rfl rfl (by first | omega | (simp only; omega))) rfl rfl ?_
       refine y_tail ?_
       refine y_made ?_
       rintro _ BsH ⟨t0, t1, rfl, ht0, ht1⟩
       intro W hW
       replace hW := hW.perm List.perm_append_comm
       obtain ⟨_, _, _, _, _, hil⟩ := hO1.pair (i := pn) (by first | omega | (simp only; omega))
       refine l_storeP hW 4 tyA146 (i := 0 + pn * 2) (vs := [t0.v, t1.v]) rfl rfl rfl rfl rfl rfl (by omega) rfl (by simp [Sl.v, Value.oneCell']) ?_
       intro W hW
       rw [Nat.zero_add] at hW
       refine l_end (n_then (c_seq (c_reg ?_)))
       refine dA hW 1 tyA69 ?_
       refine sA hW 2 tyA69 ?_
       intro W hW
       refine bI ?_
       refine l_end (n_then (c_ret ?_))
       refine rT hW 2 tyA69 ?_
       have e := hear_0 (n := n) hvb (by omega) (by omega)
       have h0 : heard h 0 = ⟨h.users, h.ps ++ [h.rest.take (halfN h.rest), h.rest.drop (halfN h.rest)], [], h.named, h.rounds + 1⟩ := by rw [heard_zero, if_neg (by omega), if_neg (by omega)]
       obtain rfl : n = 0 := by omega
       have hss : ssN.length = 2 * pn := by omega
       have hF : OwnHu 146 ⟨h.users, h.ps ++ [h.rest.take (halfN h.rest), h.rest.drop (halfN h.rest)], [], h.named, h.rounds + 1⟩ ⟨some ⟨gr, 0, none⟩, pn + 1, c1⟩ Sl.no q1 (ssN ++ [t0, t1]) [⟨gr, cur.take (pn * 2) ++ [t0.v, t1.v] ++ cur.drop (pn * 2 + 2), 146⟩] (N ++ BsH) := by
        have hr := hO1.two (i := pn) (t0 := t0) (t1 := t1) (by omega)
        rw [set_end hss] at hr
        exact ⟨hr, by rw [List.length_append, List.length_append]; simp only [List.length_cons, List.length_nil]; rw [hH.len], hH.ps.add hH.len (List.sublist_append_left _ _) (ht0.sub (List.sublist_append_right _ _)) (ht1.sub (List.sublist_append_right _ _)), NewI.no.sub (List.nil_sublist _), hH.named.sub (List.sublist_append_left _ _)⟩
       exact ⟨_, (N ++ BsH) ++ [_], rfl, ⟨_, by rw [e]; rfl, by rw [e, h0]; exact ⟨_, _, _, _, rfl, hF.newHu (List.sublist_append_left _ _) (List.sublist_append_right _ _)⟩⟩, (show Cl _ (_ :: (N ++ BsH)) _ from hW.drop 4).perm (List.perm_append_singleton _ _).symm⟩
  ·intro hc2
   refine l_valG (r_not rfl rfl) (by kernel_rfl) rfl ?_
   refine kB ?_
   refine l_end (n_then ?_)
   refine c_true rfl ?_
   refine c_seq (c_reg ?_)
   refine l_val (r_build (ps := []) (bld69_) rfl rfl) rfl rfl ?_
   refine sA hW 0 tyA69 ?_
   intro W hW
   refine bI ?_
   refine l_end (n_then (c_ret (r_then ?_)))
   refine rT hW 0 tyA69 ?_
   have e := hear_80 (x := (n : Int)) hvb (by rw [hv.has_variant _ (by omega)] at hc2; have hx := of_decide_eq_false hc2; rcases Classical.em (h.rest.length = 0) with h0 | h0 <;> by_cases h1 : n = 0 <;> by_cases h2 : n ≤ h.ps.length <;> first | omega | exact absurd ⟨by omega, fun _ h3 => h0 (by rw [h3]; rfl)⟩ hx | exact absurd ⟨by omega, fun h3 => absurd (by omega : n = 0) h1⟩ hx)
   exact ⟨_, [], rfl, ⟨.agg (huC noHunt Sl.no Sl.no Sl.no).toArray, by rw [e]; rfl, by rw [e]; exact ⟨_, _, _, _, rfl, no_newHu⟩⟩, hW.sub (List.nil_sublist _)⟩

end Go.Proofs.YtoegpalacppllaaGreat

/- What is heard, of any number. -/
namespace Go.Proofs.YtoegpalacppllaaGreat
open Go.RowKit Pl
open Tr Hn
set_option maxRecDepth 10000 in
/-- headend/trace.Hear -/
theorem g_HearM (h : Hu) (pa : Option Addr) (pn pc : Nat) (r q : Sl) (ss : List Sl) (x : Int) (hx : x < 0) (hsm : Small h) (hfit : pn * 48 ≤ 140737488351232) : GivesX Tryz.prog 29 [.agg [.int .i64 h.users, .slice pa pn pc, .slice r.a r.n r.c, .slice q.a q.n q.c, .int .i64 h.rounds].toArray, .int .i64 x].toArray (fun w => RdHu w h ⟨pa, pn, pc⟩ r q ss) (fun v Bs => ∃ a, v = .tuple #[a, .int .i64 ((hear h x).2 : Int)] ∧ huX (hear h x).1 a Bs) := by
 refine givesX_of Tryz.func29 rfl (bs := [.agg [.int .i64 h.users, .slice pa pn pc, .slice r.a r.n r.c, .slice q.a q.n q.c, .int .i64 h.rounds].toArray, .int .i64 x, undef, undef, undef, undef, undef, undef, undef, undef, undef, undef, undef, undef, undef, undef, undef, undef, undef, undef, undef, undef, undef, undef, undef, undef, undef, undef, undef, undef, undef, undef, undef, undef, undef, undef, undef, undef, undef, undef, undef, undef, undef, undef, undef, undef, undef, undef, undef, undef, undef, undef, undef, undef, undef, undef, undef, undef, undef, undef, undef, undef, undef, undef, undef, undef, undef, undef, undef, undef, undef, undef, undef, undef, undef, undef, undef, undef, undef, undef, undef, undef, undef, undef, undef, undef, undef, undef, undef, undef, undef, undef, undef, undef, undef, undef, undef, undef, undef, undef, undef, undef, undef, undef, undef, undef, undef, undef, undef, undef, undef, undef, undef, undef, undef, undef, undef, undef, undef, undef, undef, undef, undef, undef, undef, undef, undef, undef, undef, undef, undef]) rfl ?_
 intro w hP hW
 have hpn := hP.pn
 have hpl := hP.len
 simp only at hpn
 have hgl := hP.gl
 have hgs := hsm.sum
 have hone := hsm.one
 refine c_seq (c_reg ?_)
 refine xB hW ?_
 intro g1 W hW
 refine l_alloc hW tyZ69 rfl rfl rfl ?_
 intro g2 W hW
 refine bI ?_
 refine l_end (n_then (c_seq (c_reg ?_)))
 refine dA hW 1 tyA69 ?_
 refine l_callX hW (g_Variants h pa pn pc r q ss hsm hfit) en39 (hP.past hW.below) rfl rfl rfl rfl ?_
 rintro _ Bs0 W ⟨s, rfl, hs⟩ hW
 refine l_val (r_move (v := .tuple _) rfl rfl) rfl rfl ?_
 refine l_val (r_extract (v := .slice _ _ _) rfl rfl rfl) rfl rfl ?_
 refine l_val (r_extract (v := .int _ _) rfl rfl rfl) rfl rfl ?_
 refine bS ?_
 refine bI ?_
 refine l_end (n_then (c_seq (c_seq (c_reg ?_))))
 refine aI ?_
 refine l_val (r_neq rfl rfl rfl rfl) rfl rfl ?_
 refine l_split ?_ ?_
 ·intro hc1
  replace hc1 := of_decide_eq_true hc1
  refine l_end (n_then ?_)
  refine c_true rfl ?_
  refine c_seq (c_reg ?_)
  refine l_val (r_build (ps := []) (bld69_) rfl rfl) rfl rfl ?_
  refine aI ?_
  refine sA hW 0 tyA69 ?_
  intro W hW
  refine bI ?_
  refine l_end (n_then (c_ret (r_then ?_)))
  refine rT hW 0 tyA69 ?_
  have e := hear_8 (x := x) (chk_not hc1)
  exact ⟨_, [], rfl, ⟨.agg (huC noHunt Sl.no Sl.no Sl.no).toArray, by rw [e]; exact congrArg (fun z => Value.tuple #[_, .int .i64 z]) (chkH_no (chk_not hc1)), by rw [e]; exact ⟨_, _, _, _, rfl, no_newHu⟩⟩, hW.sub (List.nil_sublist _)⟩
 ·intro hc1
  replace hc1 := of_decide_eq_false hc1
  refine l_end (n_then ?_)
  refine c_false rfl ?_
  refine c_skip (n_then (c_seq (c_seq (c_reg ?_))))
  refine aI ?_
  refine l_val (r_lss (b := true) rfl rfl rfl (decide_eq_true hx)) rfl rfl ?_
  refine aB ?_
  refine lN ?_
  refine lN ?_
  refine lN ?_
  refine lN ?_
  refine kB ?_
  refine l_end (n_then ?_)
  refine c_true rfl ?_
  refine c_seq (c_reg ?_)
  refine l_val (r_build (ps := []) (bld69_) rfl rfl) rfl rfl ?_
  refine sA hW 0 tyA69 ?_
  intro W hW
  refine bI ?_
  refine l_end (n_then (c_ret (r_then ?_)))
  refine rT hW 0 tyA69 ?_
  have e := hear_80 (x := x) ((valid_iff h).2 (chk_valid (by omega))) (.inl hx)
  exact ⟨_, [], rfl, ⟨.agg (huC noHunt Sl.no Sl.no Sl.no).toArray, by rw [e]; rfl, by rw [e]; exact ⟨_, _, _, _, rfl, no_newHu⟩⟩, hW.sub (List.nil_sublist _)⟩

theorem g_Hear (h : Hu) (pa : Option Addr) (pn pc : Nat) (r q : Sl) (ss : List Sl) (x : Int) (hsm : Small h) (hfit : pn * 48 ≤ 140737488351232) : GivesX Tryz.prog 29 [.agg [.int .i64 h.users, .slice pa pn pc, .slice r.a r.n r.c, .slice q.a q.n q.c, .int .i64 h.rounds].toArray, .int .i64 x].toArray (fun w => RdHu w h ⟨pa, pn, pc⟩ r q ss) (fun v Bs => ∃ a, v = .tuple #[a, .int .i64 ((hear h x).2 : Int)] ∧ huX (hear h x).1 a Bs) := by
 by_cases hx : x < 0
 ·exact g_HearM h pa pn pc r q ss x hx hsm hfit
 ·obtain ⟨n, rfl⟩ : ∃ n : Nat, x = n := ⟨x.toNat, by omega⟩
  exact g_HearN h pa pn pc r q ss n hsm hfit
end Go.Proofs.YtoegpalacppllaaGreat

/- A region that draws its order, order by order. No function of the program is in sight here. -/
namespace Go.Proofs.YtoegpalacppllaaGreat
open Go.RowKit
def thenA (Q : Exit → Act → World → Prop) (K : Act → World → Prop) : Exit → Act → World → Prop
  | .normal => K
  | .panic c => Q (.panic c)
  | .exit i => Q (.exit i)
  | .ret => Q .ret
  | e => Q e
def AllA : List Nat → (Nat → Prop) → Prop
  | [], _ => True
  | k :: l, p => p k ∧ AllA l p
section
variable {P : Program} {ops : Array Oper} {Q : Exit → Act → World → Prop} {a : Act} {w0 : Base} {W : World} {L : List Blk} {r : Option (Option Nat)} {m : Nat} {o : Oper} {K : Act → World → Prop}
theorem n_A (h : K a W) : thenA Q K .normal a W := h
theorem OW.A {i : Nat} {K' : Act → World → Prop} (h : OW r m P ops (thenA Q K) i K' a W) : OW r m P ops Q i K' a W := by
  cases r with
  | none => exact h
  | some k => exact h
theorem LW0.last (h : LW0 r m P ops Q [] a W) : Q .normal a W := by cases r <;> exact h
theorem AllA.of {p : Nat → Prop} : ∀ {l : List Nat}, AllA l p → ∀ k ∈ l, p k
  | k :: l, h, j, hj => by
    rcases List.mem_cons.1 hj with rfl | hj
    · exact h.1
    · exact AllA.of h.2 j hj
theorem awn {f : Nat} {done : Array Bool} (ks : List Nat) (hr : (Region.ready .any ops done == ks) = true) (hne : ks ≠ []) (h : AllA ks fun k => ∃ o, ops[k]? = some o ∧ LW r m P ops (thenA Q (AW r m P .any ops Q f (done.setIfInBounds k true))) [o] a W) : AW r m P .any ops Q (f + 1) done a W := by
  have e : Region.ready .any ops done = ks := by simpa using hr
  refine AW.succ (by rw [e]; exact hne) fun i hi => ?_
  rw [e] at hi
  obtain ⟨o, ho, h⟩ := AllA.of h i hi
  exact OW.A ((OW.of_LW ho h).mono fun a w h => LW0.last h)
theorem aw1 {f : Nat} {done : Array Bool} (k : Nat) (hr : (Region.ready .any ops done == [k]) = true) (ho : ops[k]? = some o) (h : LW r m P ops (thenA Q (AW r m P .any ops Q f (done.setIfInBounds k true))) [o] a W) : AW r m P .any ops Q (f + 1) done a W :=
  awn [k] hr (by simp) ⟨⟨o, ho, h⟩, trivial⟩
theorem aw0 {done : Array Bool} (hr : (Region.ready .any ops done == []) = true) (h : Q .normal a W) : AW r m P .any ops Q 0 done a W := AW.zero (by simpa using hr) h
/-- the frame is written anew: what is of no account is anything -/
theorem c_cut {c : Code} {bs : List Value} {us : List (Nat × Value)} {ds : List Deferred} (F : (Nat → Value) → List Value) (hl : toL bs us = F (look bs us)) (h : ∀ j, CW r m P c Q (fr (F j) [] ds) W) : CW r m P c Q (fr bs us ds) W := by
  have e : fr bs us ds = fr (F (look bs us)) [] ds := by rw [← hl]; rfl
  rw [e]; exact h _
/-- a pure operation may come first -/
theorem awt {bs : List Value} {us : List (Nat × Value)} {ds : List Deferred} {f d : Nat} {v : Value} {done : Array Bool} (k : Nat) (hs : Region.noSelect ops = true) (hf : Region.free .any ops done k = true) (hr : (Region.ready .any ops done).contains k = true) (ho : ops[k]? = some o) (hd : o.dst = some d) (hv : Runs P bs us o v) (hw : Region.wanted o (yielded ops (fr bs us ds).tmps) = true)
    (hQ : ∀ c a w, Q (.panic c) (a.put o.dst v) w → Q (.panic c) a w) (h : AW none m P .any ops Q f (done.setIfInBounds k true) (fr bs ((d, v) :: us) ds) W) : AW none m P .any ops Q (f + 1) done (fr bs us ds) W :=
  wpAny_take ho hs hf hr hQ (.inl ⟨hw, fun w => by rw [eval_ev]; exact hv w⟩) (by rw [hd, put_st]; exact h)
theorem AW.A {X : Act → World → Prop} (hk : ∀ a W, X a W → Q .normal a W) : ∀ (f : Nat) (done : Array Bool) (a : Act) (W : World), AW r m P .any ops (thenA Q X) f done a W → AW r m P .any ops Q f done a W := by
  intro f
  induction f with
  | zero =>
    intro done a W h
    cases r with
    | none => exact ⟨h.1, hk _ _ h.2⟩
    | some k => exact ⟨h.1, hk _ _ h.2⟩
  | succ f ih =>
    intro done a W h
    have hs : ∀ i ∈ Region.ready .any ops done, OW r m P ops Q i (AW r m P .any ops Q f (done.setIfInBounds i true)) a W := fun i hi => OW.A (OW.mono (fun a w h => ih _ a w h) (AW.get h hi))
    have h0 : Region.ready .any ops done = [] → thenA Q X .normal a W := by cases r <;> exact h.1
    cases r with
    | none => exact ⟨fun e => hk _ _ (h0 e), hs⟩
    | some k => exact ⟨fun e => hk _ _ (h0 e), hs⟩
theorem c_regX (hW : Cl w0 L W) {id : Nat} {os : List Oper} (n : Nat) (hm : P.follows .mixedOrders = true) (hn : os.length = n) (h : ∀ W', Cl w0 L W' → AW r m P .any os.toArray Q n (Array.replicate n false) a W') : CW r m P (Code.region id os.toArray true) Q a W := by
  have H := h _ hW.drew
  subst hn
  cases r with
  | none => exact wp_region_any hm H
  | some k => exact wpIn_region_any hm H
end
end Go.Proofs.YtoegpalacppllaaGreat

/- The box and the partitions of the examples. -/
namespace Go.Proofs.YtoegpalacppllaaGreat
open Go.RowKit Pl
open Tr Hn
/-- the box of the examples -/
def thB (m : Int) : Bo := ⟨⟨1, 3, 0, 0, 0, 0⟩, [0, 5], m, 0, 0, noBo.k, 0, 0⟩
/-- subsets of a tree with these nodes -/
def nodeL (l : List Int) : List (Int × Int) := l.map fun v => (v, 0)
theorem nodeL_step {l : List Int} {i : Nat} (h : i < l.length) : nodeL (l.take (i + 1)) = nodeL (l.take i) ++ [(at_ l i, 0)] := by
 rw [nodeL, List.take_succ_eq_append_getElem h, List.map_append]
 simp [nodeL, at_, List.getD_eq_getElem?_getD, h]
theorem bld_th (m : Int) (a : Option Addr) (n c : Nat) : ∀ w, (Instr.build 31 [(0, .agg [.int .u8 1, .int .i64 3, .int .i64 0, .int .u64 0, .int .u64 0, .int .u64 0].toArray), (1, .slice a n c), (2, .int .u8 m)].toArray).run Tryz.prog w = .ok (.agg (boC (thB m) ⟨a, n, c⟩).toArray) w := fun _ => by kernel_rfl
set_option maxRecDepth 10000 in
/-- headend/headendlaw08.is -/
theorem g_is (aa : Option Addr) (an ac : Nat) (l : List Int) (ba : Option Addr) (bn bc : Nat) (m : List Int) (hl : l.length ≤ 4294967296) : GivesR Tryz.prog 32 [.slice aa an ac, .slice ba bn bc].toArray (fun w => RdI w ⟨aa, an, ac⟩ l ∧ RdI w ⟨ba, bn, bc⟩ m) (.bool (decide (l = m))) := by
 refine givesR_of Tryz.func32 rfl (bs := [.slice aa an ac, .slice ba bn bc, undef, undef, undef, undef, undef, undef]) rfl ?_
 intro w hP hW
 refine c_seq (c_reg ?_)
 refine bB ?_
 refine l_end (n_then (c_seq (c_reg ?_)))
 refine aS ?_
 refine aS ?_
 refine l_callR hW (g_SameInts aa an ac l ba bn bc m hl) en78 ⟨hP.1.past hW.below, hP.2.past hW.below⟩ rfl rfl rfl rfl ?_
 intro W hW
 refine bB ?_
 refine l_end (n_then (c_ret ?_))
 refine ret_tmp (v := .bool (decide (l = m))) rfl ?_ ⟨rfl, hW.below⟩
 rfl

set_option maxRecDepth 10000 in
/-- headend/headendlaw08.three -/
theorem g_three (m : Int) : GivesX Tryz.prog 33 [.int .u8 m].toArray (fun _ => True) (fun v Bs => ∃ s : Sl, v = .agg (boC (thB m) s).toArray ∧ NewI s (thB m).l Bs) := by
 refine givesX_of Tryz.func33 rfl (bs := [.int .u8 m, undef, undef, undef, undef, undef, undef]) rfl ?_
 intro w hP hW
 refine c_seq (c_reg ?_)
 refine l_alloc hW tyZ31 rfl rfl rfl ?_
 intro g1 W hW
 refine l_end (n_then (c_seq (c_reg ?_)))
 refine l_val (r_build (ps := [(0, .int _ _), (1, .int _ _)]) (bld26_0_1 _ _) rfl rfl) rfl rfl ?_
 refine l_buildSliceF hW (bsl27_2_0_1 _ _) rfl rfl rfl rfl ?_
 intro gl W hW
 refine aI ?_
 refine l_val (r_build (ps := [(0, .agg _), (1, .slice _ _ _), (2, .int _ _)]) (bld_th _ _ _ _) rfl rfl) rfl rfl ?_
 refine sA hW 1 tyA31 ?_
 intro W hW
 refine l_end (n_then (c_ret ?_))
 refine rC hW 1 tyA31 ?_
 exact ⟨_, [_], rfl, ⟨⟨some ⟨gl, 0, none⟩, 2, 2⟩, rfl, (OwnSl.full (e := 3) (sz := 1) (n := 2) rfl (by decide)).newI⟩, hW.sub (List.sublist_append_left [_] [_])⟩

set_option maxRecDepth 10000 in
/-- headend/headendlaw08.parts -/
theorem g_parts (aa : Option Addr) (an ac : Nat) (l : List Int) (hl : l.length ≤ 100) : GivesX Tryz.prog 35 [.slice aa an ac].toArray (fun w => RdI w ⟨aa, an, ac⟩ l) (fun v Bs => ∃ (a : Option Addr) (c : Nat), v = .slice a l.length c ∧ OwnSl 64 2 a l.length c (sl2 (nodeL l)) Bs) := by
 refine givesX_of Tryz.func35 rfl (bs := [.slice aa an ac, undef, undef, undef, undef, undef, undef, undef, undef, undef, undef, undef, undef, undef, undef, undef, undef, undef, undef]) rfl ?_
 intro w hP hW
 have hn : an = l.length := hP.len
 refine c_seq (c_reg ?_)
 refine bS ?_
 refine l_end (n_then (c_seq (c_reg ?_)))
 refine bS ?_
 refine l_end (n_then (c_seq (c_seq (c_reg ?_))))
 refine aS ?_
 refine l_val (r_lenSlice Tryz.underlying27 rfl rfl) rfl rfl ?_
 refine aI ?_
 refine l_end (n_then (c_block ?_))
 refine c_loop (fun (z : Nat × Option Addr × Nat × List Blk) (j : Nat → Value) => [.slice aa an ac, j 1, j 2, .slice z.2.1 z.1 z.2.2.1, j 4, j 5, .slice aa an ac, .int .i64 (an : Int), .int .i64 (z.1 : Int), j 9, j 10, j 11, j 12, j 13, j 14, j 15, j 16, j 17, j 18]) (fun (z : Nat × Option Addr × Nat × List Blk) => [] ++ z.2.2.2) (fun (z : Nat × Option Addr × Nat × List Blk) => z.1 ≤ an ∧ OwnSl 64 2 z.2.1 z.1 z.2.2.1 (sl2 (nodeL (l.take z.1))) z.2.2.2) (fun (z : Nat × Option Addr × Nat × List Blk) => an - z.1) (0, none, 0, []) (by kernel_rfl) (by simpa using hW) ⟨Nat.zero_le _, OwnSl.nil 64 2⟩ ?_
 intro z j W hx hW
 obtain ⟨hzi, hO⟩ := hx
 refine c_seq (c_reg ?_)
 refine l_val (r_lssN rfl rfl rfl rfl) rfl rfl ?_
 refine l_split ?_ ?_
 ·intro hc1
  replace hc1 := of_decide_eq_true hc1
  obtain ⟨b0, o0, ha, hc⟩ := hP.ptr (by omega)
  simp only at ha
  subst ha
  refine l_end (n_then (c_seq ?_))
  refine c_true rfl ?_
  refine c_skip (n_then (c_seq (c_block (c_seq (c_reg ?_)))))
  refine l_val (r_indexAddrSl2 (n := z.1) Tryz.underlying27 tyC3.size rfl rfl rfl (by omega)) rfl rfl ?_
  refine l_loadF hW tyC3 (v := .int .i64 (at_ l (z.1))) (hc (z.1) (by omega)) rfl rfl rfl rfl ?_
  refine bI ?_
  refine l_end (n_then (c_reg ?_))
  refine aS ?_
  refine aI ?_
  refine l_val (r_build (ps := [(0, .int _ _)]) (bld64_0 _) rfl rfl) rfl rfl ?_
  refine l_buildSliceF hW (bsl33_1_0 _ _) rfl rfl rfl rfl ?_
  intro gb W hW
  have hst := nodeL_step (l := l) (i := z.1) (by omega)
  refine l_appendB tyE33 (L := [_]) hO hW 0 (N := z.1 + 1) (by omega) rfl rfl rfl rfl rfl rfl rfl (by simp [Value.oneCell']) (by unfold maxLen; omega) (by omega) ?_
  intro a1 c1 Bs1 W hO1 hW
  replace hO1 := hO1.castx rfl (xs' := sl2 (nodeL (l.take (z.1 + 1)))) (by rw [hst, sl2_append]; rfl)
  refine bS ?_
  refine l_end (n_block (n_then (c_reg ?_)))
  refine l_val (r_addN (n := 1) rfl rfl rfl (by omega)) rfl rfl ?_
  refine aI ?_
  refine l_end (n_then ?_)
  exact loop_next (z.1 + 1, a1, c1, Bs1) (by kernel_rfl) (hW.drop 1) ⟨by simp only; omega, hO1⟩ (by simp only; omega)
 ·intro hc1
  replace hc1 := of_decide_eq_false hc1
  refine l_end (n_then (c_seq ?_))
  refine c_false rfl ?_
  refine c_exit (x_then (x_then ?_))
  refine x_hit ?_
  refine n_then (c_seq (c_reg ?_))
  refine aS ?_
  refine bS ?_
  refine l_end (n_then (c_ret ?_))
  refine ret_tmp (v := .slice _ _ _) rfl rfl ?_
  have ez : z.1 = l.length := by omega
  rw [ez, List.take_of_length_le (Nat.le_refl _)] at hO
  exact ⟨_, _, rfl, ⟨_, _, by rw [← ez], hO⟩, hW⟩

end Go.Proofs.YtoegpalacppllaaGreat

/- The examples of the outright statements hold. -/
namespace Go.Proofs.YtoegpalacppllaaGreat
open Go.RowKit Pl
open Tr Hn
def eh1 : Hu := ⟨5, [[0, 1, 2], [3, 4]], [], [], 1⟩
def eh2 : Hu := ⟨5, [[3], [4]], [0, 1, 2], [], 2⟩
def eh3 : Hu := ⟨5, [], [0, 1, 2, 4], [3], 3⟩
theorem eh_1 : hear (newH 5) 0 = (eh1, 0) := by kernel_rfl
theorem eh_2 : hear eh1 2 = (eh2, 0) := by kernel_rfl
theorem eh_3 : hear eh2 1 = (eh3, 0) := by kernel_rfl
theorem eh_v : varsR eh1 = [1, 1, 1, 2, 2] := by kernel_rfl
theorem eh_c : chkH eh1 = 0 := by kernel_rfl
theorem eh_n : newE 5 = 0 := by kernel_rfl
theorem eh_r : roundsV 5 2 = 8 ∧ roundsE 5 2 = 0 := ⟨by kernel_rfl, by kernel_rfl⟩
theorem eh_b : boundV (thB 1).s 0 = 85 ∧ boundE (thB 1).s 0 = 0 := ⟨by kernel_rfl, by kernel_rfl⟩
theorem ea_1 : askE (thB 1) (nodeL [2, 3]) 1 = 0 ∧ askP (thB 1) (nodeL [2, 3]) 1 = false := ⟨by kernel_rfl, by kernel_rfl⟩
theorem ea_3 : askE (thB 3) (nodeL [2, 3]) 1 = 0 ∧ askP (thB 3) (nodeL [2, 3]) 1 = true := ⟨by kernel_rfl, by kernel_rfl⟩
theorem et_e : traceE (thB 1) (nodeL [1]) 0 = 0 := by kernel_rfl
theorem et_1 : (traceT (thB 1) (nodeL [1]) 0).1.nm = [0, 5] := by kernel_rfl
theorem et_2 : (traceT (thB 1) (nodeL [1]) 0).1.l = nodeL [9, 5, 12, 7] := by kernel_rfl
theorem et_3 : (traceT (thB 1) (nodeL [1]) 0).2 = 1 := by kernel_rfl
theorem et_4 : (traceT (thB 1) (nodeL [1]) 0).1.b.a = ((traceT (thB 1) (nodeL [1]) 0).1.a : Int) := by kernel_rfl
theorem hun_fit {w : World} {h : Hu} {p r q : Sl} {ss : List Sl} (k : RdHu w h p r q ss) (h2 : h.ps.length ≤ 200) : p.n * 48 ≤ 140737488351232 := by
 have h3 := k.pn
 have h4 := k.len
 omega
section
variable {P : Program} {ops : Array Oper} {Q : Exit → Act → World → Prop} {bs : List Value} {us : List (Nat × Value)} {ds : List Deferred} {w0 : Base} {W : World} {rest : List Oper} {o : Oper} {L : List Blk} {d : Nat} {v : Value} {r : Option (Option Nat)} {m : Nat}
/-- a slice that is made under a guard -/
theorem l_buildSliceFG (hW : Cl w0 L W) {t e : TypeId} {n : Nat} {parts : Array (Nat × Operand)} {ps : List (Nat × Value)} {cs : List Value} (hb : ∀ w, (Instr.buildSlice t n ps.toArray).run P w = .ok (.slice (some ⟨w.heap.size, 0, none⟩) n n) (w.alloc (.cells cs.toArray e))) (hg : Region.wanted o (yielded ops (fr bs us ds).tmps) = true) (ho : o.op = .buildSlice t n parts) (hp : parts.toList.map (fun p => (p.1, ev bs us p.2)) = ps) (hd : o.dst = some d)
  (h : ∀ g W', Cl w0 (⟨g, cs, e⟩ :: L) W' → LW r m P ops Q rest (fr bs ((d, .slice (some ⟨g, 0, none⟩) n n) :: us) ds) W') : LW r m P ops Q (o :: rest) (fr bs us ds) W :=
 l_runG hg (run_bslF hb ho hp W) hd (h _ _ (hW.alloc cs e))
/-- a call under a guard that hands back memory of its own -/
theorem l_callXG (hW : Cl w0 L W) {f : FuncId} {xs : Array Operand} {ts : Array TypeId} {args : List Value} {Pre : World → Prop} {X : Value → List Blk → Prop} (hgv : GivesX P f args.toArray Pre X) (he : Enters P f) (hp : Pre W) (hg : Region.wanted o (yielded ops (fr bs us ds).tmps) = true) (ho : o.op = .call { callee := .value (.func f), args := xs, argTypes := ts }) (ha : xs.toList.map (ev bs us) = args) (hd : o.dst = some d)
  (h : ∀ v Bs W', X v Bs → Cl w0 (L ++ Bs) W' → LW r m P ops Q rest (fr bs ((d, v) :: us) ds) W') : LW r m P ops Q (o :: rest) (fr bs us ds) W :=
 LW.call hg (by rw [eval_ev]; exact run_call he ho ha W) ((hgv W hp).mono fun _ w ⟨v, Bs, he, hx, hc⟩ => ⟨v, he, by show LW r m P ops Q rest ((fr bs us ds).put o.dst v) w; rw [hd, put_st]; exact h v Bs w hx (hW.beside hc)⟩)
end
theorem rd_blk {b : Base} {L : List Blk} {W : World} {g k : Nat} {l : List Int} {e : TypeId} (p : Nat) (hW : Cl b L W) (hp : L[p]? = some ⟨g, il l, e⟩) (hl : l.length = k) (hm : k ≤ maxLen) : RdI W ⟨some ⟨g, 0, none⟩, k, k⟩ l :=
 (OwnSl.full (e := e) (sz := 1) (n := k) (by rw [il, List.length_map, hl, Nat.mul_one]) hm).rep.at hW (List.singleton_sublist.2 (List.mem_of_getElem? hp))
set_option maxRecDepth 10000 in
set_option maxHeartbeats 4000000 in
/-- headend/headendlaw08.alive -/
theorem g_alive  : Gives Tryz.prog 31 [].toArray (.bool true) := by
 refine gives_of Tryz.func31 rfl (bs := [undef, undef, undef, undef, undef, undef, undef, undef, undef, undef, undef, undef, undef, undef, undef, undef, undef, undef, undef, undef, undef, undef, undef, undef, undef, undef, undef, undef, undef, undef, undef, undef, undef, undef, undef, undef, undef, undef, undef, undef, undef, undef, undef, undef, undef, undef, undef, undef, undef, undef, undef, undef, undef, undef, undef, undef, undef, undef, undef, undef, undef, undef, undef, undef, undef, undef, undef, undef, undef, undef, undef, undef, undef, undef, undef, undef, undef, undef, undef, undef, undef, undef, undef, undef, undef, undef, undef, undef, undef, undef, undef, undef, undef, undef, undef, undef, undef, undef, undef, undef, undef, undef, undef, undef, undef, undef, undef, undef, undef, undef, undef, undef, undef, undef, undef, undef, undef, undef, undef, undef, undef, undef, undef, undef, undef, undef, undef, undef, undef, undef, undef, undef, undef, undef, undef, undef, undef, undef, undef, undef, undef, undef, undef, undef, undef, undef, undef, undef, undef, undef, undef, undef, undef, undef, undef, undef, undef, undef, undef, undef, undef, undef, undef, undef, undef, undef, undef, undef, undef, undef, undef, undef, undef, undef, undef, undef, undef, undef, undef, undef, undef, undef, undef, undef]) rfl ?_
 intro w hW
 refine c_seq (c_reg ?_)
 refine bB ?_
 refine l_end (n_then (c_seq (c_reg ?_)))
 refine l_callX hW (g_NewHunt 5) en28 trivial rfl rfl rfl rfl ?_
 rintro _ B1 W ⟨_, rfl, p1, r1, q1, ss1, rfl, n1⟩ hW
 rw [eh_n]
 refine l_val (r_move (v := .tuple _) rfl rfl) rfl rfl ?_
 refine l_val (r_extract (v := .agg _) rfl rfl rfl) rfl rfl ?_
 refine l_val (r_extract (v := .int _ _) rfl rfl rfl) rfl rfl ?_
 refine l_alloc hW tyZ69 rfl rfl rfl ?_
 intro g1 W hW
 refine sA hW 0 tyA69 ?_
 intro W hW
 refine bI ?_
 refine l_end (n_then (c_seq (c_reg ?_)))
 refine dA hW 0 tyA69 ?_
 have hn1 := (n1.rep.at (show Cl _ ([_] ++ B1) _ from hW) ((List.sublist_append_right _ B1)))
 refine l_callX hW (g_Hear (newH 5) p1.a p1.n p1.c r1 q1 ss1 0 (small_of (by kernel_rfl)) (hun_fit hn1 (by decide))) en29 hn1 rfl rfl rfl rfl ?_
 rintro _ B2 W ⟨_, rfl, p2, r2, q2, ss2, rfl, n2⟩ hW
 rw [eh_1] at n2 ⊢
 replace n2 : NewHu eh1 p2 r2 q2 ss2 B2 := n2
 refine l_val (r_move (v := .tuple _) rfl rfl) rfl rfl ?_
 refine l_val (r_extract (v := .agg _) rfl rfl rfl) rfl rfl ?_
 refine l_val (r_extract (v := .int _ _) rfl rfl rfl) rfl rfl ?_
 refine l_alloc hW tyZ69 rfl rfl rfl ?_
 intro g2 W hW
 refine sA hW 0 tyA69 ?_
 intro W hW
 refine bI ?_
 refine l_end (n_then (c_seq (c_reg ?_)))
 refine dA hW 0 tyA69 ?_
 have hn2 := (n2.rep.at (show Cl _ (([_, _] ++ B1) ++ B2) _ from hW) ((List.sublist_append_right _ B2)))
 refine l_callX hW (g_Hear eh1 p2.a p2.n p2.c r2 q2 ss2 2 (small_of (by kernel_rfl)) (hun_fit hn2 (by decide))) en29 hn2 rfl rfl rfl rfl ?_
 rintro _ B3 W ⟨_, rfl, p3, r3, q3, ss3, rfl, n3⟩ hW
 rw [eh_2] at n3 ⊢
 replace n3 : NewHu eh2 p3 r3 q3 ss3 B3 := n3
 refine l_val (r_move (v := .tuple _) rfl rfl) rfl rfl ?_
 refine l_val (r_extract (v := .agg _) rfl rfl rfl) rfl rfl ?_
 refine l_val (r_extract (v := .int _ _) rfl rfl rfl) rfl rfl ?_
 refine l_alloc hW tyZ69 rfl rfl rfl ?_
 intro g3 W hW
 refine sA hW 0 tyA69 ?_
 intro W hW
 refine bI ?_
 refine l_end (n_then (c_seq (c_reg ?_)))
 refine dA hW 0 tyA69 ?_
 have hn3 := (n3.rep.at (show Cl _ ((([_, _, _] ++ B1) ++ B2) ++ B3) _ from hW) ((List.sublist_append_right _ B3)))
 refine l_callX hW (g_Hear eh2 p3.a p3.n p3.c r3 q3 ss3 1 (small_of (by kernel_rfl)) (hun_fit hn3 (by decide))) en29 hn3 rfl rfl rfl rfl ?_
 rintro _ B4 W ⟨_, rfl, p4, r4, q4, ss4, rfl, n4⟩ hW
 rw [eh_3] at n4 ⊢
 replace n4 : NewHu eh3 p4 r4 q4 ss4 B4 := n4
 refine l_val (r_move (v := .tuple _) rfl rfl) rfl rfl ?_
 refine l_val (r_extract (v := .agg _) rfl rfl rfl) rfl rfl ?_
 refine l_val (r_extract (v := .int _ _) rfl rfl rfl) rfl rfl ?_
 refine l_alloc hW tyZ69 rfl rfl rfl ?_
 intro g4 W hW
 refine sA hW 0 tyA69 ?_
 intro W hW
 refine bI ?_
 refine l_end (n_then (c_seq ?_))
 refine c_cut (fun j => [.bool false, j 1, .int .i64 0, .pointer (some ⟨g2, 0, none⟩), .int .i64 0, .pointer (some ⟨g3, 0, none⟩), .int .i64 0, .pointer (some ⟨g4, 0, none⟩), .int .i64 0, j 9, j 10, j 11, j 12, j 13, j 14, j 15, j 16, j 17, j 18, j 19, j 20, j 21, j 22, j 23, j 24, j 25, j 26, j 27, j 28, j 29, j 30, j 31, j 32, j 33, j 34, j 35, j 36, j 37, j 38, j 39, j 40, j 41, j 42, j 43, j 44, j 45, j 46, j 47, j 48, j 49, j 50, j 51, j 52, j 53, j 54, j 55, j 56, j 57, j 58, j 59, j 60, j 61, j 62, j 63, j 64, j 65, j 66, j 67, j 68, j 69, j 70, j 71, j 72, j 73, j 74, j 75, j 76, j 77, j 78, j 79, j 80, j 81, j 82, j 83, j 84, j 85, j 86, j 87, j 88, j 89, j 90, j 91, j 92, j 93, j 94, j 95, j 96, j 97, j 98, j 99, j 100, j 101, j 102, j 103, j 104, j 105, j 106, j 107, j 108, j 109, j 110, j 111, j 112, j 113, j 114, j 115, j 116, j 117, j 118, j 119, j 120, j 121, j 122, j 123, j 124, j 125, j 126, j 127, j 128, j 129, j 130, j 131, j 132, j 133, j 134, j 135, j 136, j 137, j 138, j 139, j 140, j 141, j 142, j 143, j 144, j 145, j 146, j 147, j 148, j 149, j 150, j 151, j 152, j 153, j 154, j 155, j 156, j 157, j 158, j 159, j 160, j 161, j 162, j 163, j 164, j 165, j 166, j 167, j 168, j 169, j 170, j 171, j 172, j 173, j 174, j 175, j 176, j 177, j 178, j 179, j 180, j 181, j 182, j 183]) (by kernel_rfl) ?_
 intro j
 refine c_reg ?_
 refine dA hW 2 tyA69 ?_
 refine l_callX hW (g_Variants eh1 p2.a p2.n p2.c r2 q2 ss2 (small_of (by kernel_rfl)) (hun_fit hn2 (by decide))) en39 (n2.rep.at (show Cl _ (((([_, _, _, _] ++ B1) ++ B2) ++ B3) ++ B4) _ from hW) ((((List.sublist_append_right _ B2).trans (List.sublist_append_left _ B3)).trans (List.sublist_append_left _ B4)))) rfl rfl rfl rfl ?_
 rintro _ B5 W ⟨s5, rfl, n5⟩ hW
 rw [eh_c]
 refine l_val (r_move (v := .tuple _) rfl rfl) rfl rfl ?_
 refine l_val (r_extract (v := .slice _ _ _) rfl rfl rfl) rfl rfl ?_
 refine l_val (r_extract (v := .int _ _) rfl rfl rfl) rfl rfl ?_
 refine bS ?_
 refine bI ?_
 refine l_end (n_then (c_seq (c_seq (c_reg ?_))))
 refine aI ?_
 refine l_val (r_neq (b := false) rfl rfl rfl (by decide)) rfl rfl ?_
 refine aB ?_
 refine gI ?_
 refine l_valG (r_neq (b := false) rfl rfl rfl (by decide)) (by kernel_rfl) rfl ?_
 refine kB ?_
 refine aB ?_
 refine gI ?_
 refine l_valG (r_neq (b := false) rfl rfl rfl (by decide)) (by kernel_rfl) rfl ?_
 refine kB ?_
 refine aB ?_
 refine gI ?_
 refine l_valG (r_neq (b := false) rfl rfl rfl (by decide)) (by kernel_rfl) rfl ?_
 refine kB ?_
 refine aB ?_
 refine gI ?_
 refine l_valG (r_neq (b := false) rfl rfl rfl (by decide)) (by kernel_rfl) rfl ?_
 refine kB ?_
 refine aB ?_
 refine l_valG (r_move (v := .slice _ _ _) rfl rfl) (by kernel_rfl) rfl ?_
 refine l_buildSliceFG hW (bsl27_5_0_1_2_3_4 _ _ _ _ _) (by kernel_rfl) rfl rfl rfl ?_
 intro gi W hW
 refine l_callRG hW (GivesR.cast (g_is s5.a s5.n s5.c (varsR eh1) (some ⟨gi, 0, none⟩) 5 5 [1, 1, 1, 2, 2] (by rw [eh_v]; decide)) (congrArg Value.bool (decide_eq_true (eh_v)))) en32 ⟨(n5.rep.at (show Cl _ ((((([_, _, _, _, _] ++ B1) ++ B2) ++ B3) ++ B4) ++ B5) _ from hW) ((List.sublist_append_right _ B5))), rd_blk 0 hW rfl rfl (by decide)⟩ (by kernel_rfl) rfl rfl rfl ?_
 intro W hW
 refine l_valG (r_not rfl rfl) (by kernel_rfl) rfl ?_
 refine kB ?_
 refine aB ?_
 refine l_valG (r_fieldAddr 2 Tryz.underlying69 rfl tyC27.size rfl rfl rfl) (by kernel_rfl) rfl ?_
 refine dG hW 2 tyC27 ?_
 refine l_buildSliceFG hW (bsl27_3_0_1_2 _ _ _) (by kernel_rfl) rfl rfl rfl ?_
 intro gi W hW
 refine l_callRG hW (GivesR.cast (g_is r3.a r3.n r3.c eh2.rest (some ⟨gi, 0, none⟩) 3 3 [0, 1, 2] (by rw [show eh2.rest = [0, 1, 2] from rfl]; decide)) (congrArg Value.bool (decide_eq_true (show eh2.rest = [0, 1, 2] from rfl)))) en32 ⟨(n3.rep.at (show Cl _ ((((([_, _, _, _, _, _] ++ B1) ++ B2) ++ B3) ++ B4) ++ B5) _ from hW) ((((List.sublist_append_right _ B3).trans (List.sublist_append_left _ B4)).trans (List.sublist_append_left _ B5)))).rest, rd_blk 0 hW rfl rfl (by decide)⟩ (by kernel_rfl) rfl rfl rfl ?_
 intro W hW
 refine l_valG (r_not rfl rfl) (by kernel_rfl) rfl ?_
 refine kB ?_
 refine aB ?_
 refine l_valG (r_fieldAddr 2 Tryz.underlying69 rfl tyC27.size rfl rfl rfl) (by kernel_rfl) rfl ?_
 refine dG hW 2 tyC27 ?_
 refine l_buildSliceFG hW (bsl27_4_0_1_2_3 _ _ _ _) (by kernel_rfl) rfl rfl rfl ?_
 intro gi W hW
 refine l_callRG hW (GivesR.cast (g_is r4.a r4.n r4.c eh3.rest (some ⟨gi, 0, none⟩) 4 4 [0, 1, 2, 4] (by rw [show eh3.rest = [0, 1, 2, 4] from rfl]; decide)) (congrArg Value.bool (decide_eq_true (show eh3.rest = [0, 1, 2, 4] from rfl)))) en32 ⟨(n4.rep.at (show Cl _ ((((([_, _, _, _, _, _, _] ++ B1) ++ B2) ++ B3) ++ B4) ++ B5) _ from hW) (((List.sublist_append_right _ B4).trans (List.sublist_append_left _ B5)))).rest, rd_blk 0 hW rfl rfl (by decide)⟩ (by kernel_rfl) rfl rfl rfl ?_
 intro W hW
 refine l_valG (r_not rfl rfl) (by kernel_rfl) rfl ?_
 refine kB ?_
 refine aB ?_
 refine l_valG (r_fieldAddr 3 Tryz.underlying69 rfl tyC27.size rfl rfl rfl) (by kernel_rfl) rfl ?_
 refine dG hW 3 tyC27 ?_
 refine l_buildSliceFG hW (bsl27_1_0 _) (by kernel_rfl) rfl rfl rfl ?_
 intro gi W hW
 refine l_callRG hW (GivesR.cast (g_is q4.a q4.n q4.c eh3.named (some ⟨gi, 0, none⟩) 1 1 [3] (by rw [show eh3.named = [3] from rfl]; decide)) (congrArg Value.bool (decide_eq_true (show eh3.named = [3] from rfl)))) en32 ⟨(n4.rep.at (show Cl _ ((((([_, _, _, _, _, _, _, _] ++ B1) ++ B2) ++ B3) ++ B4) ++ B5) _ from hW) (((List.sublist_append_right _ B4).trans (List.sublist_append_left _ B5)))).named, rd_blk 0 hW rfl rfl (by decide)⟩ (by kernel_rfl) rfl rfl rfl ?_
 intro W hW
 refine l_valG (r_not rfl rfl) (by kernel_rfl) rfl ?_
 refine kB ?_
 refine aB ?_
 refine l_valG (r_fieldAddr 1 Tryz.underlying69 rfl tyC67.size rfl rfl rfl) (by kernel_rfl) rfl ?_
 refine dG hW 4 tyC67 ?_
 have hp4 : p4.n = 0 := by have h1 := (n4.rep.at (show Cl _ ((((([_, _, _, _, _, _, _, _] ++ B1) ++ B2) ++ B3) ++ B4) ++ B5) _ from hW) (((List.sublist_append_right _ B4).trans (List.sublist_append_left _ B5)))).pn; have h2 := (n4.rep.at (show Cl _ ((((([_, _, _, _, _, _, _, _] ++ B1) ++ B2) ++ B3) ++ B4) ++ B5) _ from hW) (((List.sublist_append_right _ B4).trans (List.sublist_append_left _ B5)))).len; have h3 : eh3.ps.length = 0 := rfl; omega
 refine l_valG (r_lenSlice Tryz.underlying67 rfl rfl) (by kernel_rfl) rfl ?_
 refine l_valG (r_neqN (b := false) (n := 0) rfl rfl rfl (decide_eq_false (by omega))) (by kernel_rfl) rfl ?_
 refine kB ?_
 refine l_end (n_then ?_)
 refine c_false rfl ?_
 refine c_skip (n_then (c_seq ?_))
 refine c_cut (fun j => [.bool false, j 1, .int .i64 0, j 3, .int .i64 0, j 5, .int .i64 0, j 7, .int .i64 0, j 9, .int .i64 0, j 11, j 12, j 13, j 14, j 15, j 16, j 17, j 18, j 19, j 20, j 21, j 22, j 23, j 24, j 25, j 26, j 27, j 28, j 29, j 30, j 31, j 32, j 33, j 34, j 35, j 36, j 37, j 38, j 39, j 40, j 41, j 42, j 43, j 44, j 45, j 46, j 47, j 48, j 49, j 50, j 51, j 52, j 53, j 54, j 55, j 56, j 57, j 58, j 59, j 60, j 61, j 62, j 63, j 64, j 65, j 66, j 67, j 68, j 69, j 70, j 71, j 72, j 73, j 74, j 75, j 76, j 77, j 78, j 79, j 80, j 81, j 82, j 83, j 84, j 85, j 86, j 87, j 88, j 89, j 90, j 91, j 92, .bool false, j 94, j 95, j 96, j 97, j 98, j 99, j 100, j 101, j 102, j 103, j 104, j 105, j 106, j 107, j 108, j 109, j 110, j 111, j 112, j 113, j 114, j 115, j 116, j 117, j 118, j 119, j 120, j 121, j 122, j 123, j 124, j 125, j 126, j 127, j 128, j 129, j 130, j 131, j 132, j 133, j 134, j 135, j 136, j 137, j 138, j 139, j 140, j 141, j 142, j 143, j 144, j 145, j 146, j 147, j 148, j 149, j 150, j 151, j 152, j 153, j 154, j 155, j 156, j 157, j 158, j 159, j 160, j 161, j 162, j 163, j 164, j 165, j 166, j 167, j 168, j 169, j 170, j 171, j 172, j 173, j 174, j 175, j 176, j 177, j 178, j 179, j 180, j 181, j 182, j 183]) (by kernel_rfl) ?_
 intro j
 refine c_reg ?_
 have kr := g_Rounds 5 2
 rw [eh_r.1, eh_r.2] at kr
 refine l_call hW kr en30 rfl rfl rfl rfl ?_
 intro W hW
 refine l_val (r_move (v := .tuple _) rfl rfl) rfl rfl ?_
 refine l_val (r_extract (v := .int _ _) rfl rfl rfl) rfl rfl ?_
 refine l_val (r_extract (v := .int _ _) rfl rfl rfl) rfl rfl ?_
 refine bI ?_
 refine bI ?_
 refine l_end (n_then (c_seq (c_reg ?_)))
 refine l_callX hW (g_three 1) en33 trivial rfl rfl rfl rfl ?_
 rintro _ BA0 W ⟨sA0, rfl, nA0⟩ hW
 refine l_val (r_fieldA Tryz.underlying31 rfl tyA26 rfl rfl rfl) rfl rfl ?_
 have kb := g_Bound (thB 1).s 0
 rw [eh_b.1, eh_b.2] at kb
 refine l_call hW kb en44 rfl rfl rfl rfl ?_
 intro W hW
 refine l_val (r_move (v := .tuple _) rfl rfl) rfl rfl ?_
 refine l_val (r_extract (v := .int _ _) rfl rfl rfl) rfl rfl ?_
 refine l_val (r_extract (v := .int _ _) rfl rfl rfl) rfl rfl ?_
 refine bI ?_
 refine bI ?_
 refine l_end (n_then (c_seq ?_))
 refine c_cut (fun j => [.bool false, j 1, .int .i64 0, j 3, .int .i64 0, j 5, .int .i64 0, j 7, .int .i64 0, j 9, .int .i64 0, .int .i64 8, .int .i64 85, j 13, j 14, j 15, j 16, j 17, j 18, j 19, j 20, j 21, j 22, j 23, j 24, j 25, j 26, j 27, j 28, j 29, j 30, j 31, j 32, j 33, j 34, j 35, j 36, j 37, j 38, j 39, j 40, j 41, j 42, j 43, j 44, j 45, j 46, j 47, j 48, j 49, j 50, j 51, j 52, j 53, j 54, j 55, j 56, j 57, j 58, j 59, j 60, j 61, j 62, j 63, j 64, j 65, j 66, j 67, j 68, j 69, j 70, j 71, j 72, j 73, j 74, j 75, j 76, j 77, j 78, j 79, j 80, j 81, j 82, j 83, j 84, j 85, j 86, j 87, j 88, j 89, j 90, j 91, j 92, .bool false, j 94, j 95, j 96, j 97, j 98, j 99, j 100, j 101, j 102, j 103, j 104, j 105, j 106, j 107, j 108, j 109, j 110, j 111, j 112, j 113, j 114, j 115, j 116, j 117, j 118, j 119, j 120, j 121, j 122, j 123, j 124, j 125, j 126, j 127, j 128, j 129, j 130, j 131, j 132, j 133, j 134, j 135, j 136, j 137, j 138, j 139, j 140, j 141, j 142, j 143, j 144, j 145, j 146, j 147, j 148, j 149, j 150, j 151, j 152, j 153, j 154, j 155, j 156, j 157, j 158, j 159, j 160, j 161, j 162, j 163, j 164, j 165, j 166, j 167, j 168, j 169, j 170, j 171, j 172, j 173, j 174, j 175, j 176, j 177, j 178, j 179, j 180, j 181, j 182, j 183]) (by kernel_rfl) ?_
 intro j
 refine c_reg ?_
 refine l_callX hW (g_three 1) en33 trivial rfl rfl rfl rfl ?_
 rintro _ BA1 W ⟨sAx, rfl, nA⟩ hW
 refine l_buildSliceF hW (bsl27_2_0_1 _ _) rfl rfl rfl rfl ?_
 intro gi W hW
 refine l_callX hW (g_parts (some ⟨gi, 0, none⟩) 2 2 [2, 3] (by decide)) en35 (rd_blk 0 hW rfl rfl (by decide)) rfl rfl rfl rfl ?_
 rintro _ BA2 W ⟨aA, cA, rfl, oA⟩ hW
 refine l_callX hW (g_Ask (thB 1) sAx aA 2 cA (nodeL [2, 3]) 1 (by decide) (by decide)) en34 ⟨(nA.rep.at (show Cl _ (((((((([_, _, _, _, _, _, _, _, _] ++ B1) ++ B2) ++ B3) ++ B4) ++ B5) ++ BA0) ++ BA1) ++ BA2) _ from hW) (((List.sublist_append_right _ BA1).trans (List.sublist_append_left _ BA2)))), (oA.repB.at (show Cl _ (((((((([_, _, _, _, _, _, _, _, _] ++ B1) ++ B2) ++ B3) ++ B4) ++ B5) ++ BA0) ++ BA1) ++ BA2) _ from hW) ((List.sublist_append_right _ BA2)))⟩ rfl rfl rfl rfl ?_
 rintro _ BA3 W ⟨sA3, rfl, nA3⟩ hW
 rw [ea_1.1, ea_1.2]
 refine l_val (r_move (v := .tuple _) rfl rfl) rfl rfl ?_
 refine l_val (r_extract (v := .agg _) rfl rfl rfl) rfl rfl ?_
 refine l_val (r_extract (v := .bool _) rfl rfl rfl) rfl rfl ?_
 refine l_val (r_extract (v := .int _ _) rfl rfl rfl) rfl rfl ?_
 refine l_alloc hW tyZ31 rfl rfl rfl ?_
 intro g5 W hW
 refine sA hW 0 tyA31 ?_
 intro W hW
 refine bB ?_
 refine bI ?_
 refine l_end (n_then (c_seq (c_reg ?_)))
 refine l_callX hW (g_three 3) en33 trivial rfl rfl rfl rfl ?_
 rintro _ BB1_ W ⟨sB, rfl, nB⟩ hW
 refine l_buildSliceF hW (bsl27_2_0_1 _ _) rfl rfl rfl rfl ?_
 intro gi W hW
 refine l_callX hW (g_parts (some ⟨gi, 0, none⟩) 2 2 [2, 3] (by decide)) en35 (rd_blk 0 hW rfl rfl (by decide)) rfl rfl rfl rfl ?_
 rintro _ BB2_ W ⟨aBx, cB, rfl, oB⟩ hW
 refine l_callX hW (g_Ask (thB 3) sB aBx 2 cB (nodeL [2, 3]) 1 (by decide) (by decide)) en34 ⟨(nB.rep.at (show Cl _ ((((((((((([_, _, _, _, _, _, _, _, _, _, _] ++ B1) ++ B2) ++ B3) ++ B4) ++ B5) ++ BA0) ++ BA1) ++ BA2) ++ BA3) ++ BB1_) ++ BB2_) _ from hW) (((List.sublist_append_right _ BB1_).trans (List.sublist_append_left _ BB2_)))), (oB.repB.at (show Cl _ ((((((((((([_, _, _, _, _, _, _, _, _, _, _] ++ B1) ++ B2) ++ B3) ++ B4) ++ B5) ++ BA0) ++ BA1) ++ BA2) ++ BA3) ++ BB1_) ++ BB2_) _ from hW) ((List.sublist_append_right _ BB2_)))⟩ rfl rfl rfl rfl ?_
 rintro _ BB3_ W ⟨sB3, rfl, nB3⟩ hW
 rw [ea_3.1, ea_3.2]
 refine l_val (r_move (v := .tuple _) rfl rfl) rfl rfl ?_
 refine l_val (r_extract (v := .agg _) rfl rfl rfl) rfl rfl ?_
 refine l_val (r_extract (v := .bool _) rfl rfl rfl) rfl rfl ?_
 refine l_val (r_extract (v := .int _ _) rfl rfl rfl) rfl rfl ?_
 refine l_alloc hW tyZ31 rfl rfl rfl ?_
 intro g6 W hW
 refine sA hW 0 tyA31 ?_
 intro W hW
 refine bB ?_
 refine bI ?_
 refine l_end (n_then (c_seq ?_))
 refine c_cut (fun j => [.bool false, j 1, .int .i64 0, j 3, .int .i64 0, j 5, .int .i64 0, j 7, .int .i64 0, j 9, .int .i64 0, .int .i64 8, .int .i64 85, j 13, .bool false, j 15, .bool true, j 17, j 18, j 19, j 20, j 21, j 22, j 23, j 24, j 25, j 26, j 27, j 28, j 29, j 30, j 31, j 32, j 33, j 34, j 35, j 36, j 37, j 38, j 39, j 40, j 41, j 42, j 43, j 44, j 45, j 46, j 47, j 48, j 49, j 50, j 51, j 52, j 53, j 54, j 55, j 56, j 57, j 58, j 59, j 60, j 61, j 62, j 63, j 64, j 65, j 66, j 67, j 68, j 69, j 70, j 71, j 72, j 73, j 74, j 75, j 76, j 77, j 78, j 79, j 80, j 81, j 82, j 83, j 84, j 85, j 86, j 87, j 88, j 89, j 90, j 91, j 92, .bool false, j 94, j 95, j 96, j 97, j 98, j 99, j 100, j 101, j 102, j 103, j 104, j 105, j 106, j 107, j 108, j 109, j 110, j 111, j 112, j 113, j 114, j 115, j 116, j 117, j 118, j 119, j 120, j 121, j 122, j 123, j 124, j 125, j 126, j 127, j 128, j 129, j 130, j 131, j 132, j 133, j 134, j 135, j 136, j 137, j 138, j 139, j 140, j 141, j 142, j 143, j 144, j 145, j 146, j 147, j 148, j 149, j 150, j 151, j 152, j 153, j 154, j 155, j 156, j 157, j 158, j 159, j 160, j 161, j 162, j 163, j 164, j 165, j 166, j 167, j 168, j 169, j 170, j 171, j 172, j 173, j 174, j 175, j 176, j 177, j 178, j 179, j 180, j 181, j 182, j 183]) (by kernel_rfl) ?_
 intro j
 refine c_reg ?_
 refine l_callX hW (g_three 1) en33 trivial rfl rfl rfl rfl ?_
 rintro _ BC1 W ⟨sC, rfl, nC⟩ hW
 refine l_buildSliceF hW (bsl27_1_0 _) rfl rfl rfl rfl ?_
 intro gi W hW
 refine l_callX hW (g_parts (some ⟨gi, 0, none⟩) 1 1 [1] (by decide)) en35 (rd_blk 0 hW rfl rfl (by decide)) rfl rfl rfl rfl ?_
 rintro _ BC2 W ⟨aC, cC, rfl, oC⟩ hW
 refine l_callX hW (g_Trace (thB 1) sC aC 1 cC (nodeL [1]) 0 (by decide) (by decide)) en18 ⟨(nC.rep.at (show Cl _ (((((((((((((([_, _, _, _, _, _, _, _, _, _, _, _, _] ++ B1) ++ B2) ++ B3) ++ B4) ++ B5) ++ BA0) ++ BA1) ++ BA2) ++ BA3) ++ BB1_) ++ BB2_) ++ BB3_) ++ BC1) ++ BC2) _ from hW) (((List.sublist_append_right _ BC1).trans (List.sublist_append_left _ BC2)))), (oC.repB.at (show Cl _ (((((((((((((([_, _, _, _, _, _, _, _, _, _, _, _, _] ++ B1) ++ B2) ++ B3) ++ B4) ++ B5) ++ BA0) ++ BA1) ++ BA2) ++ BA3) ++ BB1_) ++ BB2_) ++ BB3_) ++ BC1) ++ BC2) _ from hW) ((List.sublist_append_right _ BC2)))⟩ rfl rfl rfl rfl ?_
 rintro _ _ W ⟨_, _, rfl, n1, la1, lc1, s1, BN1, BL1, BB1, rfl, rfl, rfl, h1, h2, h3⟩ hW
 have t1 := et_1
 have t2 := et_2
 have t3 := et_3
 have t4 := et_4
 obtain ⟨R, hR⟩ : ∃ R, R = traceT (thB 1) (nodeL [1]) 0 := ⟨_, rfl⟩
 rw [← hR] at h1 h2 h3 t1 t2 t3 t4 ⊢
 rw [et_e]
 rw [t2] at h2 ⊢
 rw [t3]
 refine l_val (r_move (v := .tuple _) rfl rfl) rfl rfl ?_
 refine l_val (r_extract (v := .agg _) rfl rfl rfl) rfl rfl ?_
 refine l_val (r_extract (v := .agg _) rfl rfl rfl) rfl rfl ?_
 refine l_val (r_extract (v := .int _ _) rfl rfl rfl) rfl rfl ?_
 refine l_alloc hW tyZ38 rfl rfl rfl ?_
 intro g7 W hW
 refine l_alloc hW tyZ31 rfl rfl rfl ?_
 intro g8 W hW
 refine sA hW 1 tyA38 ?_
 intro W hW
 refine sA hW 0 tyA31 ?_
 intro W hW
 refine bI ?_
 refine l_end (n_then (c_seq (c_seq ?_)))
 refine c_cut (fun j => [.bool false, j 1, .int .i64 0, j 3, .int .i64 0, j 5, .int .i64 0, j 7, .int .i64 0, j 9, .int .i64 0, .int .i64 8, .int .i64 85, j 13, .bool false, j 15, .bool true, .pointer (some ⟨g7, 0, none⟩), .pointer (some ⟨g8, 0, none⟩), j 19, j 20, j 21, j 22, j 23, j 24, j 25, j 26, j 27, j 28, j 29, j 30, j 31, j 32, j 33, j 34, j 35, j 36, j 37, j 38, j 39, j 40, j 41, j 42, j 43, j 44, j 45, j 46, j 47, j 48, j 49, j 50, j 51, j 52, j 53, j 54, j 55, j 56, j 57, j 58, j 59, j 60, j 61, j 62, j 63, j 64, j 65, j 66, j 67, j 68, j 69, j 70, j 71, j 72, j 73, j 74, j 75, j 76, j 77, j 78, j 79, j 80, j 81, j 82, j 83, j 84, j 85, j 86, j 87, j 88, j 89, j 90, j 91, j 92, .bool false, j 94, j 95, j 96, j 97, j 98, j 99, j 100, j 101, j 102, j 103, j 104, j 105, j 106, j 107, j 108, j 109, j 110, j 111, j 112, j 113, j 114, j 115, j 116, j 117, j 118, j 119, j 120, j 121, j 122, j 123, j 124, j 125, j 126, j 127, j 128, j 129, j 130, j 131, j 132, j 133, j 134, j 135, j 136, j 137, j 138, j 139, j 140, j 141, j 142, j 143, j 144, j 145, j 146, j 147, j 148, j 149, j 150, j 151, j 152, j 153, j 154, j 155, j 156, j 157, j 158, j 159, j 160, j 161, j 162, j 163, j 164, j 165, j 166, j 167, j 168, j 169, j 170, j 171, j 172, j 173, j 174, j 175, j 176, j 177, j 178, j 179, j 180, j 181, j 182, j 183]) (by kernel_rfl) ?_
 intro j
 refine c_reg ?_
 refine aI ?_
 refine l_val (r_neq (b := false) rfl rfl rfl (by decide)) rfl rfl ?_
 refine aB ?_
 refine gI ?_
 refine l_valG (r_neq (b := false) rfl rfl rfl (by decide)) (by kernel_rfl) rfl ?_
 refine kB ?_
 refine aB ?_
 refine gI ?_
 refine l_valG (r_neq (b := false) rfl rfl rfl (by decide)) (by kernel_rfl) rfl ?_
 refine kB ?_
 refine aB ?_
 refine gI ?_
 refine l_valG (r_neq (b := false) rfl rfl rfl (by decide)) (by kernel_rfl) rfl ?_
 refine kB ?_
 refine aB ?_
 refine gI ?_
 refine l_valG (r_neq (b := false) rfl rfl rfl (by decide)) (by kernel_rfl) rfl ?_
 refine kB ?_
 refine aB ?_
 refine l_valG (r_move (v := .bool _) rfl rfl) (by kernel_rfl) rfl ?_
 refine kB ?_
 refine aB ?_
 refine gI ?_
 refine l_valG (r_neq (b := false) rfl rfl rfl (by decide)) (by kernel_rfl) rfl ?_
 refine kB ?_
 refine aB ?_
 refine l_valG (r_move (v := .bool _) rfl rfl) (by kernel_rfl) rfl ?_
 refine l_valG (r_not rfl rfl) (by kernel_rfl) rfl ?_
 refine kB ?_
 refine aB ?_
 refine gI ?_
 refine l_valG (r_neq (b := false) rfl rfl rfl (by decide)) (by kernel_rfl) rfl ?_
 refine kB ?_
 refine aB ?_
 refine l_valG (r_fieldAddr 26 Tryz.underlying31 rfl tyC3.size rfl rfl rfl) (by kernel_rfl) rfl ?_
 refine dG hW 0 tyC3 ?_
 refine l_valG (r_fieldAddr 2 Tryz.underlying38 rfl tyC3.size rfl rfl rfl) (by kernel_rfl) rfl ?_
 refine dG hW 1 tyC3 ?_
 refine l_valG (r_neq (b := false) rfl rfl rfl (decide_eq_false (by rw [t4]; simp))) (by kernel_rfl) rfl ?_
 refine kB ?_
 refine l_end (n_then ?_)
 refine c_false rfl ?_
 refine c_skip (n_then (c_seq ?_))
 refine c_cut (fun j => [.bool false, j 1, j 2, j 3, j 4, j 5, j 6, j 7, j 8, j 9, j 10, j 11, j 12, j 13, j 14, j 15, j 16, .pointer (some ⟨g7, 0, none⟩), j 18, j 19, j 20, j 21, j 22, j 23, j 24, j 25, j 26, j 27, j 28, j 29, j 30, j 31, j 32, j 33, j 34, j 35, j 36, j 37, j 38, j 39, j 40, j 41, j 42, j 43, j 44, j 45, j 46, j 47, j 48, j 49, j 50, j 51, j 52, j 53, j 54, j 55, j 56, j 57, j 58, j 59, j 60, j 61, j 62, j 63, j 64, j 65, j 66, j 67, j 68, j 69, j 70, j 71, j 72, j 73, j 74, j 75, j 76, j 77, j 78, j 79, j 80, j 81, j 82, j 83, j 84, j 85, j 86, j 87, j 88, j 89, j 90, j 91, j 92, .bool false, j 94, j 95, j 96, j 97, j 98, j 99, j 100, j 101, j 102, j 103, j 104, j 105, j 106, j 107, j 108, j 109, j 110, j 111, j 112, j 113, j 114, j 115, j 116, j 117, j 118, j 119, j 120, j 121, j 122, j 123, j 124, j 125, j 126, j 127, j 128, j 129, j 130, j 131, j 132, j 133, j 134, j 135, j 136, j 137, j 138, j 139, j 140, j 141, j 142, j 143, j 144, j 145, j 146, j 147, j 148, j 149, j 150, j 151, j 152, j 153, j 154, j 155, j 156, j 157, j 158, j 159, j 160, j 161, j 162, j 163, j 164, j 165, j 166, .bool false, j 168, j 169, j 170, j 171, j 172, j 173, j 174, j 175, j 176, j 177, j 178, j 179, j 180, j 181, j 182, j 183]) (by kernel_rfl) ?_
 intro j
 refine c_regX hW 17 (by kernel_rfl) rfl ?_
 intro W hW
 refine awt 0 (by kernel_rfl) (by kernel_rfl) (by kernel_rfl) rfl rfl (r_fieldAddr 0 Tryz.underlying38 rfl tyC27.size rfl rfl rfl) (by kernel_rfl) (fun _ _ _ h => h) ?_
 refine awn [1, 2] (by kernel_rfl) (by simp) ⟨⟨_, rfl, ?_⟩, ⟨_, rfl, ?_⟩, trivial⟩
 ·skip
  refine dC hW 1 tyC27 ?_
  refine l_end (n_A ?_)
  refine aw1 2 (by kernel_rfl) rfl ?_
  refine l_buildSliceF hW (bsl27_2_0_1 _ _) rfl rfl rfl rfl ?_
  intro gi W hW
  refine l_end (n_A ?_)
  refine aw1 3 (by kernel_rfl) rfl ?_
  refine l_callR hW (GivesR.cast (g_is n1.a n1.n n1.c R.1.nm (some ⟨gi, 0, none⟩) 2 2 [0, 5] (by rw [t1]; decide)) (congrArg Value.bool (decide_eq_true (t1)))) en32 ⟨(h1.rep.at (show Cl _ ((((((((((((((([_, _, _, _, _, _, _, _, _, _, _, _, _, _, _, _] ++ B1) ++ B2) ++ B3) ++ B4) ++ B5) ++ BA0) ++ BA1) ++ BA2) ++ BA3) ++ BB1_) ++ BB2_) ++ BB3_) ++ BC1) ++ BC2) ++ ((BN1 ++ BL1) ++ BB1)) _ from hW) (((List.sublist_append_left BN1 BL1).trans (List.sublist_append_left _ BB1)).trans (List.sublist_append_right _ ((BN1 ++ BL1) ++ BB1)))), rd_blk 0 hW rfl rfl (by decide)⟩ rfl rfl rfl rfl ?_
  intro W hW
  refine l_end (n_A ?_)
  refine aw1 4 (by kernel_rfl) rfl ?_
  refine aB ?_
  refine l_end (n_A ?_)
  refine awt 5 (by kernel_rfl) (by kernel_rfl) (by kernel_rfl) rfl rfl (r_fieldAddr 1 Tryz.underlying38 rfl tyC33.size rfl rfl rfl) (by kernel_rfl) (fun _ _ _ h => h) ?_
  refine awn [6, 7] (by kernel_rfl) (by simp) ⟨⟨_, rfl, ?_⟩, ⟨_, rfl, ?_⟩, trivial⟩
  ·skip
   refine dG hW 2 tyC33 ?_
   refine l_end (n_A ?_)
   refine aw1 7 (by kernel_rfl) rfl ?_
   refine l_buildSliceFG hW (bsl27_4_0_1_2_3 _ _ _ _) (by kernel_rfl) rfl rfl rfl ?_
   intro gj W hW
   refine l_end (n_A ?_)
   refine aw1 8 (by kernel_rfl) rfl ?_
   refine l_callXG hW (g_parts (some ⟨gj, 0, none⟩) 4 4 [9, 5, 12, 7] (by decide)) en35 (rd_blk 0 hW rfl rfl (by decide)) (by kernel_rfl) rfl rfl rfl ?_
   rintro _ BD W ⟨aD, cD, rfl, oD⟩ hW
   refine l_end (n_A ?_)
   refine aw1 9 (by kernel_rfl) rfl ?_
   refine l_callRG hW (GivesR.cast (g_rSameSubsets la1 (nodeL [9, 5, 12, 7]).length lc1 (nodeL [9, 5, 12, 7]) aD 4 cD (nodeL [9, 5, 12, 7]) (by decide)) (congrArg Value.bool (decide_eq_true rfl))) en27 ⟨h2.repB.at (show Cl _ (((((((((((((((([_, _, _, _, _, _, _, _, _, _, _, _, _, _, _, _, _] ++ B1) ++ B2) ++ B3) ++ B4) ++ B5) ++ BA0) ++ BA1) ++ BA2) ++ BA3) ++ BB1_) ++ BB2_) ++ BB3_) ++ BC1) ++ BC2) ++ ((BN1 ++ BL1) ++ BB1)) ++ BD) _ from hW) (((List.sublist_append_right BN1 BL1).trans (List.sublist_append_left _ BB1)).trans ((List.sublist_append_right _ ((BN1 ++ BL1) ++ BB1)).trans (List.sublist_append_left _ BD))), oD.repB.at (show Cl _ (((((((((((((((([_, _, _, _, _, _, _, _, _, _, _, _, _, _, _, _, _] ++ B1) ++ B2) ++ B3) ++ B4) ++ B5) ++ BA0) ++ BA1) ++ BA2) ++ BA3) ++ BB1_) ++ BB2_) ++ BB3_) ++ BC1) ++ BC2) ++ ((BN1 ++ BL1) ++ BB1)) ++ BD) _ from hW) ((List.sublist_append_right _ BD))⟩ (by kernel_rfl) rfl rfl rfl ?_
   intro W hW
   refine l_end (n_A ?_)
   refine aw1 10 (by kernel_rfl) rfl ?_
   refine kB ?_
   refine l_end (n_A ?_)
   refine aw1 11 (by kernel_rfl) rfl ?_
   refine aB ?_
   refine l_end (n_A ?_)
   refine aw1 12 (by kernel_rfl) rfl ?_
   refine l_valG (r_fieldAddr 3 Tryz.underlying38 rfl tyC5.size rfl rfl rfl) (by kernel_rfl) rfl ?_
   refine l_end (n_A ?_)
   refine aw1 13 (by kernel_rfl) rfl ?_
   refine dG hW 3 tyC5 ?_
   refine l_end (n_A ?_)
   refine aw1 14 (by kernel_rfl) rfl ?_
   refine l_valG (r_eql (b := true) rfl rfl rfl (by decide)) (by kernel_rfl) rfl ?_
   refine l_end (n_A ?_)
   refine aw1 15 (by kernel_rfl) rfl ?_
   refine kB ?_
   refine l_end (n_A ?_)
   refine aw1 16 (by kernel_rfl) rfl ?_
   refine bB ?_
   refine l_end (n_A ?_)
   refine aw0 (by kernel_rfl) ?_
   refine n_then (c_ret ?_)
   refine ret_tmp (v := .bool true) rfl ?_ ⟨rfl, hW.below⟩
   rfl
  ·skip
   refine l_buildSliceFG hW (bsl27_4_0_1_2_3 _ _ _ _) (by kernel_rfl) rfl rfl rfl ?_
   intro gj W hW
   refine l_end (n_A ?_)
   refine awn [6, 8] (by kernel_rfl) (by simp) ⟨⟨_, rfl, ?_⟩, ⟨_, rfl, ?_⟩, trivial⟩
   ·skip
    refine dG hW 3 tyC33 ?_
    refine l_end (n_A ?_)
    refine aw1 8 (by kernel_rfl) rfl ?_
    refine l_callXG hW (g_parts (some ⟨gj, 0, none⟩) 4 4 [9, 5, 12, 7] (by decide)) en35 (rd_blk 0 hW rfl rfl (by decide)) (by kernel_rfl) rfl rfl rfl ?_
    rintro _ BD W ⟨aD, cD, rfl, oD⟩ hW
    refine l_end (n_A ?_)
    refine aw1 9 (by kernel_rfl) rfl ?_
    refine l_callRG hW (GivesR.cast (g_rSameSubsets la1 (nodeL [9, 5, 12, 7]).length lc1 (nodeL [9, 5, 12, 7]) aD 4 cD (nodeL [9, 5, 12, 7]) (by decide)) (congrArg Value.bool (decide_eq_true rfl))) en27 ⟨h2.repB.at (show Cl _ (((((((((((((((([_, _, _, _, _, _, _, _, _, _, _, _, _, _, _, _, _] ++ B1) ++ B2) ++ B3) ++ B4) ++ B5) ++ BA0) ++ BA1) ++ BA2) ++ BA3) ++ BB1_) ++ BB2_) ++ BB3_) ++ BC1) ++ BC2) ++ ((BN1 ++ BL1) ++ BB1)) ++ BD) _ from hW) (((List.sublist_append_right BN1 BL1).trans (List.sublist_append_left _ BB1)).trans ((List.sublist_append_right _ ((BN1 ++ BL1) ++ BB1)).trans (List.sublist_append_left _ BD))), oD.repB.at (show Cl _ (((((((((((((((([_, _, _, _, _, _, _, _, _, _, _, _, _, _, _, _, _] ++ B1) ++ B2) ++ B3) ++ B4) ++ B5) ++ BA0) ++ BA1) ++ BA2) ++ BA3) ++ BB1_) ++ BB2_) ++ BB3_) ++ BC1) ++ BC2) ++ ((BN1 ++ BL1) ++ BB1)) ++ BD) _ from hW) ((List.sublist_append_right _ BD))⟩ (by kernel_rfl) rfl rfl rfl ?_
    intro W hW
    refine l_end (n_A ?_)
    refine aw1 10 (by kernel_rfl) rfl ?_
    refine kB ?_
    refine l_end (n_A ?_)
    refine aw1 11 (by kernel_rfl) rfl ?_
    refine aB ?_
    refine l_end (n_A ?_)
    refine aw1 12 (by kernel_rfl) rfl ?_
    refine l_valG (r_fieldAddr 3 Tryz.underlying38 rfl tyC5.size rfl rfl rfl) (by kernel_rfl) rfl ?_
    refine l_end (n_A ?_)
    refine aw1 13 (by kernel_rfl) rfl ?_
    refine dG hW 3 tyC5 ?_
    refine l_end (n_A ?_)
    refine aw1 14 (by kernel_rfl) rfl ?_
    refine l_valG (r_eql (b := true) rfl rfl rfl (by decide)) (by kernel_rfl) rfl ?_
    refine l_end (n_A ?_)
    refine aw1 15 (by kernel_rfl) rfl ?_
    refine kB ?_
    refine l_end (n_A ?_)
    refine aw1 16 (by kernel_rfl) rfl ?_
    refine bB ?_
    refine l_end (n_A ?_)
    refine aw0 (by kernel_rfl) ?_
    refine n_then (c_ret ?_)
    refine ret_tmp (v := .bool true) rfl ?_ ⟨rfl, hW.below⟩
    rfl
   ·skip
    refine l_callXG hW (g_parts (some ⟨gj, 0, none⟩) 4 4 [9, 5, 12, 7] (by decide)) en35 (rd_blk 0 hW rfl rfl (by decide)) (by kernel_rfl) rfl rfl rfl ?_
    rintro _ BD W ⟨aD, cD, rfl, oD⟩ hW
    refine l_end (n_A ?_)
    refine aw1 6 (by kernel_rfl) rfl ?_
    refine dG hW 3 tyC33 ?_
    refine l_end (n_A ?_)
    refine aw1 9 (by kernel_rfl) rfl ?_
    refine l_callRG hW (GivesR.cast (g_rSameSubsets la1 (nodeL [9, 5, 12, 7]).length lc1 (nodeL [9, 5, 12, 7]) aD 4 cD (nodeL [9, 5, 12, 7]) (by decide)) (congrArg Value.bool (decide_eq_true rfl))) en27 ⟨h2.repB.at (show Cl _ (((((((((((((((([_, _, _, _, _, _, _, _, _, _, _, _, _, _, _, _, _] ++ B1) ++ B2) ++ B3) ++ B4) ++ B5) ++ BA0) ++ BA1) ++ BA2) ++ BA3) ++ BB1_) ++ BB2_) ++ BB3_) ++ BC1) ++ BC2) ++ ((BN1 ++ BL1) ++ BB1)) ++ BD) _ from hW) (((List.sublist_append_right BN1 BL1).trans (List.sublist_append_left _ BB1)).trans ((List.sublist_append_right _ ((BN1 ++ BL1) ++ BB1)).trans (List.sublist_append_left _ BD))), oD.repB.at (show Cl _ (((((((((((((((([_, _, _, _, _, _, _, _, _, _, _, _, _, _, _, _, _] ++ B1) ++ B2) ++ B3) ++ B4) ++ B5) ++ BA0) ++ BA1) ++ BA2) ++ BA3) ++ BB1_) ++ BB2_) ++ BB3_) ++ BC1) ++ BC2) ++ ((BN1 ++ BL1) ++ BB1)) ++ BD) _ from hW) ((List.sublist_append_right _ BD))⟩ (by kernel_rfl) rfl rfl rfl ?_
    intro W hW
    refine l_end (n_A ?_)
    refine aw1 10 (by kernel_rfl) rfl ?_
    refine kB ?_
    refine l_end (n_A ?_)
    refine aw1 11 (by kernel_rfl) rfl ?_
    refine aB ?_
    refine l_end (n_A ?_)
    refine aw1 12 (by kernel_rfl) rfl ?_
    refine l_valG (r_fieldAddr 3 Tryz.underlying38 rfl tyC5.size rfl rfl rfl) (by kernel_rfl) rfl ?_
    refine l_end (n_A ?_)
    refine aw1 13 (by kernel_rfl) rfl ?_
    refine dG hW 3 tyC5 ?_
    refine l_end (n_A ?_)
    refine aw1 14 (by kernel_rfl) rfl ?_
    refine l_valG (r_eql (b := true) rfl rfl rfl (by decide)) (by kernel_rfl) rfl ?_
    refine l_end (n_A ?_)
    refine aw1 15 (by kernel_rfl) rfl ?_
    refine kB ?_
    refine l_end (n_A ?_)
    refine aw1 16 (by kernel_rfl) rfl ?_
    refine bB ?_
    refine l_end (n_A ?_)
    refine aw0 (by kernel_rfl) ?_
    refine n_then (c_ret ?_)
    refine ret_tmp (v := .bool true) rfl ?_ ⟨rfl, hW.below⟩
    rfl
 ·skip
  refine l_buildSliceF hW (bsl27_2_0_1 _ _) rfl rfl rfl rfl ?_
  intro gi W hW
  refine l_end (n_A ?_)
  refine aw1 1 (by kernel_rfl) rfl ?_
  refine dC hW 2 tyC27 ?_
  refine l_end (n_A ?_)
  refine aw1 3 (by kernel_rfl) rfl ?_
  refine l_callR hW (GivesR.cast (g_is n1.a n1.n n1.c R.1.nm (some ⟨gi, 0, none⟩) 2 2 [0, 5] (by rw [t1]; decide)) (congrArg Value.bool (decide_eq_true (t1)))) en32 ⟨(h1.rep.at (show Cl _ ((((((((((((((([_, _, _, _, _, _, _, _, _, _, _, _, _, _, _, _] ++ B1) ++ B2) ++ B3) ++ B4) ++ B5) ++ BA0) ++ BA1) ++ BA2) ++ BA3) ++ BB1_) ++ BB2_) ++ BB3_) ++ BC1) ++ BC2) ++ ((BN1 ++ BL1) ++ BB1)) _ from hW) (((List.sublist_append_left BN1 BL1).trans (List.sublist_append_left _ BB1)).trans (List.sublist_append_right _ ((BN1 ++ BL1) ++ BB1)))), rd_blk 0 hW rfl rfl (by decide)⟩ rfl rfl rfl rfl ?_
  intro W hW
  refine l_end (n_A ?_)
  refine aw1 4 (by kernel_rfl) rfl ?_
  refine aB ?_
  refine l_end (n_A ?_)
  refine awt 5 (by kernel_rfl) (by kernel_rfl) (by kernel_rfl) rfl rfl (r_fieldAddr 1 Tryz.underlying38 rfl tyC33.size rfl rfl rfl) (by kernel_rfl) (fun _ _ _ h => h) ?_
  refine awn [6, 7] (by kernel_rfl) (by simp) ⟨⟨_, rfl, ?_⟩, ⟨_, rfl, ?_⟩, trivial⟩
  ·skip
   refine dG hW 2 tyC33 ?_
   refine l_end (n_A ?_)
   refine aw1 7 (by kernel_rfl) rfl ?_
   refine l_buildSliceFG hW (bsl27_4_0_1_2_3 _ _ _ _) (by kernel_rfl) rfl rfl rfl ?_
   intro gj W hW
   refine l_end (n_A ?_)
   refine aw1 8 (by kernel_rfl) rfl ?_
   refine l_callXG hW (g_parts (some ⟨gj, 0, none⟩) 4 4 [9, 5, 12, 7] (by decide)) en35 (rd_blk 0 hW rfl rfl (by decide)) (by kernel_rfl) rfl rfl rfl ?_
   rintro _ BD W ⟨aD, cD, rfl, oD⟩ hW
   refine l_end (n_A ?_)
   refine aw1 9 (by kernel_rfl) rfl ?_
   refine l_callRG hW (GivesR.cast (g_rSameSubsets la1 (nodeL [9, 5, 12, 7]).length lc1 (nodeL [9, 5, 12, 7]) aD 4 cD (nodeL [9, 5, 12, 7]) (by decide)) (congrArg Value.bool (decide_eq_true rfl))) en27 ⟨h2.repB.at (show Cl _ (((((((((((((((([_, _, _, _, _, _, _, _, _, _, _, _, _, _, _, _, _] ++ B1) ++ B2) ++ B3) ++ B4) ++ B5) ++ BA0) ++ BA1) ++ BA2) ++ BA3) ++ BB1_) ++ BB2_) ++ BB3_) ++ BC1) ++ BC2) ++ ((BN1 ++ BL1) ++ BB1)) ++ BD) _ from hW) (((List.sublist_append_right BN1 BL1).trans (List.sublist_append_left _ BB1)).trans ((List.sublist_append_right _ ((BN1 ++ BL1) ++ BB1)).trans (List.sublist_append_left _ BD))), oD.repB.at (show Cl _ (((((((((((((((([_, _, _, _, _, _, _, _, _, _, _, _, _, _, _, _, _] ++ B1) ++ B2) ++ B3) ++ B4) ++ B5) ++ BA0) ++ BA1) ++ BA2) ++ BA3) ++ BB1_) ++ BB2_) ++ BB3_) ++ BC1) ++ BC2) ++ ((BN1 ++ BL1) ++ BB1)) ++ BD) _ from hW) ((List.sublist_append_right _ BD))⟩ (by kernel_rfl) rfl rfl rfl ?_
   intro W hW
   refine l_end (n_A ?_)
   refine aw1 10 (by kernel_rfl) rfl ?_
   refine kB ?_
   refine l_end (n_A ?_)
   refine aw1 11 (by kernel_rfl) rfl ?_
   refine aB ?_
   refine l_end (n_A ?_)
   refine aw1 12 (by kernel_rfl) rfl ?_
   refine l_valG (r_fieldAddr 3 Tryz.underlying38 rfl tyC5.size rfl rfl rfl) (by kernel_rfl) rfl ?_
   refine l_end (n_A ?_)
   refine aw1 13 (by kernel_rfl) rfl ?_
   refine dG hW 3 tyC5 ?_
   refine l_end (n_A ?_)
   refine aw1 14 (by kernel_rfl) rfl ?_
   refine l_valG (r_eql (b := true) rfl rfl rfl (by decide)) (by kernel_rfl) rfl ?_
   refine l_end (n_A ?_)
   refine aw1 15 (by kernel_rfl) rfl ?_
   refine kB ?_
   refine l_end (n_A ?_)
   refine aw1 16 (by kernel_rfl) rfl ?_
   refine bB ?_
   refine l_end (n_A ?_)
   refine aw0 (by kernel_rfl) ?_
   refine n_then (c_ret ?_)
   refine ret_tmp (v := .bool true) rfl ?_ ⟨rfl, hW.below⟩
   rfl
  ·skip
   refine l_buildSliceFG hW (bsl27_4_0_1_2_3 _ _ _ _) (by kernel_rfl) rfl rfl rfl ?_
   intro gj W hW
   refine l_end (n_A ?_)
   refine awn [6, 8] (by kernel_rfl) (by simp) ⟨⟨_, rfl, ?_⟩, ⟨_, rfl, ?_⟩, trivial⟩
   ·skip
    refine dG hW 3 tyC33 ?_
    refine l_end (n_A ?_)
    refine aw1 8 (by kernel_rfl) rfl ?_
    refine l_callXG hW (g_parts (some ⟨gj, 0, none⟩) 4 4 [9, 5, 12, 7] (by decide)) en35 (rd_blk 0 hW rfl rfl (by decide)) (by kernel_rfl) rfl rfl rfl ?_
    rintro _ BD W ⟨aD, cD, rfl, oD⟩ hW
    refine l_end (n_A ?_)
    refine aw1 9 (by kernel_rfl) rfl ?_
    refine l_callRG hW (GivesR.cast (g_rSameSubsets la1 (nodeL [9, 5, 12, 7]).length lc1 (nodeL [9, 5, 12, 7]) aD 4 cD (nodeL [9, 5, 12, 7]) (by decide)) (congrArg Value.bool (decide_eq_true rfl))) en27 ⟨h2.repB.at (show Cl _ (((((((((((((((([_, _, _, _, _, _, _, _, _, _, _, _, _, _, _, _, _] ++ B1) ++ B2) ++ B3) ++ B4) ++ B5) ++ BA0) ++ BA1) ++ BA2) ++ BA3) ++ BB1_) ++ BB2_) ++ BB3_) ++ BC1) ++ BC2) ++ ((BN1 ++ BL1) ++ BB1)) ++ BD) _ from hW) (((List.sublist_append_right BN1 BL1).trans (List.sublist_append_left _ BB1)).trans ((List.sublist_append_right _ ((BN1 ++ BL1) ++ BB1)).trans (List.sublist_append_left _ BD))), oD.repB.at (show Cl _ (((((((((((((((([_, _, _, _, _, _, _, _, _, _, _, _, _, _, _, _, _] ++ B1) ++ B2) ++ B3) ++ B4) ++ B5) ++ BA0) ++ BA1) ++ BA2) ++ BA3) ++ BB1_) ++ BB2_) ++ BB3_) ++ BC1) ++ BC2) ++ ((BN1 ++ BL1) ++ BB1)) ++ BD) _ from hW) ((List.sublist_append_right _ BD))⟩ (by kernel_rfl) rfl rfl rfl ?_
    intro W hW
    refine l_end (n_A ?_)
    refine aw1 10 (by kernel_rfl) rfl ?_
    refine kB ?_
    refine l_end (n_A ?_)
    refine aw1 11 (by kernel_rfl) rfl ?_
    refine aB ?_
    refine l_end (n_A ?_)
    refine aw1 12 (by kernel_rfl) rfl ?_
    refine l_valG (r_fieldAddr 3 Tryz.underlying38 rfl tyC5.size rfl rfl rfl) (by kernel_rfl) rfl ?_
    refine l_end (n_A ?_)
    refine aw1 13 (by kernel_rfl) rfl ?_
    refine dG hW 3 tyC5 ?_
    refine l_end (n_A ?_)
    refine aw1 14 (by kernel_rfl) rfl ?_
    refine l_valG (r_eql (b := true) rfl rfl rfl (by decide)) (by kernel_rfl) rfl ?_
    refine l_end (n_A ?_)
    refine aw1 15 (by kernel_rfl) rfl ?_
    refine kB ?_
    refine l_end (n_A ?_)
    refine aw1 16 (by kernel_rfl) rfl ?_
    refine bB ?_
    refine l_end (n_A ?_)
    refine aw0 (by kernel_rfl) ?_
    refine n_then (c_ret ?_)
    refine ret_tmp (v := .bool true) rfl ?_ ⟨rfl, hW.below⟩
    rfl
   ·skip
    refine l_callXG hW (g_parts (some ⟨gj, 0, none⟩) 4 4 [9, 5, 12, 7] (by decide)) en35 (rd_blk 0 hW rfl rfl (by decide)) (by kernel_rfl) rfl rfl rfl ?_
    rintro _ BD W ⟨aD, cD, rfl, oD⟩ hW
    refine l_end (n_A ?_)
    refine aw1 6 (by kernel_rfl) rfl ?_
    refine dG hW 3 tyC33 ?_
    refine l_end (n_A ?_)
    refine aw1 9 (by kernel_rfl) rfl ?_
    refine l_callRG hW (GivesR.cast (g_rSameSubsets la1 (nodeL [9, 5, 12, 7]).length lc1 (nodeL [9, 5, 12, 7]) aD 4 cD (nodeL [9, 5, 12, 7]) (by decide)) (congrArg Value.bool (decide_eq_true rfl))) en27 ⟨h2.repB.at (show Cl _ (((((((((((((((([_, _, _, _, _, _, _, _, _, _, _, _, _, _, _, _, _] ++ B1) ++ B2) ++ B3) ++ B4) ++ B5) ++ BA0) ++ BA1) ++ BA2) ++ BA3) ++ BB1_) ++ BB2_) ++ BB3_) ++ BC1) ++ BC2) ++ ((BN1 ++ BL1) ++ BB1)) ++ BD) _ from hW) (((List.sublist_append_right BN1 BL1).trans (List.sublist_append_left _ BB1)).trans ((List.sublist_append_right _ ((BN1 ++ BL1) ++ BB1)).trans (List.sublist_append_left _ BD))), oD.repB.at (show Cl _ (((((((((((((((([_, _, _, _, _, _, _, _, _, _, _, _, _, _, _, _, _] ++ B1) ++ B2) ++ B3) ++ B4) ++ B5) ++ BA0) ++ BA1) ++ BA2) ++ BA3) ++ BB1_) ++ BB2_) ++ BB3_) ++ BC1) ++ BC2) ++ ((BN1 ++ BL1) ++ BB1)) ++ BD) _ from hW) ((List.sublist_append_right _ BD))⟩ (by kernel_rfl) rfl rfl rfl ?_
    intro W hW
    refine l_end (n_A ?_)
    refine aw1 10 (by kernel_rfl) rfl ?_
    refine kB ?_
    refine l_end (n_A ?_)
    refine aw1 11 (by kernel_rfl) rfl ?_
    refine aB ?_
    refine l_end (n_A ?_)
    refine aw1 12 (by kernel_rfl) rfl ?_
    refine l_valG (r_fieldAddr 3 Tryz.underlying38 rfl tyC5.size rfl rfl rfl) (by kernel_rfl) rfl ?_
    refine l_end (n_A ?_)
    refine aw1 13 (by kernel_rfl) rfl ?_
    refine dG hW 3 tyC5 ?_
    refine l_end (n_A ?_)
    refine aw1 14 (by kernel_rfl) rfl ?_
    refine l_valG (r_eql (b := true) rfl rfl rfl (by decide)) (by kernel_rfl) rfl ?_
    refine l_end (n_A ?_)
    refine aw1 15 (by kernel_rfl) rfl ?_
    refine kB ?_
    refine l_end (n_A ?_)
    refine aw1 16 (by kernel_rfl) rfl ?_
    refine bB ?_
    refine l_end (n_A ?_)
    refine aw0 (by kernel_rfl) ?_
    refine n_then (c_ret ?_)
    refine ret_tmp (v := .bool true) rfl ?_ ⟨rfl, hW.below⟩
    rfl

end Go.Proofs.YtoegpalacppllaaGreat

