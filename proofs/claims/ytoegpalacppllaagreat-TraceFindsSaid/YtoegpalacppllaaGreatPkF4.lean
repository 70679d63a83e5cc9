/- Part 4 of 6: what the law of this claim leans on -/
import Derived.Test.YtoegpalacppllaaGreatPkF3
import Derived.Shelf.Small.Bits
import Derived.Shelf.Strconv.Itoa0
import Derived.Shelf.Sort.Plain
import Derived.Ground.Names2Prog
import Derived.Shelf.Slices.CompactI
import Derived.Shelf.Slices.SearchI
import Derived.Shelf.Slices.Cells
import Derived.Shelf.Slices.In.SortNone
import Derived.Shelf.Slices.Empties
import Derived.Test.YtoegpalacppllaaGreatProg
/- A box after a query, by the reference. -/
namespace Go.Proofs.YtoegpalacppllaaGreat
open Go.RowKit Pl
open Tr Hn
set_option maxRecDepth 10000 in
set_option maxHeartbeats 4000000 in
/-- headend/headendref08.Asked -/
theorem g_rAsked (b : Bo) (t : Sl) (oa : Option Addr) (on oc : Nat) (o : List Bool) (f : Int) (n0 : 0 ≤ b.n) (n8 : b.n ≤ 8) (a0 : 0 ≤ b.a) (a1 : b.a ≤ 100000) (x1 : b.x ≤ b.a) (x0 : 0 ≤ b.x) (hl : b.l.length ≤ 100) (ho : o.length ≤ 100) : GivesX Tryz.prog 157 [.agg (boC b t).toArray, .slice oa on oc, .int .i64 f].toArray (fun w => RdI w t b.l ∧ RdT w ⟨oa, on, oc⟩ o) (fun v Bs => ∃ s2 : Sl, v = .tuple #[.agg (boC (askd b o f) s2).toArray, .bool (plays b o f)] ∧ NewI s2 (askd b o f).l Bs) := by
 refine givesX_of Tryz.func157 rfl (bs := [.agg (boC b t).toArray, .slice oa on oc, .int .i64 f, undef, undef, undef, undef, undef, undef, undef, undef, undef, undef, undef, undef, undef, undef, undef, undef, undef, undef, undef, undef, undef, undef, undef, undef, undef, undef, undef, undef, undef, undef, undef, undef, undef, undef, undef, undef, undef, undef, undef, undef, undef, undef, undef, undef, undef, undef, undef, undef, undef, undef, undef, undef, undef, undef, undef, undef, undef, undef, undef, undef, undef, undef, undef, undef, undef, undef, undef, undef, undef, undef, undef, undef, undef, undef, undef, undef, undef, undef, undef, undef, undef, undef, undef, undef, undef, undef, undef, undef, undef, undef, undef, undef, undef, undef, undef, undef, undef, undef, undef, undef, undef, undef, undef, undef, undef, undef, undef, undef, undef, undef, undef, undef, undef, undef]) rfl ?_
 intro w hP hW
 have hn : on = o.length := hP.2.len
 have ha : b.a = (b.a.toNat : Int) := by omega
 have hb : b.n + 1 = ((b.n.toNat + 1 : Nat) : Int) := by omega
 refine c_seq (c_reg ?_)
 refine xB hW ?_
 intro g1 W hW
 refine l_alloc hW tyZ31 rfl rfl rfl ?_
 intro g2 W hW
 refine bB ?_
 refine l_end (n_then (c_seq (c_reg ?_)))
 refine bI ?_
 refine bI ?_
 refine l_end (n_then (c_seq (c_reg ?_)))
 refine bB ?_
 refine l_end (n_then (c_seq (c_seq (c_reg ?_))))
 refine bI ?_
 refine l_end (n_then (c_block ?_))
 refine c_loop (fun (x : Nat × Nat × Nat × Bool) (j : Nat → Value) => [.agg (boC b t).toArray, .slice oa on oc, .int .i64 f, .pointer (some ⟨g1, 0, none⟩), j 4, j 5, .pointer (some ⟨g2, 0, none⟩), .bool false, .int .i64 (x.2.1 : Int), .int .i64 (x.2.2.1 : Int), .bool x.2.2.2, .int .i64 (x.1 : Int), j 12, j 13, j 14, j 15, j 16, j 17, j 18, j 19, j 20, j 21, j 22, j 23, j 24, j 25, j 26, j 27, j 28, j 29, j 30, j 31, j 32, j 33, j 34, j 35, j 36, j 37, j 38, j 39, j 40, j 41, j 42, j 43, j 44, j 45, j 46, j 47, j 48, j 49, j 50, j 51, j 52, j 53, j 54, j 55, j 56, j 57, j 58, j 59, j 60, j 61, j 62, j 63, j 64, j 65, j 66, j 67, j 68, j 69, j 70, j 71, j 72, j 73, j 74, j 75, j 76, j 77, j 78, j 79, j 80, j 81, j 82, j 83, j 84, j 85, j 86, j 87, j 88, j 89, j 90, j 91, j 92, j 93, j 94, j 95, j 96, j 97, j 98, j 99, j 100, j 101, j 102, j 103, j 104, j 105, j 106, j 107, j 108, j 109, j 110, j 111, j 112, j 113, j 114, j 115, j 116]) (fun (x : Nat × Nat × Nat × Bool) => [⟨g2, z31, 31⟩, ⟨g1, (boC b t), 31⟩]) (fun (x : Nat × Nat × Nat × Bool) => x.1 ≤ on ∧ stp o f x.1 = x.2) (fun (x : Nat × Nat × Nat × Bool) => on - x.1) (0, 0, 0, false) (by kernel_rfl) hW ⟨Nat.zero_le _, rfl⟩ ?_
 intro x j W hx hW
 obtain ⟨hx, hst⟩ := hx
 have hle := stp_le o f x.1
 rw [hst] at hle
 refine c_seq (c_seq (c_reg ?_))
 refine aI ?_
 refine aS ?_
 refine l_val (r_lenSlice Tryz.underlying155 rfl rfl) rfl rfl ?_
 refine l_val (r_lssN rfl rfl rfl rfl) rfl rfl ?_
 refine l_split ?_ ?_
 ·intro hc1
  replace hc1 := of_decide_eq_true hc1
  obtain ⟨b0, o0, ha, hc⟩ := hP.2.ptr (by omega)
  simp only at ha
  subst ha
  refine l_end (n_then ?_)
  refine c_true rfl ?_
  refine c_skip (n_then (c_seq (c_block (c_seq (c_seq (c_reg ?_))))))
  refine aS ?_
  refine aI ?_
  refine l_val (r_indexAddrSl2 (n := x.1) Tryz.underlying155 tyC4.size rfl rfl rfl (by omega)) rfl rfl ?_
  refine l_loadF hW tyC4 (v := .bool (o.getD x.1 false)) (hc x.1 (by omega)) rfl rfl rfl rfl ?_
  refine l_split ?_ ?_
  ·intro hc2
   refine l_val (r_not rfl rfl) rfl rfl ?_
   refine l_end (n_then ?_)
   refine c_false rfl ?_
   refine c_skip (n_then (c_seq (c_reg ?_)))
   refine aI ?_
   refine aI ?_
   refine l_val (r_lss rfl rfl rfl rfl) rfl rfl ?_
   refine l_split ?_ ?_
   ·intro hc3
    replace hc3 := of_decide_eq_true hc3
    refine l_end (n_then ?_)
    refine c_true rfl ?_
    refine c_reg ?_
    refine aI ?_
    refine l_val (r_addN (n := 1) rfl rfl rfl (by omega)) rfl rfl ?_
    refine bI ?_
    refine l_end (n_block (n_then (c_reg ?_)))
    refine aI ?_
    refine l_val (r_addN (n := 1) rfl rfl rfl (by omega)) rfl rfl ?_
    refine bI ?_
    refine l_end (n_then ?_)
    exact loop_next (x.1 + 1, x.2.1, x.2.2.1 + 1, x.2.2.2) (by kernel_rfl) hW ⟨by simp only; omega, by simp only [stp_wrong hc2 hc3, hst]⟩ (by simp only; omega)
   ·intro hc3
    replace hc3 := of_decide_eq_false hc3
    refine l_end (n_then ?_)
    refine c_false rfl ?_
    refine c_seq (c_reg ?_)
    refine aB ?_
    refine l_split ?_ ?_
    ·intro hc4
     refine aB ?_
     refine lN ?_
     refine lN ?_
     refine lN ?_
     refine lN ?_
     refine kB ?_
     refine bB ?_
     refine l_end (n_then (c_reg ?_))
     refine aI ?_
     refine l_val (r_addN (n := 1) rfl rfl rfl (by omega)) rfl rfl ?_
     refine bI ?_
     refine l_end (n_block (n_then (c_reg ?_)))
     refine aI ?_
     refine l_val (r_addN (n := 1) rfl rfl rfl (by omega)) rfl rfl ?_
     refine bI ?_
     refine l_end (n_then ?_)
     exact loop_next (x.1 + 1, x.2.1 + 1, x.2.2.1, true) (by kernel_rfl) hW ⟨by simp only; omega, by simp only [stp_right hc2 hc3, hst]; exact congrArg (fun z => (x.2.1 + 1, x.2.2.1, z)) (by rw [hc4]; rfl)⟩ (by simp only; omega)
    ·intro hc4
     refine aB ?_
     refine gI ?_
     refine gI ?_
     refine l_valG (r_addN rfl rfl rfl (by omega)) (by kernel_rfl) rfl ?_
     refine l_valG (r_eqlN (n := 0) rfl rfl rfl rfl) (by kernel_rfl) rfl ?_
     refine l_split ?_ ?_
     ·intro hc5
      replace hc5 := of_decide_eq_true hc5
      refine kB ?_
      refine bB ?_
      refine l_end (n_then (c_reg ?_))
      refine aI ?_
      refine l_val (r_addN (n := 1) rfl rfl rfl (by omega)) rfl rfl ?_
      refine bI ?_
      refine l_end (n_block (n_then (c_reg ?_)))
      refine aI ?_
      refine l_val (r_addN (n := 1) rfl rfl rfl (by omega)) rfl rfl ?_
      refine bI ?_
      refine l_end (n_then ?_)
      exact loop_next (x.1 + 1, x.2.1 + 1, x.2.2.1, true) (by kernel_rfl) hW ⟨by simp only; omega, by simp only [stp_right hc2 hc3, hst]; exact congrArg (fun z => (x.2.1 + 1, x.2.2.1, z)) (by rw [hc4, decide_eq_true (by omega)]; rfl)⟩ (by simp only; omega)
     ·intro hc5
      replace hc5 := of_decide_eq_false hc5
      refine kB ?_
      refine bB ?_
      refine l_end (n_then (c_reg ?_))
      refine aI ?_
      refine l_val (r_addN (n := 1) rfl rfl rfl (by omega)) rfl rfl ?_
      refine bI ?_
      refine l_end (n_block (n_then (c_reg ?_)))
      refine aI ?_
      refine l_val (r_addN (n := 1) rfl rfl rfl (by omega)) rfl rfl ?_
      refine bI ?_
      refine l_end (n_then ?_)
      exact loop_next (x.1 + 1, x.2.1 + 1, x.2.2.1, false) (by kernel_rfl) hW ⟨by simp only; omega, by simp only [stp_right hc2 hc3, hst]; exact congrArg (fun z => (x.2.1 + 1, x.2.2.1, z)) (by rw [hc4, decide_eq_false (by omega)]; rfl)⟩ (by simp only; omega)
  ·intro hc2
   refine l_val (r_not rfl rfl) rfl rfl ?_
   refine l_end (n_then ?_)
   refine c_true rfl ?_
   refine c_exit (x_then ?_)
   refine x_hit ?_
   refine n_then (c_reg ?_)
   refine aI ?_
   refine l_val (r_addN (n := 1) rfl rfl rfl (by omega)) rfl rfl ?_
   refine bI ?_
   refine l_end (n_then ?_)
   exact loop_next (x.1 + 1, x.2) (by kernel_rfl) hW ⟨by simp only; omega, (stp_no hc2).trans hst⟩ (by simp only; omega)
 ·intro hc1
  replace hc1 := of_decide_eq_false hc1
  refine l_end (n_then ?_)
  refine c_false rfl ?_
  refine c_exit (x_then (x_then ?_))
  refine x_hit ?_
  refine n_then (c_seq (c_reg ?_))
  refine l_val (r_fieldAddr 26 Tryz.underlying31 rfl tyC3.size rfl rfl rfl) rfl rfl ?_
  refine dC hW 1 tyC3 ?_
  refine bI ?_
  refine l_end (n_then (c_seq (c_reg ?_)))
  refine dA hW 1 tyA31 ?_
  refine l_callX hW (g_TwinBox b t hl) en23 (hP.1.past hW.below) rfl rfl rfl rfl ?_
  rintro _ Bs W ⟨s2, rfl, hN⟩ hW
  refine sA hW 1 tyA31 ?_
  intro W hW
  refine l_end (n_then (c_seq (c_reg ?_)))
  refine l_val (r_fieldAddr 26 Tryz.underlying31 rfl tyC3.size rfl rfl rfl) rfl rfl ?_
  refine dC hW 1 tyC3 ?_
  refine l_val (r_addZ rfl rfl rfl (by omega)) rfl rfl ?_
  refine l_val (r_fieldAddr 26 Tryz.underlying31 rfl tyC3.size rfl rfl rfl) rfl rfl ?_
  refine l_storeC hW 1 tyC3 (v := .int .i64 (b.a + 1)) rfl rfl rfl rfl rfl rfl (by rw [boC_len]; decide) rfl ?_
  intro W hW
  replace hW := (show Cl _ ([_, ⟨_, (boC b s2).set 26 (.int .i64 (b.a + 1)), _⟩] ++ Bs) _ from hW)
  rw [boC_setA] at hW
  refine l_end (n_then (c_seq (c_seq (c_reg ?_))))
  refine aI ?_
  refine l_val (r_gtrN (n := 0) rfl rfl rfl rfl) rfl rfl ?_
  refine l_split ?_ ?_
  ·intro hc6
   replace hc6 := of_decide_eq_true hc6
   refine aB ?_
   refine gI ?_
   refine l_valG (r_gtrN (n := 0) rfl rfl rfl rfl) (by kernel_rfl) rfl ?_
   refine l_split ?_ ?_
   ·intro hc7
    replace hc7 := of_decide_eq_true hc7
    refine kB ?_
    refine l_end (n_then ?_)
    refine c_true rfl ?_
    refine c_reg ?_
    refine l_val (r_fieldAddr 27 Tryz.underlying31 rfl tyC3.size rfl rfl rfl) rfl rfl ?_
    refine l_loadC hW 1 tyC3 (v := .int .i64 b.x) rfl rfl rfl rfl rfl rfl ?_
    refine l_val (r_addZ rfl rfl rfl (by omega)) rfl rfl ?_
    refine l_val (r_fieldAddr 27 Tryz.underlying31 rfl tyC3.size rfl rfl rfl) rfl rfl ?_
    refine l_storeC hW 1 tyC3 (v := .int .i64 (b.x + 1)) rfl rfl rfl rfl rfl rfl (by rw [boC_len]; decide) rfl ?_
    intro W hW
    replace hW := (show Cl _ ([_, ⟨_, (boC { b with a := b.a + 1 } s2).set 27 (.int .i64 (b.x + 1)), _⟩] ++ Bs) _ from hW)
    rw [boC_setX] at hW
    refine l_end (n_then (c_seq (c_reg ?_)))
    have hax := after_p (b := b) (r := x.2.1) (w := x.2.2.1) ⟨by omega, by omega⟩
    obtain ⟨b1, hb1⟩ : ∃ b1, b1 = after b x.2.1 x.2.2.1 := ⟨_, rfl⟩
    have es : b1 = { b with a := b.a + 1, x := b.x + 1 } := hb1.trans hax
    have ev : b1.v = b.v := by rw [es]
    have en : b1.n = b.n := by rw [es]
    have em : b1.m = b.m := by rw [es]
    have ek : b1.k = b.k := by rw [es]
    have ex : b1.x = b.x + 1 := by rw [es]
    rw [← es] at hW
    have hbn : b1.n + 1 = ((b.n.toNat + 1 : Nat) : Int) := by omega
    refine l_val (r_fieldAddr 8 Tryz.underlying31 rfl tyC3.size rfl rfl rfl) rfl rfl ?_
    refine dC hW 1 tyC3 ?_
    refine l_val (r_addZ rfl rfl rfl (by omega)) rfl rfl ?_
    refine bI ?_
    refine l_end (n_then (c_seq (c_seq ?_)))
    refine c_regY hW [] [.q, .q, .q, .q, .q, .q, .q, .q, .q, .q, .q, .q, .q, .q, .q, .q, .q, .q, .q, .q, .q, .q, .q, .q, .q, .q, .q, .q, .q, .q] [0, 1, 3, 7, 15, 31, 63, 127, 255, 127, 639, 2047, 4095, 8191, 16383, 32767, 65535, 32767, 32767, 425983, 950271, 32767, 2129919, 8388607, 32767, 32767, 50364415, 117473279, 268435455, 536870911] (by kernel_rfl) (by kernel_rfl) ?_
    refine yI ?_
    refine y_val (r_eqlN (n := 0) rfl rfl rfl rfl) rfl rfl ?_
    refine y_split ?_ ?_
    ·intro hc8
     replace hc8 := of_decide_eq_true hc8
     refine yB ?_
     refine yN ?_
     refine yN ?_
     refine yN ?_
     refine yN ?_
     refine yN ?_
     refine yN ?_
     refine yN ?_
     refine yN ?_
     refine yN ?_
     refine yN ?_
     refine yK ?_
     refine yB ?_
     refine yN ?_
     refine yN ?_
     refine yN ?_
     refine yN ?_
     refine yN ?_
     refine yN ?_
     refine yN ?_
     refine yN ?_
     refine yN ?_
     refine yN ?_
     refine yN ?_
     refine yN ?_
     refine yN ?_
     refine yN ?_
     refine yK ?_
     refine y_end ?_
     intro W hW
     refine n_then ?_
     refine c_true rfl ?_
     refine c_seq (c_reg ?_)
     refine dA hW 1 tyA31 ?_
     refine sA hW 0 tyA31 ?_
     intro W hW
     refine bB ?_
     refine l_end (n_then (c_ret (r_then ?_)))
     refine rT hW 0 tyA31 ?_
     have e1 : stp o f o.length = x.2 := by rw [show o.length = x.1 by omega]; exact hst
     have hv : askW b x.2.1 x.2.2.1 x.2.2.2 = _ := ask_no (by rw [← hb1]; omega)
     exact ⟨_, _, rfl, ⟨s2, by rw [askd, plays, e1, ← hb1, hv]; rfl, by rw [askd, after_l]; exact hN⟩, hW.drop 2⟩
    ·intro hc8
     replace hc8 := of_decide_eq_false hc8
     refine yB ?_
     refine y_val (r_fieldAddr 9 Tryz.underlying31 rfl tyC3.size rfl rfl rfl) (by kernel_rfl) rfl ?_
     refine y_loadC 1 tyC3 (by kernel_rfl) rfl rfl rfl rfl rfl (by decide) ?_
     refine y_val (r_gtr rfl rfl rfl rfl) (by kernel_rfl) rfl ?_
     refine y_split ?_ ?_
     ·intro hc9
      replace hc9 := of_decide_eq_true hc9
      refine y_val (r_move (v := .bool _) rfl rfl) (by kernel_rfl) rfl ?_
      refine y_val (r_fieldAddr 27 Tryz.underlying31 rfl tyC3.size rfl rfl rfl) (by kernel_rfl) rfl ?_
      refine y_loadC 1 tyC3 (by kernel_rfl) rfl rfl rfl rfl rfl (by decide) ?_
      refine y_val (r_fieldAddr 9 Tryz.underlying31 rfl tyC3.size rfl rfl rfl) (by kernel_rfl) rfl ?_
      refine y_loadC 1 tyC3 (by kernel_rfl) rfl rfl rfl rfl rfl (by decide) ?_
      refine y_val (r_gtr rfl rfl rfl rfl) (by kernel_rfl) rfl ?_
      refine y_split ?_ ?_
      ·intro hc10
       replace hc10 := of_decide_eq_true hc10
       refine y_val (r_pick (v := .bool _) rfl rfl rfl) (by kernel_rfl) rfl ?_
       refine yK ?_
       refine yB ?_
       refine yN ?_
       refine yN ?_
       refine yN ?_
       refine yN ?_
       refine yN ?_
       refine yN ?_
       refine yN ?_
       refine yN ?_
       refine yN ?_
       refine yN ?_
       refine yN ?_
       refine yN ?_
       refine yN ?_
       refine yN ?_
       refine yK ?_
       refine y_end ?_
       intro W hW
       refine n_then ?_
       refine c_true rfl ?_
       refine c_seq (c_reg ?_)
       refine dA hW 1 tyA31 ?_
       refine sA hW 0 tyA31 ?_
       intro W hW
       refine bB ?_
       refine l_end (n_then (c_ret (r_then ?_)))
       refine rT hW 0 tyA31 ?_
       have e1 : stp o f o.length = x.2 := by rw [show o.length = x.1 by omega]; exact hst
       have hv : askW b x.2.1 x.2.2.1 x.2.2.2 = _ := ask_no (by rw [← hb1]; omega)
       exact ⟨_, _, rfl, ⟨s2, by rw [askd, plays, e1, ← hb1, hv]; rfl, by rw [askd, after_l]; exact hN⟩, hW.drop 2⟩
      ·intro hc10
       replace hc10 := of_decide_eq_false hc10
       refine y_val (r_pick (v := .bool _) rfl rfl rfl) (by kernel_rfl) rfl ?_
       refine yK ?_
       refine yB ?_
       refine y_val (r_fieldAddr 10 Tryz.underlying31 rfl tyA29.size rfl rfl rfl) (by kernel_rfl) rfl ?_
       refine y_loadP 1 tyA29 (by kernel_rfl) rfl rfl rfl rfl (by rw [boC_len]; decide) (boC_key _ _) (by decide) ?_
       refine y_val (r_move (v := .int _ _) rfl rfl) (by kernel_rfl) rfl ?_
       refine y_val (r_move (v := .int _ _) rfl rfl) (by kernel_rfl) rfl ?_
       refine y_val (r_quoN (m := b.a.toNat) (n := b.n.toNat + 1) rfl (congrArg (Value.int .i64) ha) (congrArg (Value.int .i64) hbn) (by omega) (by omega)) (by kernel_rfl) rfl ?_
       refine y_val (r_conv_i64_u64 Tryz.underlying3 Tryz.underlying22 rfl rfl) (by kernel_rfl) rfl ?_
       refine y_val (r_move (v := .int _ _) rfl rfl) (by kernel_rfl) rfl ?_
       refine y_val (r_conv_i64_u64 (n := b.n.toNat + 1) Tryz.underlying3 Tryz.underlying22 rfl (congrArg (Value.int .i64) hbn)) (by kernel_rfl) rfl ?_
       refine y_call (g_rNumber _ _ _) en181 (by kernel_rfl) rfl rfl rfl ?_
       refine y_val (r_move (v := .int _ _) rfl rfl) (by kernel_rfl) rfl ?_
       refine y_val (r_move (v := .int _ _) rfl rfl) (by kernel_rfl) rfl ?_
       refine y_val (r_remN (m := b.a.toNat) (n := b.n.toNat + 1) rfl (congrArg (Value.int .i64) ha) (congrArg (Value.int .i64) hbn) (by omega)) (by kernel_rfl) rfl ?_
       refine y_val (r_conv_i64_u64 Tryz.underlying3 Tryz.underlying22 rfl rfl) (by kernel_rfl) rfl ?_
       refine y_val (r_neqN rfl rfl rfl rfl) (by kernel_rfl) rfl ?_
       refine y_split ?_ ?_
       ·intro hc11
        replace hc11 := of_decide_eq_true hc11
        refine yK ?_
        refine y_end ?_
        intro W hW
        refine n_then ?_
        refine c_true rfl ?_
        refine c_seq (c_reg ?_)
        refine dA hW 1 tyA31 ?_
        refine sA hW 0 tyA31 ?_
        intro W hW
        refine bB ?_
        refine l_end (n_then (c_ret (r_then ?_)))
        refine rT hW 0 tyA31 ?_
        have e1 : stp o f o.length = x.2 := by rw [show o.length = x.1 by omega]; exact hst
        have hv : askW b x.2.1 x.2.2.1 x.2.2.2 = _ := ask_no (.inr (.inr (decide_eq_true (by rw [← ek]; exact hc11))))
        exact ⟨_, _, rfl, ⟨s2, by rw [askd, plays, e1, ← hb1, hv]; rfl, by rw [askd, after_l]; exact hN⟩, hW.drop 2⟩
       ·intro hc11
        replace hc11 := of_decide_eq_false hc11
        refine yK ?_
        refine y_end ?_
        intro W hW
        refine n_then ?_
        refine c_false rfl ?_
        refine c_skip (n_then (c_seq (c_seq (c_reg ?_))))
        refine aI ?_
        refine l_val (r_eqlN (n := 0) rfl rfl rfl rfl) rfl rfl ?_
        refine l_split ?_ ?_
        ·intro hc12
         replace hc12 := of_decide_eq_true hc12
         refine l_end (n_then ?_)
         refine c_true rfl ?_
         refine c_seq (c_reg ?_)
         refine dA hW 1 tyA31 ?_
         refine sA hW 0 tyA31 ?_
         intro W hW
         refine bB ?_
         refine l_end (n_then (c_ret (r_then ?_)))
         refine rT hW 0 tyA31 ?_
         have e1 : stp o f o.length = x.2 := by rw [show o.length = x.1 by omega]; exact hst
         have hneg : ¬ (x.2.1 = 0 ∨ (0 < b.v ∧ b.v < (after b x.2.1 x.2.2.1).x) ∨ noiseB b = true) := by
          rw [← hb1, show noiseB b = false from decide_eq_false (by rw [← ek]; exact hc11)]
          rintro (h | ⟨h1, h2⟩ | h)
          ·omega
          ·omega
          ·cases h
         have hv : askW b x.2.1 x.2.2.1 x.2.2.2 = _ := ask_y0 hneg (by omega)
         exact ⟨_, _, rfl, ⟨s2, by rw [askd, plays, e1, ← hb1, hv]; rfl, by rw [askd, after_l]; exact hN⟩, hW.drop 2⟩
        ·intro hc12
         replace hc12 := of_decide_eq_false hc12
         refine l_end (n_then ?_)
         refine c_false rfl ?_
         refine c_skip (n_then (c_seq (c_seq (c_reg ?_))))
         refine l_val (r_fieldAddr 7 Tryz.underlying31 rfl tyC5.size rfl rfl rfl) rfl rfl ?_
         refine dC hW 1 tyC5 ?_
         refine l_end (n_then (c_block (c_seq (c_reg ?_))))
         refine l_val (r_eql rfl rfl rfl rfl) rfl rfl ?_
         refine l_split ?_ ?_
         ·intro hc13
          replace hc13 := of_decide_eq_true hc13
          refine bB ?_
          refine l_end (n_then ?_)
          refine c_true rfl ?_
          refine c_seq (c_reg ?_)
          refine dA hW 1 tyA31 ?_
          refine aB ?_
          refine sA hW 0 tyA31 ?_
          intro W hW
          refine bB ?_
          refine l_end (n_then (c_ret (r_block (r_then ?_))))
          refine rT hW 0 tyA31 ?_
          have e1 : stp o f o.length = x.2 := by rw [show o.length = x.1 by omega]; exact hst
          have hneg : ¬ (x.2.1 = 0 ∨ (0 < b.v ∧ b.v < (after b x.2.1 x.2.2.1).x) ∨ noiseB b = true) := by
           rw [← hb1, show noiseB b = false from decide_eq_false (by rw [← ek]; exact hc11)]
           rintro (h | ⟨h1, h2⟩ | h)
           ·omega
           ·omega
           ·cases h
          have hv : askW b x.2.1 x.2.2.1 x.2.2.2 = _ := (ask_w hneg (by omega)).trans (play_1 (by omega))
          exact ⟨_, _, rfl, ⟨s2, by rw [askd, plays, e1, ← hb1, hv]; rfl, by rw [askd, after_l]; exact hN⟩, hW.drop 2⟩
         ·intro hc13
          replace hc13 := of_decide_eq_false hc13
          refine bB ?_
          refine l_end (n_then ?_)
          refine c_false rfl ?_
          refine c_seq (c_reg ?_)
          refine l_val (r_eql rfl rfl rfl rfl) rfl rfl ?_
          refine l_split ?_ ?_
          ·intro hc14
           replace hc14 := of_decide_eq_true hc14
           refine bB ?_
           refine l_end (n_then ?_)
           refine c_true rfl ?_
           refine c_seq (c_reg ?_)
           refine dA hW 1 tyA31 ?_
           refine sA hW 0 tyA31 ?_
           intro W hW
           refine bB ?_
           refine l_end (n_then (c_ret (r_block (r_then ?_))))
           refine rT hW 0 tyA31 ?_
           have e1 : stp o f o.length = x.2 := by rw [show o.length = x.1 by omega]; exact hst
           have hneg : ¬ (x.2.1 = 0 ∨ (0 < b.v ∧ b.v < (after b x.2.1 x.2.2.1).x) ∨ noiseB b = true) := by
            rw [← hb1, show noiseB b = false from decide_eq_false (by rw [← ek]; exact hc11)]
            rintro (h | ⟨h1, h2⟩ | h)
            ·omega
            ·omega
            ·cases h
           have hv : askW b x.2.1 x.2.2.1 x.2.2.2 = _ := (ask_w hneg (by omega)).trans (play_3 (by omega))
           exact ⟨_, _, rfl, ⟨s2, by rw [askd, plays, e1, ← hb1, hv]; rfl, by rw [askd, after_l]; exact hN⟩, hW.drop 2⟩
          ·intro hc14
           replace hc14 := of_decide_eq_false hc14
           refine bB ?_
           refine l_end (n_then ?_)
           refine c_false rfl ?_
           refine c_seq (c_reg ?_)
           refine l_val (r_eql rfl rfl rfl rfl) rfl rfl ?_
           refine l_split ?_ ?_
           ·intro hc15
            replace hc15 := of_decide_eq_true hc15
            refine bB ?_
            refine l_end (n_then ?_)
            refine c_true rfl ?_
            refine c_seq ?_
            refine c_regY hW [0] [.q, .q, .q, .q, .q, .q, .q, .q, .q, .q, .q, .s, .q] [0, 0, 2, 0, 8, 24, 0, 120, 248, 510, 1022, 1023, 4095] (by kernel_rfl) (by kernel_rfl) ?_
            refine y_loadA 1 tyA31 rfl rfl rfl rfl rfl (by first | rfl | exact kc_len _ | exact kcf_len _ | exact boC_len _ _ | (simp; done)) (by decide) ?_
            refine y_val (r_fieldAddr 10 Tryz.underlying31 rfl tyA29.size rfl rfl rfl) rfl rfl ?_
            refine y_loadP 1 tyA29 (by kernel_rfl) rfl rfl rfl rfl (by rw [boC_len]; decide) (boC_key _ _) (by decide) ?_
            refine yI ?_
            refine y_val (r_mulN (m := 64) rfl rfl rfl (by omega)) rfl rfl ?_
            refine y_val (r_addN (m := 4294967296) rfl rfl rfl (by omega)) rfl rfl ?_
            refine yI ?_
            refine y_val (r_addN rfl rfl rfl (by omega)) rfl rfl ?_
            refine y_val (r_conv_i64_u64 Tryz.underlying3 Tryz.underlying22 rfl rfl) rfl rfl ?_
            refine y_call (g_rNumber b1.k (BitVec.ofNat 64 (4294967296 + 64 * x.2.2.1 + x.2.1)) 2#64) en181 rfl rfl rfl rfl ?_
            refine y_val (r_eql_u64 (y := 1#64) rfl rfl rfl rfl) rfl rfl ?_
            refine y_storeA 0 tyA31 rfl rfl rfl rfl rfl rfl (by first | rfl | exact kc_len _ | exact kcf_len _ | exact boC_len _ _ | (simp; done)) (by first | rfl | exact kc_len _ | exact kcf_len _ | exact boC_len _ _ | (simp; done)) (by first | exact kc_one _ | exact kcf_one _ | exact boC_one _ _ | (simp [Value.oneCell']; done)) (by decide) ?_
            refine y_val (r_assign (v := .bool _) rfl rfl) rfl rfl ?_
            refine y_end ?_
            intro W hW
            refine n_then (c_ret (r_block (r_then ?_)))
            refine rT hW 0 tyA31 ?_
            have e1 : stp o f o.length = x.2 := by rw [show o.length = x.1 by omega]; exact hst
            have hneg : ¬ (x.2.1 = 0 ∨ (0 < b.v ∧ b.v < (after b x.2.1 x.2.2.1).x) ∨ noiseB b = true) := by
             rw [← hb1, show noiseB b = false from decide_eq_false (by rw [← ek]; exact hc11)]
             rintro (h | ⟨h1, h2⟩ | h)
             ·omega
             ·omega
             ·cases h
            have hv : askW b x.2.1 x.2.2.1 x.2.2.2 = _ := (ask_w hneg (by omega)).trans (play_4 (by omega))
            exact ⟨_, _, rfl, ⟨s2, by rw [askd, plays, e1, ← hb1, hv]; rw [oddB, ← ek]; rfl, by rw [askd, after_l]; exact hN⟩, hW.drop 2⟩
           ·intro hc15
            replace hc15 := of_decide_eq_false hc15
            refine bB ?_
            refine l_end (n_then ?_)
            refine c_false rfl ?_
            refine c_skip (n_block (n_then (c_seq (c_reg ?_))))
            refine dA hW 1 tyA31 ?_
            refine sA hW 0 tyA31 ?_
            intro W hW
            refine bB ?_
            refine l_end (n_then (c_ret ?_))
            refine rT hW 0 tyA31 ?_
            have e1 : stp o f o.length = x.2 := by rw [show o.length = x.1 by omega]; exact hst
            have hneg : ¬ (x.2.1 = 0 ∨ (0 < b.v ∧ b.v < (after b x.2.1 x.2.2.1).x) ∨ noiseB b = true) := by
             rw [← hb1, show noiseB b = false from decide_eq_false (by rw [← ek]; exact hc11)]
             rintro (h | ⟨h1, h2⟩ | h)
             ·omega
             ·omega
             ·cases h
            have hv : askW b x.2.1 x.2.2.1 x.2.2.2 = _ := (ask_w hneg (by omega)).trans (play_2 (by omega) (by omega) (by omega))
            exact ⟨_, _, rfl, ⟨s2, by rw [askd, plays, e1, ← hb1, hv]; rfl, by rw [askd, after_l]; exact hN⟩, hW.drop 2⟩
     ·intro hc9
      replace hc9 := of_decide_eq_false hc9
      refine y_val (r_move (v := .bool _) rfl rfl) (by kernel_rfl) rfl ?_
      refine yN ?_
      refine yN ?_
      refine yN ?_
      refine yN ?_
      refine yN ?_
      refine y_val (r_pick (v := .bool _) rfl rfl rfl) (by kernel_rfl) rfl ?_
      refine yK ?_
      refine yB ?_
      refine y_val (r_fieldAddr 10 Tryz.underlying31 rfl tyA29.size rfl rfl rfl) (by kernel_rfl) rfl ?_
      refine y_loadP 1 tyA29 (by kernel_rfl) rfl rfl rfl rfl (by rw [boC_len]; decide) (boC_key _ _) (by decide) ?_
      refine y_val (r_move (v := .int _ _) rfl rfl) (by kernel_rfl) rfl ?_
      refine y_val (r_move (v := .int _ _) rfl rfl) (by kernel_rfl) rfl ?_
      refine y_val (r_quoN (m := b.a.toNat) (n := b.n.toNat + 1) rfl (congrArg (Value.int .i64) ha) (congrArg (Value.int .i64) hbn) (by omega) (by omega)) (by kernel_rfl) rfl ?_
      refine y_val (r_conv_i64_u64 Tryz.underlying3 Tryz.underlying22 rfl rfl) (by kernel_rfl) rfl ?_
      refine y_val (r_move (v := .int _ _) rfl rfl) (by kernel_rfl) rfl ?_
      refine y_val (r_conv_i64_u64 (n := b.n.toNat + 1) Tryz.underlying3 Tryz.underlying22 rfl (congrArg (Value.int .i64) hbn)) (by kernel_rfl) rfl ?_
      refine y_call (g_rNumber _ _ _) en181 (by kernel_rfl) rfl rfl rfl ?_
      refine y_val (r_move (v := .int _ _) rfl rfl) (by kernel_rfl) rfl ?_
      refine y_val (r_move (v := .int _ _) rfl rfl) (by kernel_rfl) rfl ?_
      refine y_val (r_remN (m := b.a.toNat) (n := b.n.toNat + 1) rfl (congrArg (Value.int .i64) ha) (congrArg (Value.int .i64) hbn) (by omega)) (by kernel_rfl) rfl ?_
      refine y_val (r_conv_i64_u64 Tryz.underlying3 Tryz.underlying22 rfl rfl) (by kernel_rfl) rfl ?_
      refine y_val (r_neqN rfl rfl rfl rfl) (by kernel_rfl) rfl ?_
      refine y_split ?_ ?_
      ·intro hc16
       replace hc16 := of_decide_eq_true hc16
       refine yK ?_
       refine y_end ?_
       intro W hW
       refine n_then ?_
       refine c_true rfl ?_
       refine c_seq (c_reg ?_)
       refine dA hW 1 tyA31 ?_
       refine sA hW 0 tyA31 ?_
       intro W hW
       refine bB ?_
       refine l_end (n_then (c_ret (r_then ?_)))
       refine rT hW 0 tyA31 ?_
       have e1 : stp o f o.length = x.2 := by rw [show o.length = x.1 by omega]; exact hst
       have hv : askW b x.2.1 x.2.2.1 x.2.2.2 = _ := ask_no (.inr (.inr (decide_eq_true (by rw [← ek]; exact hc16))))
       exact ⟨_, _, rfl, ⟨s2, by rw [askd, plays, e1, ← hb1, hv]; rfl, by rw [askd, after_l]; exact hN⟩, hW.drop 2⟩
      ·intro hc16
       replace hc16 := of_decide_eq_false hc16
       refine yK ?_
       refine y_end ?_
       intro W hW
       refine n_then ?_
       refine c_false rfl ?_
       refine c_skip (n_then (c_seq (c_seq (c_reg ?_))))
       refine aI ?_
       refine l_val (r_eqlN (n := 0) rfl rfl rfl rfl) rfl rfl ?_
       refine l_split ?_ ?_
       ·intro hc17
        replace hc17 := of_decide_eq_true hc17
        refine l_end (n_then ?_)
        refine c_true rfl ?_
        refine c_seq (c_reg ?_)
        refine dA hW 1 tyA31 ?_
        refine sA hW 0 tyA31 ?_
        intro W hW
        refine bB ?_
        refine l_end (n_then (c_ret (r_then ?_)))
        refine rT hW 0 tyA31 ?_
        have e1 : stp o f o.length = x.2 := by rw [show o.length = x.1 by omega]; exact hst
        have hneg : ¬ (x.2.1 = 0 ∨ (0 < b.v ∧ b.v < (after b x.2.1 x.2.2.1).x) ∨ noiseB b = true) := by
         rw [← hb1, show noiseB b = false from decide_eq_false (by rw [← ek]; exact hc16)]
         rintro (h | ⟨h1, h2⟩ | h)
         ·omega
         ·omega
         ·cases h
        have hv : askW b x.2.1 x.2.2.1 x.2.2.2 = _ := ask_y0 hneg (by omega)
        exact ⟨_, _, rfl, ⟨s2, by rw [askd, plays, e1, ← hb1, hv]; rfl, by rw [askd, after_l]; exact hN⟩, hW.drop 2⟩
       ·intro hc17
        replace hc17 := of_decide_eq_false hc17
        refine l_end (n_then ?_)
        refine c_false rfl ?_
        refine c_skip (n_then (c_seq (c_seq (c_reg ?_))))
        refine l_val (r_fieldAddr 7 Tryz.underlying31 rfl tyC5.size rfl rfl rfl) rfl rfl ?_
        refine dC hW 1 tyC5 ?_
        refine l_end (n_then (c_block (c_seq (c_reg ?_))))
        refine l_val (r_eql rfl rfl rfl rfl) rfl rfl ?_
        refine l_split ?_ ?_
        ·intro hc18
         replace hc18 := of_decide_eq_true hc18
         refine bB ?_
         refine l_end (n_then ?_)
         refine c_true rfl ?_
         refine c_seq (c_reg ?_)
         refine dA hW 1 tyA31 ?_
         refine aB ?_
         refine sA hW 0 tyA31 ?_
         intro W hW
         refine bB ?_
         refine l_end (n_then (c_ret (r_block (r_then ?_))))
         refine rT hW 0 tyA31 ?_
         have e1 : stp o f o.length = x.2 := by rw [show o.length = x.1 by omega]; exact hst
         have hneg : ¬ (x.2.1 = 0 ∨ (0 < b.v ∧ b.v < (after b x.2.1 x.2.2.1).x) ∨ noiseB b = true) := by
          rw [← hb1, show noiseB b = false from decide_eq_false (by rw [← ek]; exact hc16)]
          rintro (h | ⟨h1, h2⟩ | h)
          ·omega
          ·omega
          ·cases h
         have hv : askW b x.2.1 x.2.2.1 x.2.2.2 = _ := (ask_w hneg (by omega)).trans (play_1 (by omega))
         exact ⟨_, _, rfl, ⟨s2, by rw [askd, plays, e1, ← hb1, hv]; rfl, by rw [askd, after_l]; exact hN⟩, hW.drop 2⟩
        ·intro hc18
         replace hc18 := of_decide_eq_false hc18
         refine bB ?_
         refine l_end (n_then ?_)
         refine c_false rfl ?_
         refine c_seq (c_reg ?_)
         refine l_val (r_eql rfl rfl rfl rfl) rfl rfl ?_
         refine l_split ?_ ?_
         ·intro hc19
          replace hc19 := of_decide_eq_true hc19
          refine bB ?_
          refine l_end (n_then ?_)
          refine c_true rfl ?_
          refine c_seq (c_reg ?_)
          refine dA hW 1 tyA31 ?_
          refine sA hW 0 tyA31 ?_
          intro W hW
          refine bB ?_
          refine l_end (n_then (c_ret (r_block (r_then ?_))))
          refine rT hW 0 tyA31 ?_
          have e1 : stp o f o.length = x.2 := by rw [show o.length = x.1 by omega]; exact hst
          have hneg : ¬ (x.2.1 = 0 ∨ (0 < b.v ∧ b.v < (after b x.2.1 x.2.2.1).x) ∨ noiseB b = true) := by
           rw [← hb1, show noiseB b = false from decide_eq_false (by rw [← ek]; exact hc16)]
           rintro (h | ⟨h1, h2⟩ | h)
           ·omega
           ·omega
           ·cases h
          have hv : askW b x.2.1 x.2.2.1 x.2.2.2 = _ := (ask_w hneg (by omega)).trans (play_3 (by omega))
          exact ⟨_, _, rfl, ⟨s2, by rw [askd, plays, e1, ← hb1, hv]; rfl, by rw [askd, after_l]; exact hN⟩, hW.drop 2⟩
         ·intro hc19
          replace hc19 := of_decide_eq_false hc19
          refine bB ?_
          refine l_end (n_then ?_)
          refine c_false rfl ?_
          refine c_seq (c_reg ?_)
          refine l_val (r_eql rfl rfl rfl rfl) rfl rfl ?_
          refine l_split ?_ ?_
          ·intro hc20
           replace hc20 := of_decide_eq_true hc20
           refine bB ?_
           refine l_end (n_then ?_)
           refine c_true rfl ?_
           refine c_seq ?_
           refine c_regY hW [0] [.q, .q, .q, .q, .q, .q, .q, .q, .q, .q, .q, .s, .q] [0, 0, 2, 0, 8, 24, 0, 120, 248, 510, 1022, 1023, 4095] (by kernel_rfl) (by kernel_rfl) ?_
           refine y_loadA 1 tyA31 rfl rfl rfl rfl rfl (by first | rfl | exact kc_len _ | exact kcf_len _ | exact boC_len _ _ | (simp; done)) (by decide) ?_
           refine y_val (r_fieldAddr 10 Tryz.underlying31 rfl tyA29.size rfl rfl rfl) rfl rfl ?_
           refine y_loadP 1 tyA29 (by kernel_rfl) rfl rfl rfl rfl (by rw [boC_len]; decide) (boC_key _ _) (by decide) ?_
           refine yI ?_
           refine y_val (r_mulN (m := 64) rfl rfl rfl (by omega)) rfl rfl ?_
           refine y_val (r_addN (m := 4294967296) rfl rfl rfl (by omega)) rfl rfl ?_
           refine yI ?_
           refine y_val (r_addN rfl rfl rfl (by omega)) rfl rfl ?_
           refine y_val (r_conv_i64_u64 Tryz.underlying3 Tryz.underlying22 rfl rfl) rfl rfl ?_
           refine y_call (g_rNumber b1.k (BitVec.ofNat 64 (4294967296 + 64 * x.2.2.1 + x.2.1)) 2#64) en181 rfl rfl rfl rfl ?_
           refine y_val (r_eql_u64 (y := 1#64) rfl rfl rfl rfl) rfl rfl ?_
           refine y_storeA 0 tyA31 rfl rfl rfl rfl rfl rfl (by first | rfl | exact kc_len _ | exact kcf_len _ | exact boC_len _ _ | (simp; done)) (by first | rfl | exact kc_len _ | exact kcf_len _ | exact boC_len _ _ | (simp; done)) (by first | exact kc_one _ | exact kcf_one _ | exact boC_one _ _ | (simp [Value.oneCell']; done)) (by decide) ?_
           refine y_val (r_assign (v := .bool _) rfl rfl) rfl rfl ?_
           refine y_end ?_
           intro W hW
           refine n_then (c_ret (r_block (r_then ?_)))
           refine rT hW 0 tyA31 ?_
           have e1 : stp o f o.length = x.2 := by rw [show o.length = x.1 by omega]; exact hst
           have hneg : ¬ (x.2.1 = 0 ∨ (0 < b.v ∧ b.v < (after b x.2.1 x.2.2.1).x) ∨ noiseB b = true) := by
            rw [← hb1, show noiseB b = false from decide_eq_false (by rw [← ek]; exact hc16)]
            rintro (h | ⟨h1, h2⟩ | h)
            ·omega
            ·omega
            ·cases h
           have hv : askW b x.2.1 x.2.2.1 x.2.2.2 = _ := (ask_w hneg (by omega)).trans (play_4 (by omega))
           exact ⟨_, _, rfl, ⟨s2, by rw [askd, plays, e1, ← hb1, hv]; rw [oddB, ← ek]; rfl, by rw [askd, after_l]; exact hN⟩, hW.drop 2⟩
          ·intro hc20
           replace hc20 := of_decide_eq_false hc20
           refine bB ?_
           refine l_end (n_then ?_)
           refine c_false rfl ?_
           refine c_skip (n_block (n_then (c_seq (c_reg ?_))))
           refine dA hW 1 tyA31 ?_
           refine sA hW 0 tyA31 ?_
           intro W hW
           refine bB ?_
           refine l_end (n_then (c_ret ?_))
           refine rT hW 0 tyA31 ?_
           have e1 : stp o f o.length = x.2 := by rw [show o.length = x.1 by omega]; exact hst
           have hneg : ¬ (x.2.1 = 0 ∨ (0 < b.v ∧ b.v < (after b x.2.1 x.2.2.1).x) ∨ noiseB b = true) := by
            rw [← hb1, show noiseB b = false from decide_eq_false (by rw [← ek]; exact hc16)]
            rintro (h | ⟨h1, h2⟩ | h)
            ·omega
            ·omega
            ·cases h
           have hv : askW b x.2.1 x.2.2.1 x.2.2.2 = _ := (ask_w hneg (by omega)).trans (play_2 (by omega) (by omega) (by omega))
           exact ⟨_, _, rfl, ⟨s2, by rw [askd, plays, e1, ← hb1, hv]; rfl, by rw [askd, after_l]; exact hN⟩, hW.drop 2⟩
   ·intro hc7
    replace hc7 := of_decide_eq_false hc7
    refine kB ?_
    refine l_end (n_then ?_)
    refine c_false rfl ?_
    refine c_skip (n_then (c_seq (c_reg ?_)))
    have hax := after_n (b := b) (r := x.2.1) (w := x.2.2.1) (by omega)
    obtain ⟨b1, hb1⟩ : ∃ b1, b1 = after b x.2.1 x.2.2.1 := ⟨_, rfl⟩
    have es : b1 = { b with a := b.a + 1 } := hb1.trans hax
    have ev : b1.v = b.v := by rw [es]
    have en : b1.n = b.n := by rw [es]
    have em : b1.m = b.m := by rw [es]
    have ek : b1.k = b.k := by rw [es]
    have ex : b1.x = b.x := by rw [es]
    rw [← es] at hW
    have hbn : b1.n + 1 = ((b.n.toNat + 1 : Nat) : Int) := by omega
    refine l_val (r_fieldAddr 8 Tryz.underlying31 rfl tyC3.size rfl rfl rfl) rfl rfl ?_
    refine dC hW 1 tyC3 ?_
    refine l_val (r_addZ rfl rfl rfl (by omega)) rfl rfl ?_
    refine bI ?_
    refine l_end (n_then (c_seq (c_seq ?_)))
    refine c_regY hW [] [.q, .q, .q, .q, .q, .q, .q, .q, .q, .q, .q, .q, .q, .q, .q, .q, .q, .q, .q, .q, .q, .q, .q, .q, .q, .q, .q, .q, .q, .q] [0, 1, 3, 7, 15, 31, 63, 127, 255, 127, 639, 2047, 4095, 8191, 16383, 32767, 65535, 32767, 32767, 425983, 950271, 32767, 2129919, 8388607, 32767, 32767, 50364415, 117473279, 268435455, 536870911] (by kernel_rfl) (by kernel_rfl) ?_
    refine yI ?_
    refine y_val (r_eqlN (n := 0) rfl rfl rfl rfl) rfl rfl ?_
    refine y_split ?_ ?_
    ·intro hc21
     replace hc21 := of_decide_eq_true hc21
     refine yB ?_
     refine yN ?_
     refine yN ?_
     refine yN ?_
     refine yN ?_
     refine yN ?_
     refine yN ?_
     refine yN ?_
     refine yN ?_
     refine yN ?_
     refine yN ?_
     refine yK ?_
     refine yB ?_
     refine yN ?_
     refine yN ?_
     refine yN ?_
     refine yN ?_
     refine yN ?_
     refine yN ?_
     refine yN ?_
     refine yN ?_
     refine yN ?_
     refine yN ?_
     refine yN ?_
     refine yN ?_
     refine yN ?_
     refine yN ?_
     refine yK ?_
     refine y_end ?_
     intro W hW
     refine n_then ?_
     refine c_true rfl ?_
     refine c_seq (c_reg ?_)
     refine dA hW 1 tyA31 ?_
     refine sA hW 0 tyA31 ?_
     intro W hW
     refine bB ?_
     refine l_end (n_then (c_ret (r_then ?_)))
     refine rT hW 0 tyA31 ?_
     have e1 : stp o f o.length = x.2 := by rw [show o.length = x.1 by omega]; exact hst
     have hv : askW b x.2.1 x.2.2.1 x.2.2.2 = _ := ask_no (by rw [← hb1]; omega)
     exact ⟨_, _, rfl, ⟨s2, by rw [askd, plays, e1, ← hb1, hv]; rfl, by rw [askd, after_l]; exact hN⟩, hW.drop 2⟩
    ·intro hc21
     replace hc21 := of_decide_eq_false hc21
     refine yB ?_
     refine y_val (r_fieldAddr 9 Tryz.underlying31 rfl tyC3.size rfl rfl rfl) (by kernel_rfl) rfl ?_
     refine y_loadC 1 tyC3 (by kernel_rfl) rfl rfl rfl rfl rfl (by decide) ?_
     refine y_val (r_gtr rfl rfl rfl rfl) (by kernel_rfl) rfl ?_
     refine y_split ?_ ?_
     ·intro hc22
      replace hc22 := of_decide_eq_true hc22
      refine y_val (r_move (v := .bool _) rfl rfl) (by kernel_rfl) rfl ?_
      refine y_val (r_fieldAddr 27 Tryz.underlying31 rfl tyC3.size rfl rfl rfl) (by kernel_rfl) rfl ?_
      refine y_loadC 1 tyC3 (by kernel_rfl) rfl rfl rfl rfl rfl (by decide) ?_
      refine y_val (r_fieldAddr 9 Tryz.underlying31 rfl tyC3.size rfl rfl rfl) (by kernel_rfl) rfl ?_
      refine y_loadC 1 tyC3 (by kernel_rfl) rfl rfl rfl rfl rfl (by decide) ?_
      refine y_val (r_gtr rfl rfl rfl rfl) (by kernel_rfl) rfl ?_
      refine y_split ?_ ?_
      ·intro hc23
       replace hc23 := of_decide_eq_true hc23
       refine y_val (r_pick (v := .bool _) rfl rfl rfl) (by kernel_rfl) rfl ?_
       refine yK ?_
       refine yB ?_
       refine yN ?_
       refine yN ?_
       refine yN ?_
       refine yN ?_
       refine yN ?_
       refine yN ?_
       refine yN ?_
       refine yN ?_
       refine yN ?_
       refine yN ?_
       refine yN ?_
       refine yN ?_
       refine yN ?_
       refine yN ?_
       refine yK ?_
       refine y_end ?_
       intro W hW
       refine n_then ?_
       refine c_true rfl ?_
       refine c_seq (c_reg ?_)
       refine dA hW 1 tyA31 ?_
       refine sA hW 0 tyA31 ?_
       intro W hW
       refine bB ?_
       refine l_end (n_then (c_ret (r_then ?_)))
       refine rT hW 0 tyA31 ?_
       have e1 : stp o f o.length = x.2 := by rw [show o.length = x.1 by omega]; exact hst
       have hv : askW b x.2.1 x.2.2.1 x.2.2.2 = _ := ask_no (by rw [← hb1]; omega)
       exact ⟨_, _, rfl, ⟨s2, by rw [askd, plays, e1, ← hb1, hv]; rfl, by rw [askd, after_l]; exact hN⟩, hW.drop 2⟩
      ·intro hc23
       replace hc23 := of_decide_eq_false hc23
       refine y_val (r_pick (v := .bool _) rfl rfl rfl) (by kernel_rfl) rfl ?_
       refine yK ?_
       refine yB ?_
       refine y_val (r_fieldAddr 10 Tryz.underlying31 rfl tyA29.size rfl rfl rfl) (by kernel_rfl) rfl ?_
       refine y_loadP 1 tyA29 (by kernel_rfl) rfl rfl rfl rfl (by rw [boC_len]; decide) (boC_key _ _) (by decide) ?_
       refine y_val (r_move (v := .int _ _) rfl rfl) (by kernel_rfl) rfl ?_
       refine y_val (r_move (v := .int _ _) rfl rfl) (by kernel_rfl) rfl ?_
       refine y_val (r_quoN (m := b.a.toNat) (n := b.n.toNat + 1) rfl (congrArg (Value.int .i64) ha) (congrArg (Value.int .i64) hbn) (by omega) (by omega)) (by kernel_rfl) rfl ?_
       refine y_val (r_conv_i64_u64 Tryz.underlying3 Tryz.underlying22 rfl rfl) (by kernel_rfl) rfl ?_
       refine y_val (r_move (v := .int _ _) rfl rfl) (by kernel_rfl) rfl ?_
       refine y_val (r_conv_i64_u64 (n := b.n.toNat + 1) Tryz.underlying3 Tryz.underlying22 rfl (congrArg (Value.int .i64) hbn)) (by kernel_rfl) rfl ?_
       refine y_call (g_rNumber _ _ _) en181 (by kernel_rfl) rfl rfl rfl ?_
       refine y_val (r_move (v := .int _ _) rfl rfl) (by kernel_rfl) rfl ?_
       refine y_val (r_move (v := .int _ _) rfl rfl) (by kernel_rfl) rfl ?_
       refine y_val (r_remN (m := b.a.toNat) (n := b.n.toNat + 1) rfl (congrArg (Value.int .i64) ha) (congrArg (Value.int .i64) hbn) (by omega)) (by kernel_rfl) rfl ?_
       refine y_val (r_conv_i64_u64 Tryz.underlying3 Tryz.underlying22 rfl rfl) (by kernel_rfl) rfl ?_
       refine y_val (r_neqN rfl rfl rfl rfl) (by kernel_rfl) rfl ?_
       refine y_split ?_ ?_
       ·intro hc24
        replace hc24 := of_decide_eq_true hc24
        refine yK ?_
        refine y_end ?_
        intro W hW
        refine n_then ?_
        refine c_true rfl ?_
        refine c_seq (c_reg ?_)
        refine dA hW 1 tyA31 ?_
        refine sA hW 0 tyA31 ?_
        intro W hW
        refine bB ?_
        refine l_end (n_then (c_ret (r_then ?_)))
        refine rT hW 0 tyA31 ?_
        have e1 : stp o f o.length = x.2 := by rw [show o.length = x.1 by omega]; exact hst
        have hv : askW b x.2.1 x.2.2.1 x.2.2.2 = _ := ask_no (.inr (.inr (decide_eq_true (by rw [← ek]; exact hc24))))
        exact ⟨_, _, rfl, ⟨s2, by rw [askd, plays, e1, ← hb1, hv]; rfl, by rw [askd, after_l]; exact hN⟩, hW.drop 2⟩
       ·intro hc24
        replace hc24 := of_decide_eq_false hc24
        refine yK ?_
        refine y_end ?_
        intro W hW
        refine n_then ?_
        refine c_false rfl ?_
        refine c_skip (n_then (c_seq (c_seq (c_reg ?_))))
        refine aI ?_
        refine l_val (r_eqlN (n := 0) rfl rfl rfl rfl) rfl rfl ?_
        refine l_split ?_ ?_
        ·intro hc25
         replace hc25 := of_decide_eq_true hc25
         refine l_end (n_then ?_)
         refine c_true rfl ?_
         refine c_seq (c_reg ?_)
         refine dA hW 1 tyA31 ?_
         refine sA hW 0 tyA31 ?_
         intro W hW
         refine bB ?_
         refine l_end (n_then (c_ret (r_then ?_)))
         refine rT hW 0 tyA31 ?_
         have e1 : stp o f o.length = x.2 := by rw [show o.length = x.1 by omega]; exact hst
         have hneg : ¬ (x.2.1 = 0 ∨ (0 < b.v ∧ b.v < (after b x.2.1 x.2.2.1).x) ∨ noiseB b = true) := by
          rw [← hb1, show noiseB b = false from decide_eq_false (by rw [← ek]; exact hc24)]
          rintro (h | ⟨h1, h2⟩ | h)
          ·omega
          ·omega
          ·cases h
         have hv : askW b x.2.1 x.2.2.1 x.2.2.2 = _ := ask_y0 hneg (by omega)
         exact ⟨_, _, rfl, ⟨s2, by rw [askd, plays, e1, ← hb1, hv]; rfl, by rw [askd, after_l]; exact hN⟩, hW.drop 2⟩
        ·intro hc25
         replace hc25 := of_decide_eq_false hc25
         refine l_end (n_then ?_)
         refine c_false rfl ?_
         refine c_skip (n_then (c_seq (c_seq (c_reg ?_))))
         refine l_val (r_fieldAddr 7 Tryz.underlying31 rfl tyC5.size rfl rfl rfl) rfl rfl ?_
         refine dC hW 1 tyC5 ?_
         refine l_end (n_then (c_block (c_seq (c_reg ?_))))
         refine l_val (r_eql rfl rfl rfl rfl) rfl rfl ?_
         refine l_split ?_ ?_
         ·intro hc26
          replace hc26 := of_decide_eq_true hc26
          refine bB ?_
          refine l_end (n_then ?_)
          refine c_true rfl ?_
          refine c_seq (c_reg ?_)
          refine dA hW 1 tyA31 ?_
          refine aB ?_
          refine sA hW 0 tyA31 ?_
          intro W hW
          refine bB ?_
          refine l_end (n_then (c_ret (r_block (r_then ?_))))
          refine rT hW 0 tyA31 ?_
          have e1 : stp o f o.length = x.2 := by rw [show o.length = x.1 by omega]; exact hst
          have hneg : ¬ (x.2.1 = 0 ∨ (0 < b.v ∧ b.v < (after b x.2.1 x.2.2.1).x) ∨ noiseB b = true) := by
           rw [← hb1, show noiseB b = false from decide_eq_false (by rw [← ek]; exact hc24)]
           rintro (h | ⟨h1, h2⟩ | h)
           ·omega
           ·omega
           ·cases h
          have hv : askW b x.2.1 x.2.2.1 x.2.2.2 = _ := (ask_w hneg (by omega)).trans (play_1 (by omega))
          exact ⟨_, _, rfl, ⟨s2, by rw [askd, plays, e1, ← hb1, hv]; rfl, by rw [askd, after_l]; exact hN⟩, hW.drop 2⟩
         ·intro hc26
          replace hc26 := of_decide_eq_false hc26
          refine bB ?_
          refine l_end (n_then ?_)
          refine c_false rfl ?_
          refine c_seq (c_reg ?_)
          refine l_val (r_eql rfl rfl rfl rfl) rfl rfl ?_
          refine l_split ?_ ?_
          ·intro hc27
           replace hc27 := of_decide_eq_true hc27
           refine bB ?_
           refine l_end (n_then ?_)
           refine c_true rfl ?_
           refine c_seq (c_reg ?_)
           refine dA hW 1 tyA31 ?_
           refine sA hW 0 tyA31 ?_
           intro W hW
           refine bB ?_
           refine l_end (n_then (c_ret (r_block (r_then ?_))))
           refine rT hW 0 tyA31 ?_
           have e1 : stp o f o.length = x.2 := by rw [show o.length = x.1 by omega]; exact hst
           have hneg : ¬ (x.2.1 = 0 ∨ (0 < b.v ∧ b.v < (after b x.2.1 x.2.2.1).x) ∨ noiseB b = true) := by
            rw [← hb1, show noiseB b = false from decide_eq_false (by rw [← ek]; exact hc24)]
            rintro (h | ⟨h1, h2⟩ | h)
            ·omega
            ·omega
            ·cases h
           have hv : askW b x.2.1 x.2.2.1 x.2.2.2 = _ := (ask_w hneg (by omega)).trans (play_3 (by omega))
           exact ⟨_, _, rfl, ⟨s2, by rw [askd, plays, e1, ← hb1, hv]; rfl, by rw [askd, after_l]; exact hN⟩, hW.drop 2⟩
          ·intro hc27
           replace hc27 := of_decide_eq_false hc27
           refine bB ?_
           refine l_end (n_then ?_)
           refine c_false rfl ?_
           refine c_seq (c_reg ?_)
           refine l_val (r_eql rfl rfl rfl rfl) rfl rfl ?_
           refine l_split ?_ ?_
           ·intro hc28
            replace hc28 := of_decide_eq_true hc28
            refine bB ?_
            refine l_end (n_then ?_)
            refine c_true rfl ?_
            refine c_seq ?_
            refine c_regY hW [0] [.q, .q, .q, .q, .q, .q, .q, .q, .q, .q, .q, .s, .q] [0, 0, 2, 0, 8, 24, 0, 120, 248, 510, 1022, 1023, 4095] (by kernel_rfl) (by kernel_rfl) ?_
            refine y_loadA 1 tyA31 rfl rfl rfl rfl rfl (by first | rfl | exact kc_len _ | exact kcf_len _ | exact boC_len _ _ | (simp; done)) (by decide) ?_
            refine y_val (r_fieldAddr 10 Tryz.underlying31 rfl tyA29.size rfl rfl rfl) rfl rfl ?_
            refine y_loadP 1 tyA29 (by kernel_rfl) rfl rfl rfl rfl (by rw [boC_len]; decide) (boC_key _ _) (by decide) ?_
            refine yI ?_
            refine y_val (r_mulN (m := 64) rfl rfl rfl (by omega)) rfl rfl ?_
            refine y_val (r_addN (m := 4294967296) rfl rfl rfl (by omega)) rfl rfl ?_
            refine yI ?_
            refine y_val (r_addN rfl rfl rfl (by omega)) rfl rfl ?_
            refine y_val (r_conv_i64_u64 Tryz.underlying3 Tryz.underlying22 rfl rfl) rfl rfl ?_
            refine y_call (g_rNumber b1.k (BitVec.ofNat 64 (4294967296 + 64 * x.2.2.1 + x.2.1)) 2#64) en181 rfl rfl rfl rfl ?_
            refine y_val (r_eql_u64 (y := 1#64) rfl rfl rfl rfl) rfl rfl ?_
            refine y_storeA 0 tyA31 rfl rfl rfl rfl rfl rfl (by first | rfl | exact kc_len _ | exact kcf_len _ | exact boC_len _ _ | (simp; done)) (by first | rfl | exact kc_len _ | exact kcf_len _ | exact boC_len _ _ | (simp; done)) (by first | exact kc_one _ | exact kcf_one _ | exact boC_one _ _ | (simp [Value.oneCell']; done)) (by decide) ?_
            refine y_val (r_assign (v := .bool _) rfl rfl) rfl rfl ?_
            refine y_end ?_
            intro W hW
            refine n_then (c_ret (r_block (r_then ?_)))
            refine rT hW 0 tyA31 ?_
            have e1 : stp o f o.length = x.2 := by rw [show o.length = x.1 by omega]; exact hst
            have hneg : ¬ (x.2.1 = 0 ∨ (0 < b.v ∧ b.v < (after b x.2.1 x.2.2.1).x) ∨ noiseB b = true) := by
             rw [← hb1, show noiseB b = false from decide_eq_false (by rw [← ek]; exact hc24)]
             rintro (h | ⟨h1, h2⟩ | h)
             ·omega
             ·omega
             ·cases h
            have hv : askW b x.2.1 x.2.2.1 x.2.2.2 = _ := (ask_w hneg (by omega)).trans (play_4 (by omega))
            exact ⟨_, _, rfl, ⟨s2, by rw [askd, plays, e1, ← hb1, hv]; rw [oddB, ← ek]; rfl, by rw [askd, after_l]; exact hN⟩, hW.drop 2⟩
           ·intro hc28
            replace hc28 := of_decide_eq_false hc28
            refine bB ?_
            refine l_end (n_then ?_)
            refine c_false rfl ?_
            refine c_skip (n_block (n_then (c_seq (c_reg ?_))))
            refine dA hW 1 tyA31 ?_
            refine sA hW 0 tyA31 ?_
            intro W hW
            refine bB ?_
            refine l_end (n_then (c_ret ?_))
            refine rT hW 0 tyA31 ?_
            have e1 : stp o f o.length = x.2 := by rw [show o.length = x.1 by omega]; exact hst
            have hneg : ¬ (x.2.1 = 0 ∨ (0 < b.v ∧ b.v < (after b x.2.1 x.2.2.1).x) ∨ noiseB b = true) := by
             rw [← hb1, show noiseB b = false from decide_eq_false (by rw [← ek]; exact hc24)]
             rintro (h | ⟨h1, h2⟩ | h)
             ·omega
             ·omega
             ·cases h
            have hv : askW b x.2.1 x.2.2.1 x.2.2.2 = _ := (ask_w hneg (by omega)).trans (play_2 (by omega) (by omega) (by omega))
            exact ⟨_, _, rfl, ⟨s2, by rw [askd, plays, e1, ← hb1, hv]; rfl, by rw [askd, after_l]; exact hN⟩, hW.drop 2⟩
     ·intro hc22
      replace hc22 := of_decide_eq_false hc22
      refine y_val (r_move (v := .bool _) rfl rfl) (by kernel_rfl) rfl ?_
      refine yN ?_
      refine yN ?_
      refine yN ?_
      refine yN ?_
      refine yN ?_
      refine y_val (r_pick (v := .bool _) rfl rfl rfl) (by kernel_rfl) rfl ?_
      refine yK ?_
      refine yB ?_
      refine y_val (r_fieldAddr 10 Tryz.underlying31 rfl tyA29.size rfl rfl rfl) (by kernel_rfl) rfl ?_
      refine y_loadP 1 tyA29 (by kernel_rfl) rfl rfl rfl rfl (by rw [boC_len]; decide) (boC_key _ _) (by decide) ?_
      refine y_val (r_move (v := .int _ _) rfl rfl) (by kernel_rfl) rfl ?_
      refine y_val (r_move (v := .int _ _) rfl rfl) (by kernel_rfl) rfl ?_
      refine y_val (r_quoN (m := b.a.toNat) (n := b.n.toNat + 1) rfl (congrArg (Value.int .i64) ha) (congrArg (Value.int .i64) hbn) (by omega) (by omega)) (by kernel_rfl) rfl ?_
      refine y_val (r_conv_i64_u64 Tryz.underlying3 Tryz.underlying22 rfl rfl) (by kernel_rfl) rfl ?_
      refine y_val (r_move (v := .int _ _) rfl rfl) (by kernel_rfl) rfl ?_
      refine y_val (r_conv_i64_u64 (n := b.n.toNat + 1) Tryz.underlying3 Tryz.underlying22 rfl (congrArg (Value.int .i64) hbn)) (by kernel_rfl) rfl ?_
      refine y_call (g_rNumber _ _ _) en181 (by kernel_rfl) rfl rfl rfl ?_
      refine y_val (r_move (v := .int _ _) rfl rfl) (by kernel_rfl) rfl ?_
      refine y_val (r_move (v := .int _ _) rfl rfl) (by kernel_rfl) rfl ?_
      refine y_val (r_remN (m := b.a.toNat) (n := b.n.toNat + 1) rfl (congrArg (Value.int .i64) ha) (congrArg (Value.int .i64) hbn) (by omega)) (by kernel_rfl) rfl ?_
      refine y_val (r_conv_i64_u64 Tryz.underlying3 Tryz.underlying22 rfl rfl) (by kernel_rfl) rfl ?_
      refine y_val (r_neqN rfl rfl rfl rfl) (by kernel_rfl) rfl ?_
      refine y_split ?_ ?_
      ·intro hc29
       replace hc29 := of_decide_eq_true hc29
       refine yK ?_
       refine y_end ?_
       intro W hW
       refine n_then ?_
       refine c_true rfl ?_
       refine c_seq (c_reg ?_)
       refine dA hW 1 tyA31 ?_
       refine sA hW 0 tyA31 ?_
       intro W hW
       refine bB ?_
       refine l_end (n_then (c_ret (r_then ?_)))
       refine rT hW 0 tyA31 ?_
       have e1 : stp o f o.length = x.2 := by rw [show o.length = x.1 by omega]; exact hst
       have hv : askW b x.2.1 x.2.2.1 x.2.2.2 = _ := ask_no (.inr (.inr (decide_eq_true (by rw [← ek]; exact hc29))))
       exact ⟨_, _, rfl, ⟨s2, by rw [askd, plays, e1, ← hb1, hv]; rfl, by rw [askd, after_l]; exact hN⟩, hW.drop 2⟩
      ·intro hc29
       replace hc29 := of_decide_eq_false hc29
       refine yK ?_
       refine y_end ?_
       intro W hW
       refine n_then ?_
       refine c_false rfl ?_
       refine c_skip (n_then (c_seq (c_seq (c_reg ?_))))
       refine aI ?_
       refine l_val (r_eqlN (n := 0) rfl rfl rfl rfl) rfl rfl ?_
       refine l_split ?_ ?_
       ·intro hc30
        replace hc30 := of_decide_eq_true hc30
        refine l_end (n_then ?_)
        refine c_true rfl ?_
        refine c_seq (c_reg ?_)
        refine dA hW 1 tyA31 ?_
        refine sA hW 0 tyA31 ?_
        intro W hW
        refine bB ?_
        refine l_end (n_then (c_ret (r_then ?_)))
        refine rT hW 0 tyA31 ?_
        have e1 : stp o f o.length = x.2 := by rw [show o.length = x.1 by omega]; exact hst
        have hneg : ¬ (x.2.1 = 0 ∨ (0 < b.v ∧ b.v < (after b x.2.1 x.2.2.1).x) ∨ noiseB b = true) := by
         rw [← hb1, show noiseB b = false from decide_eq_false (by rw [← ek]; exact hc29)]
         rintro (h | ⟨h1, h2⟩ | h)
         ·omega
         ·omega
         ·cases h
        have hv : askW b x.2.1 x.2.2.1 x.2.2.2 = _ := ask_y0 hneg (by omega)
        exact ⟨_, _, rfl, ⟨s2, by rw [askd, plays, e1, ← hb1, hv]; rfl, by rw [askd, after_l]; exact hN⟩, hW.drop 2⟩
       ·intro hc30
        replace hc30 := of_decide_eq_false hc30
        refine l_end (n_then ?_)
        refine c_false rfl ?_
        refine c_skip (n_then (c_seq (c_seq (c_reg ?_))))
        refine l_val (r_fieldAddr 7 Tryz.underlying31 rfl tyC5.size rfl rfl rfl) rfl rfl ?_
        refine dC hW 1 tyC5 ?_
        refine l_end (n_then (c_block (c_seq (c_reg ?_))))
        refine l_val (r_eql rfl rfl rfl rfl) rfl rfl ?_
        refine l_split ?_ ?_
        ·intro hc31
         replace hc31 := of_decide_eq_true hc31
         refine bB ?_
         refine l_end (n_then ?_)
         refine c_true rfl ?_
         refine c_seq (c_reg ?_)
         refine dA hW 1 tyA31 ?_
         refine aB ?_
         refine sA hW 0 tyA31 ?_
         intro W hW
         refine bB ?_
         refine l_end (n_then (c_ret (r_block (r_then ?_))))
         refine rT hW 0 tyA31 ?_
         have e1 : stp o f o.length = x.2 := by rw [show o.length = x.1 by omega]; exact hst
         have hneg : ¬ (x.2.1 = 0 ∨ (0 < b.v ∧ b.v < (after b x.2.1 x.2.2.1).x) ∨ noiseB b = true) := by
          rw [← hb1, show noiseB b = false from decide_eq_false (by rw [← ek]; exact hc29)]
          rintro (h | ⟨h1, h2⟩ | h)
          ·omega
          ·omega
          ·cases h
         have hv : askW b x.2.1 x.2.2.1 x.2.2.2 = _ := (ask_w hneg (by omega)).trans (play_1 (by omega))
         exact ⟨_, _, rfl, ⟨s2, by rw [askd, plays, e1, ← hb1, hv]; rfl, by rw [askd, after_l]; exact hN⟩, hW.drop 2⟩
        ·intro hc31
         replace hc31 := of_decide_eq_false hc31
         refine bB ?_
         refine l_end (n_then ?_)
         refine c_false rfl ?_
         refine c_seq (c_reg ?_)
         refine l_val (r_eql rfl rfl rfl rfl) rfl rfl ?_
         refine l_split ?_ ?_
         ·intro hc32
          replace hc32 := of_decide_eq_true hc32
          refine bB ?_
          refine l_end (n_then ?_)
          refine c_true rfl ?_
          refine c_seq (c_reg ?_)
          refine dA hW 1 tyA31 ?_
          refine sA hW 0 tyA31 ?_
          intro W hW
          refine bB ?_
          refine l_end (n_then (c_ret (r_block (r_then ?_))))
          refine rT hW 0 tyA31 ?_
          have e1 : stp o f o.length = x.2 := by rw [show o.length = x.1 by omega]; exact hst
          have hneg : ¬ (x.2.1 = 0 ∨ (0 < b.v ∧ b.v < (after b x.2.1 x.2.2.1).x) ∨ noiseB b = true) := by
           rw [← hb1, show noiseB b = false from decide_eq_false (by rw [← ek]; exact hc29)]
           rintro (h | ⟨h1, h2⟩ | h)
           ·omega
           ·omega
           ·cases h
          have hv : askW b x.2.1 x.2.2.1 x.2.2.2 = _ := (ask_w hneg (by omega)).trans (play_3 (by omega))
          exact ⟨_, _, rfl, ⟨s2, by rw [askd, plays, e1, ← hb1, hv]; rfl, by rw [askd, after_l]; exact hN⟩, hW.drop 2⟩
         ·intro hc32
          replace hc32 := of_decide_eq_false hc32
          refine bB ?_
          refine l_end (n_then ?_)
          refine c_false rfl ?_
          refine c_seq (c_reg ?_)
          refine l_val (r_eql rfl rfl rfl rfl) rfl rfl ?_
          refine l_split ?_ ?_
          ·intro hc33
           replace hc33 := of_decide_eq_true hc33
           refine bB ?_
           refine l_end (n_then ?_)
           refine c_true rfl ?_
           refine c_seq ?_
           refine c_regY hW [0] [.q, .q, .q, .q, .q, .q, .q, .q, .q, .q, .q, .s, .q] [0, 0, 2, 0, 8, 24, 0, 120, 248, 510, 1022, 1023, 4095] (by kernel_rfl) (by kernel_rfl) ?_
           refine y_loadA 1 tyA31 rfl rfl rfl rfl rfl (by first | rfl | exact kc_len _ | exact kcf_len _ | exact boC_len _ _ | (simp; done)) (by decide) ?_
           refine y_val (r_fieldAddr 10 Tryz.underlying31 rfl tyA29.size rfl rfl rfl) rfl rfl ?_
           refine y_loadP 1 tyA29 (by kernel_rfl) rfl rfl rfl rfl (by rw [boC_len]; decide) (boC_key _ _) (by decide) ?_
           refine yI ?_
           refine y_val (r_mulN (m := 64) rfl rfl rfl (by omega)) rfl rfl ?_
           refine y_val (r_addN (m := 4294967296) rfl rfl rfl (by omega)) rfl rfl ?_
           refine yI ?_
           refine y_val (r_addN rfl rfl rfl (by omega)) rfl rfl ?_
           refine y_val (r_conv_i64_u64 Tryz.underlying3 Tryz.underlying22 rfl rfl) rfl rfl ?_
           refine y_call (g_rNumber b1.k (BitVec.ofNat 64 (4294967296 + 64 * x.2.2.1 + x.2.1)) 2#64) en181 rfl rfl rfl rfl ?_
           refine y_val (r_eql_u64 (y := 1#64) rfl rfl rfl rfl) rfl rfl ?_
           refine y_storeA 0 tyA31 rfl rfl rfl rfl rfl rfl (by first | rfl | exact kc_len _ | exact kcf_len _ | exact boC_len _ _ | (simp; done)) (by first | rfl | exact kc_len _ | exact kcf_len _ | exact boC_len _ _ | (simp; done)) (by first | exact kc_one _ | exact kcf_one _ | exact boC_one _ _ | (simp [Value.oneCell']; done)) (by decide) ?_
           refine y_val (r_assign (v := .bool _) rfl rfl) rfl rfl ?_
           refine y_end ?_
           intro W hW
           refine n_then (c_ret (r_block (r_then ?_)))
           refine rT hW 0 tyA31 ?_
           have e1 : stp o f o.length = x.2 := by rw [show o.length = x.1 by omega]; exact hst
           have hneg : ¬ (x.2.1 = 0 ∨ (0 < b.v ∧ b.v < (after b x.2.1 x.2.2.1).x) ∨ noiseB b = true) := by
            rw [← hb1, show noiseB b = false from decide_eq_false (by rw [← ek]; exact hc29)]
            rintro (h | ⟨h1, h2⟩ | h)
            ·omega
            ·omega
            ·cases h
           have hv : askW b x.2.1 x.2.2.1 x.2.2.2 = _ := (ask_w hneg (by omega)).trans (play_4 (by omega))
           exact ⟨_, _, rfl, ⟨s2, by rw [askd, plays, e1, ← hb1, hv]; rw [oddB, ← ek]; rfl, by rw [askd, after_l]; exact hN⟩, hW.drop 2⟩
          ·intro hc33
           replace hc33 := of_decide_eq_false hc33
           refine bB ?_
           refine l_end (n_then ?_)
           refine c_false rfl ?_
           refine c_skip (n_block (n_then (c_seq (c_reg ?_))))
           refine dA hW 1 tyA31 ?_
           refine sA hW 0 tyA31 ?_
           intro W hW
           refine bB ?_
           refine l_end (n_then (c_ret ?_))
           refine rT hW 0 tyA31 ?_
           have e1 : stp o f o.length = x.2 := by rw [show o.length = x.1 by omega]; exact hst
           have hneg : ¬ (x.2.1 = 0 ∨ (0 < b.v ∧ b.v < (after b x.2.1 x.2.2.1).x) ∨ noiseB b = true) := by
            rw [← hb1, show noiseB b = false from decide_eq_false (by rw [← ek]; exact hc29)]
            rintro (h | ⟨h1, h2⟩ | h)
            ·omega
            ·omega
            ·cases h
           have hv : askW b x.2.1 x.2.2.1 x.2.2.2 = _ := (ask_w hneg (by omega)).trans (play_2 (by omega) (by omega) (by omega))
           exact ⟨_, _, rfl, ⟨s2, by rw [askd, plays, e1, ← hb1, hv]; rfl, by rw [askd, after_l]; exact hN⟩, hW.drop 2⟩
  ·intro hc6
   replace hc6 := of_decide_eq_false hc6
   refine aB ?_
   refine lN ?_
   refine lN ?_
   refine kB ?_
   refine l_end (n_then ?_)
   refine c_false rfl ?_
   refine c_skip (n_then (c_seq (c_reg ?_)))
   have hax := after_n (b := b) (r := x.2.1) (w := x.2.2.1) (by omega)
   obtain ⟨b1, hb1⟩ : ∃ b1, b1 = after b x.2.1 x.2.2.1 := ⟨_, rfl⟩
   have es : b1 = { b with a := b.a + 1 } := hb1.trans hax
   have ev : b1.v = b.v := by rw [es]
   have en : b1.n = b.n := by rw [es]
   have em : b1.m = b.m := by rw [es]
   have ek : b1.k = b.k := by rw [es]
   have ex : b1.x = b.x := by rw [es]
   rw [← es] at hW
   have hbn : b1.n + 1 = ((b.n.toNat + 1 : Nat) : Int) := by omega
   refine l_val (r_fieldAddr 8 Tryz.underlying31 rfl tyC3.size rfl rfl rfl) rfl rfl ?_
   refine dC hW 1 tyC3 ?_
   refine l_val (r_addZ rfl rfl rfl (by omega)) rfl rfl ?_
   refine bI ?_
   refine l_end (n_then (c_seq (c_seq ?_)))
   refine c_regY hW [] [.q, .q, .q, .q, .q, .q, .q, .q, .q, .q, .q, .q, .q, .q, .q, .q, .q, .q, .q, .q, .q, .q, .q, .q, .q, .q, .q, .q, .q, .q] [0, 1, 3, 7, 15, 31, 63, 127, 255, 127, 639, 2047, 4095, 8191, 16383, 32767, 65535, 32767, 32767, 425983, 950271, 32767, 2129919, 8388607, 32767, 32767, 50364415, 117473279, 268435455, 536870911] (by kernel_rfl) (by kernel_rfl) ?_
   refine yI ?_
   refine y_val (r_eqlN (n := 0) rfl rfl rfl rfl) rfl rfl ?_
   refine y_split ?_ ?_
   ·intro hc34
    replace hc34 := of_decide_eq_true hc34
    refine yB ?_
    refine yN ?_
    refine yN ?_
    refine yN ?_
    refine yN ?_
    refine yN ?_
    refine yN ?_
    refine yN ?_
    refine yN ?_
    refine yN ?_
    refine yN ?_
    refine yK ?_
    refine yB ?_
    refine yN ?_
    refine yN ?_
    refine yN ?_
    refine yN ?_
    refine yN ?_
    refine yN ?_
    refine yN ?_
    refine yN ?_
    refine yN ?_
    refine yN ?_
    refine yN ?_
    refine yN ?_
    refine yN ?_
    refine yN ?_
    refine yK ?_
    refine y_end ?_
    intro W hW
    refine n_then ?_
    refine c_true rfl ?_
    refine c_seq (c_reg ?_)
    refine dA hW 1 tyA31 ?_
    refine sA hW 0 tyA31 ?_
    intro W hW
    refine bB ?_
    refine l_end (n_then (c_ret (r_then ?_)))
    refine rT hW 0 tyA31 ?_
    have e1 : stp o f o.length = x.2 := by rw [show o.length = x.1 by omega]; exact hst
    have hv : askW b x.2.1 x.2.2.1 x.2.2.2 = _ := ask_no (by rw [← hb1]; omega)
    exact ⟨_, _, rfl, ⟨s2, by rw [askd, plays, e1, ← hb1, hv]; rfl, by rw [askd, after_l]; exact hN⟩, hW.drop 2⟩
   ·intro hc34
    replace hc34 := of_decide_eq_false hc34
    refine yB ?_
    refine y_val (r_fieldAddr 9 Tryz.underlying31 rfl tyC3.size rfl rfl rfl) (by kernel_rfl) rfl ?_
    refine y_loadC 1 tyC3 (by kernel_rfl) rfl rfl rfl rfl rfl (by decide) ?_
    refine y_val (r_gtr rfl rfl rfl rfl) (by kernel_rfl) rfl ?_
    refine y_split ?_ ?_
    ·intro hc35
     replace hc35 := of_decide_eq_true hc35
     refine y_val (r_move (v := .bool _) rfl rfl) (by kernel_rfl) rfl ?_
     refine y_val (r_fieldAddr 27 Tryz.underlying31 rfl tyC3.size rfl rfl rfl) (by kernel_rfl) rfl ?_
     refine y_loadC 1 tyC3 (by kernel_rfl) rfl rfl rfl rfl rfl (by decide) ?_
     refine y_val (r_fieldAddr 9 Tryz.underlying31 rfl tyC3.size rfl rfl rfl) (by kernel_rfl) rfl ?_
     refine y_loadC 1 tyC3 (by kernel_rfl) rfl rfl rfl rfl rfl (by decide) ?_
     refine y_val (r_gtr rfl rfl rfl rfl) (by kernel_rfl) rfl ?_
     refine y_split ?_ ?_
     ·intro hc36
      replace hc36 := of_decide_eq_true hc36
      refine y_val (r_pick (v := .bool _) rfl rfl rfl) (by kernel_rfl) rfl ?_
      refine yK ?_
      refine yB ?_
      refine yN ?_
      refine yN ?_
      refine yN ?_
      refine yN ?_
      refine yN ?_
      refine yN ?_
      refine yN ?_
      refine yN ?_
      refine yN ?_
      refine yN ?_
      refine yN ?_
      refine yN ?_
      refine yN ?_
      refine yN ?_
      refine yK ?_
      refine y_end ?_
      intro W hW
      refine n_then ?_
      refine c_true rfl ?_
      refine c_seq (c_reg ?_)
      refine dA hW 1 tyA31 ?_
      refine sA hW 0 tyA31 ?_
      intro W hW
      refine bB ?_
      refine l_end (n_then (c_ret (r_then ?_)))
      refine rT hW 0 tyA31 ?_
      have e1 : stp o f o.length = x.2 := by rw [show o.length = x.1 by omega]; exact hst
      have hv : askW b x.2.1 x.2.2.1 x.2.2.2 = _ := ask_no (by rw [← hb1]; omega)
      exact ⟨_, _, rfl, ⟨s2, by rw [askd, plays, e1, ← hb1, hv]; rfl, by rw [askd, after_l]; exact hN⟩, hW.drop 2⟩
     ·intro hc36
      replace hc36 := of_decide_eq_false hc36
      refine y_val (r_pick (v := .bool _) rfl rfl rfl) (by kernel_rfl) rfl ?_
      refine yK ?_
      refine yB ?_
      refine y_val (r_fieldAddr 10 Tryz.underlying31 rfl tyA29.size rfl rfl rfl) (by kernel_rfl) rfl ?_
      refine y_loadP 1 tyA29 (by kernel_rfl) rfl rfl rfl rfl (by rw [boC_len]; decide) (boC_key _ _) (by decide) ?_
      refine y_val (r_move (v := .int _ _) rfl rfl) (by kernel_rfl) rfl ?_
      refine y_val (r_move (v := .int _ _) rfl rfl) (by kernel_rfl) rfl ?_
      refine y_val (r_quoN (m := b.a.toNat) (n := b.n.toNat + 1) rfl (congrArg (Value.int .i64) ha) (congrArg (Value.int .i64) hbn) (by omega) (by omega)) (by kernel_rfl) rfl ?_
      refine y_val (r_conv_i64_u64 Tryz.underlying3 Tryz.underlying22 rfl rfl) (by kernel_rfl) rfl ?_
      refine y_val (r_move (v := .int _ _) rfl rfl) (by kernel_rfl) rfl ?_
      refine y_val (r_conv_i64_u64 (n := b.n.toNat + 1) Tryz.underlying3 Tryz.underlying22 rfl (congrArg (Value.int .i64) hbn)) (by kernel_rfl) rfl ?_
      refine y_call (g_rNumber _ _ _) en181 (by kernel_rfl) rfl rfl rfl ?_
      refine y_val (r_move (v := .int _ _) rfl rfl) (by kernel_rfl) rfl ?_
      refine y_val (r_move (v := .int _ _) rfl rfl) (by kernel_rfl) rfl ?_
      refine y_val (r_remN (m := b.a.toNat) (n := b.n.toNat + 1) rfl (congrArg (Value.int .i64) ha) (congrArg (Value.int .i64) hbn) (by omega)) (by kernel_rfl) rfl ?_
      refine y_val (r_conv_i64_u64 Tryz.underlying3 Tryz.underlying22 rfl rfl) (by kernel_rfl) rfl ?_
      refine y_val (r_neqN rfl rfl rfl rfl) (by kernel_rfl) rfl ?_
      refine y_split ?_ ?_
      ·intro hc37
       replace hc37 := of_decide_eq_true hc37
       refine yK ?_
       refine y_end ?_
       intro W hW
       refine n_then ?_
       refine c_true rfl ?_
       refine c_seq (c_reg ?_)
       refine dA hW 1 tyA31 ?_
       refine sA hW 0 tyA31 ?_
       intro W hW
       refine bB ?_
       refine l_end (n_then (c_ret (r_then ?_)))
       refine rT hW 0 tyA31 ?_
       have e1 : stp o f o.length = x.2 := by rw [show o.length = x.1 by omega]; exact hst
       have hv : askW b x.2.1 x.2.2.1 x.2.2.2 = _ := ask_no (.inr (.inr (decide_eq_true (by rw [← ek]; exact hc37))))
       exact ⟨_, _, rfl, ⟨s2, by rw [askd, plays, e1, ← hb1, hv]; rfl, by rw [askd, after_l]; exact hN⟩, hW.drop 2⟩
      ·intro hc37
       replace hc37 := of_decide_eq_false hc37
       refine yK ?_
       refine y_end ?_
       intro W hW
       refine n_then ?_
       refine c_false rfl ?_
       refine c_skip (n_then (c_seq (c_seq (c_reg ?_))))
       refine aI ?_
       refine l_val (r_eqlN (n := 0) rfl rfl rfl rfl) rfl rfl ?_
       refine l_split ?_ ?_
       ·intro hc38
        replace hc38 := of_decide_eq_true hc38
        refine l_end (n_then ?_)
        refine c_true rfl ?_
        refine c_seq (c_reg ?_)
        refine dA hW 1 tyA31 ?_
        refine sA hW 0 tyA31 ?_
        intro W hW
        refine bB ?_
        refine l_end (n_then (c_ret (r_then ?_)))
        refine rT hW 0 tyA31 ?_
        have e1 : stp o f o.length = x.2 := by rw [show o.length = x.1 by omega]; exact hst
        have hneg : ¬ (x.2.1 = 0 ∨ (0 < b.v ∧ b.v < (after b x.2.1 x.2.2.1).x) ∨ noiseB b = true) := by
         rw [← hb1, show noiseB b = false from decide_eq_false (by rw [← ek]; exact hc37)]
         rintro (h | ⟨h1, h2⟩ | h)
         ·omega
         ·omega
         ·cases h
        have hv : askW b x.2.1 x.2.2.1 x.2.2.2 = _ := ask_y0 hneg (by omega)
        exact ⟨_, _, rfl, ⟨s2, by rw [askd, plays, e1, ← hb1, hv]; rfl, by rw [askd, after_l]; exact hN⟩, hW.drop 2⟩
       ·intro hc38
        replace hc38 := of_decide_eq_false hc38
        refine l_end (n_then ?_)
        refine c_false rfl ?_
        refine c_skip (n_then (c_seq (c_seq (c_reg ?_))))
        refine l_val (r_fieldAddr 7 Tryz.underlying31 rfl tyC5.size rfl rfl rfl) rfl rfl ?_
        refine dC hW 1 tyC5 ?_
        refine l_end (n_then (c_block (c_seq (c_reg ?_))))
        refine l_val (r_eql rfl rfl rfl rfl) rfl rfl ?_
        refine l_split ?_ ?_
        ·intro hc39
         replace hc39 := of_decide_eq_true hc39
         refine bB ?_
         refine l_end (n_then ?_)
         refine c_true rfl ?_
         refine c_seq (c_reg ?_)
         refine dA hW 1 tyA31 ?_
         refine aB ?_
         refine sA hW 0 tyA31 ?_
         intro W hW
         refine bB ?_
         refine l_end (n_then (c_ret (r_block (r_then ?_))))
         refine rT hW 0 tyA31 ?_
         have e1 : stp o f o.length = x.2 := by rw [show o.length = x.1 by omega]; exact hst
         have hneg : ¬ (x.2.1 = 0 ∨ (0 < b.v ∧ b.v < (after b x.2.1 x.2.2.1).x) ∨ noiseB b = true) := by
          rw [← hb1, show noiseB b = false from decide_eq_false (by rw [← ek]; exact hc37)]
          rintro (h | ⟨h1, h2⟩ | h)
          ·omega
          ·omega
          ·cases h
         have hv : askW b x.2.1 x.2.2.1 x.2.2.2 = _ := (ask_w hneg (by omega)).trans (play_1 (by omega))
         exact ⟨_, _, rfl, ⟨s2, by rw [askd, plays, e1, ← hb1, hv]; rfl, by rw [askd, after_l]; exact hN⟩, hW.drop 2⟩
        ·intro hc39
         replace hc39 := of_decide_eq_false hc39
         refine bB ?_
         refine l_end (n_then ?_)
         refine c_false rfl ?_
         refine c_seq (c_reg ?_)
         refine l_val (r_eql rfl rfl rfl rfl) rfl rfl ?_
         refine l_split ?_ ?_
         ·intro hc40
          replace hc40 := of_decide_eq_true hc40
          refine bB ?_
          refine l_end (n_then ?_)
          refine c_true rfl ?_
          refine c_seq (c_reg ?_)
          refine dA hW 1 tyA31 ?_
          refine sA hW 0 tyA31 ?_
          intro W hW
          refine bB ?_
          refine l_end (n_then (c_ret (r_block (r_then ?_))))
          refine rT hW 0 tyA31 ?_
          have e1 : stp o f o.length = x.2 := by rw [show o.length = x.1 by omega]; exact hst
          have hneg : ¬ (x.2.1 = 0 ∨ (0 < b.v ∧ b.v < (after b x.2.1 x.2.2.1).x) ∨ noiseB b = true) := by
           rw [← hb1, show noiseB b = false from decide_eq_false (by rw [← ek]; exact hc37)]
           rintro (h | ⟨h1, h2⟩ | h)
           ·omega
           ·omega
           ·cases h
          have hv : askW b x.2.1 x.2.2.1 x.2.2.2 = _ := (ask_w hneg (by omega)).trans (play_3 (by omega))
          exact ⟨_, _, rfl, ⟨s2, by rw [askd, plays, e1, ← hb1, hv]; rfl, by rw [askd, after_l]; exact hN⟩, hW.drop 2⟩
         ·intro hc40
          replace hc40 := of_decide_eq_false hc40
          refine bB ?_
          refine l_end (n_then ?_)
          refine c_false rfl ?_
          refine c_seq (c_reg ?_)
          refine l_val (r_eql rfl rfl rfl rfl) rfl rfl ?_
          refine l_split ?_ ?_
          ·intro hc41
           replace hc41 := of_decide_eq_true hc41
           refine bB ?_
           refine l_end (n_then ?_)
           refine c_true rfl ?_
           refine c_seq ?_
           refine c_regY hW [0] [.q, .q, .q, .q, .q, .q, .q, .q, .q, .q, .q, .s, .q] [0, 0, 2, 0, 8, 24, 0, 120, 248, 510, 1022, 1023, 4095] (by kernel_rfl) (by kernel_rfl) ?_
           refine y_loadA 1 tyA31 rfl rfl rfl rfl rfl (by first | rfl | exact kc_len _ | exact kcf_len _ | exact boC_len _ _ | (simp; done)) (by decide) ?_
           refine y_val (r_fieldAddr 10 Tryz.underlying31 rfl tyA29.size rfl rfl rfl) rfl rfl ?_
           refine y_loadP 1 tyA29 (by kernel_rfl) rfl rfl rfl rfl (by rw [boC_len]; decide) (boC_key _ _) (by decide) ?_
           refine yI ?_
           refine y_val (r_mulN (m := 64) rfl rfl rfl (by omega)) rfl rfl ?_
           refine y_val (r_addN (m := 4294967296) rfl rfl rfl (by omega)) rfl rfl ?_
           refine yI ?_
           refine y_val (r_addN rfl rfl rfl (by omega)) rfl rfl ?_
           refine y_val (r_conv_i64_u64 Tryz.underlying3 Tryz.underlying22 rfl rfl) rfl rfl ?_
           refine y_call (g_rNumber b1.k (BitVec.ofNat 64 (4294967296 + 64 * x.2.2.1 + x.2.1)) 2#64) en181 rfl rfl rfl rfl ?_
           refine y_val (r_eql_u64 (y := 1#64) rfl rfl rfl rfl) rfl rfl ?_
           refine y_storeA 0 tyA31 rfl rfl rfl rfl rfl rfl (by first | rfl | exact kc_len _ | exact kcf_len _ | exact boC_len _ _ | (simp; done)) (by first | rfl | exact kc_len _ | exact kcf_len _ | exact boC_len _ _ | (simp; done)) (by first | exact kc_one _ | exact kcf_one _ | exact boC_one _ _ | (simp [Value.oneCell']; done)) (by decide) ?_
           refine y_val (r_assign (v := .bool _) rfl rfl) rfl rfl ?_
           refine y_end ?_
           intro W hW
           refine n_then (c_ret (r_block (r_then ?_)))
           refine rT hW 0 tyA31 ?_
           have e1 : stp o f o.length = x.2 := by rw [show o.length = x.1 by omega]; exact hst
           have hneg : ¬ (x.2.1 = 0 ∨ (0 < b.v ∧ b.v < (after b x.2.1 x.2.2.1).x) ∨ noiseB b = true) := by
            rw [← hb1, show noiseB b = false from decide_eq_false (by rw [← ek]; exact hc37)]
            rintro (h | ⟨h1, h2⟩ | h)
            ·omega
            ·omega
            ·cases h
           have hv : askW b x.2.1 x.2.2.1 x.2.2.2 = _ := (ask_w hneg (by omega)).trans (play_4 (by omega))
           exact ⟨_, _, rfl, ⟨s2, by rw [askd, plays, e1, ← hb1, hv]; rw [oddB, ← ek]; rfl, by rw [askd, after_l]; exact hN⟩, hW.drop 2⟩
          ·intro hc41
           replace hc41 := of_decide_eq_false hc41
           refine bB ?_
           refine l_end (n_then ?_)
           refine c_false rfl ?_
           refine c_skip (n_block (n_then (c_seq (c_reg ?_))))
           refine dA hW 1 tyA31 ?_
           refine sA hW 0 tyA31 ?_
           intro W hW
           refine bB ?_
           refine l_end (n_then (c_ret ?_))
           refine rT hW 0 tyA31 ?_
           have e1 : stp o f o.length = x.2 := by rw [show o.length = x.1 by omega]; exact hst
           have hneg : ¬ (x.2.1 = 0 ∨ (0 < b.v ∧ b.v < (after b x.2.1 x.2.2.1).x) ∨ noiseB b = true) := by
            rw [← hb1, show noiseB b = false from decide_eq_false (by rw [← ek]; exact hc37)]
            rintro (h | ⟨h1, h2⟩ | h)
            ·omega
            ·omega
            ·cases h
           have hv : askW b x.2.1 x.2.2.1 x.2.2.2 = _ := (ask_w hneg (by omega)).trans (play_2 (by omega) (by omega) (by omega))
           exact ⟨_, _, rfl, ⟨s2, by rw [askd, plays, e1, ← hb1, hv]; rfl, by rw [askd, after_l]; exact hN⟩, hW.drop 2⟩
    ·intro hc35
     replace hc35 := of_decide_eq_false hc35
     refine y_val (r_move (v := .bool _) rfl rfl) (by kernel_rfl) rfl ?_
     refine yN ?_
     refine yN ?_
     refine yN ?_
     refine yN ?_
     refine yN ?_
     refine y_val (r_pick (v := .bool _) rfl rfl rfl) (by kernel_rfl) rfl ?_
     refine yK ?_
     refine yB ?_
     refine y_val (r_fieldAddr 10 Tryz.underlying31 rfl tyA29.size rfl rfl rfl) (by kernel_rfl) rfl ?_
     refine y_loadP 1 tyA29 (by kernel_rfl) rfl rfl rfl rfl (by rw [boC_len]; decide) (boC_key _ _) (by decide) ?_
     refine y_val (r_move (v := .int _ _) rfl rfl) (by kernel_rfl) rfl ?_
     refine y_val (r_move (v := .int _ _) rfl rfl) (by kernel_rfl) rfl ?_
     refine y_val (r_quoN (m := b.a.toNat) (n := b.n.toNat + 1) rfl (congrArg (Value.int .i64) ha) (congrArg (Value.int .i64) hbn) (by omega) (by omega)) (by kernel_rfl) rfl ?_
     refine y_val (r_conv_i64_u64 Tryz.underlying3 Tryz.underlying22 rfl rfl) (by kernel_rfl) rfl ?_
     refine y_val (r_move (v := .int _ _) rfl rfl) (by kernel_rfl) rfl ?_
     refine y_val (r_conv_i64_u64 (n := b.n.toNat + 1) Tryz.underlying3 Tryz.underlying22 rfl (congrArg (Value.int .i64) hbn)) (by kernel_rfl) rfl ?_
     refine y_call (g_rNumber _ _ _) en181 (by kernel_rfl) rfl rfl rfl ?_
     refine y_val (r_move (v := .int _ _) rfl rfl) (by kernel_rfl) rfl ?_
     refine y_val (r_move (v := .int _ _) rfl rfl) (by kernel_rfl) rfl ?_
     refine y_val (r_remN (m := b.a.toNat) (n := b.n.toNat + 1) rfl (congrArg (Value.int .i64) ha) (congrArg (Value.int .i64) hbn) (by omega)) (by kernel_rfl) rfl ?_
     refine y_val (r_conv_i64_u64 Tryz.underlying3 Tryz.underlying22 rfl rfl) (by kernel_rfl) rfl ?_
     refine y_val (r_neqN rfl rfl rfl rfl) (by kernel_rfl) rfl ?_
     refine y_split ?_ ?_
     ·intro hc42
      replace hc42 := of_decide_eq_true hc42
      refine yK ?_
      refine y_end ?_
      intro W hW
      refine n_then ?_
      refine c_true rfl ?_
      refine c_seq (c_reg ?_)
      refine dA hW 1 tyA31 ?_
      refine sA hW 0 tyA31 ?_
      intro W hW
      refine bB ?_
      refine l_end (n_then (c_ret (r_then ?_)))
      refine rT hW 0 tyA31 ?_
      have e1 : stp o f o.length = x.2 := by rw [show o.length = x.1 by omega]; exact hst
      have hv : askW b x.2.1 x.2.2.1 x.2.2.2 = _ := ask_no (.inr (.inr (decide_eq_true (by rw [← ek]; exact hc42))))
      exact ⟨_, _, rfl, ⟨s2, by rw [askd, plays, e1, ← hb1, hv]; rfl, by rw [askd, after_l]; exact hN⟩, hW.drop 2⟩
     ·intro hc42
      replace hc42 := of_decide_eq_false hc42
      refine yK ?_
      refine y_end ?_
      intro W hW
      refine n_then ?_
      refine c_false rfl ?_
      refine c_skip (n_then (c_seq (c_seq (c_reg ?_))))
      refine aI ?_
      refine l_val (r_eqlN (n := 0) rfl rfl rfl rfl) rfl rfl ?_
      refine l_split ?_ ?_
      ·intro hc43
       replace hc43 := of_decide_eq_true hc43
       refine l_end (n_then ?_)
       refine c_true rfl ?_
       refine c_seq (c_reg ?_)
       refine dA hW 1 tyA31 ?_
       refine sA hW 0 tyA31 ?_
       intro W hW
       refine bB ?_
       refine l_end (n_then (c_ret (r_then ?_)))
       refine rT hW 0 tyA31 ?_
       have e1 : stp o f o.length = x.2 := by rw [show o.length = x.1 by omega]; exact hst
       have hneg : ¬ (x.2.1 = 0 ∨ (0 < b.v ∧ b.v < (after b x.2.1 x.2.2.1).x) ∨ noiseB b = true) := by
        rw [← hb1, show noiseB b = false from decide_eq_false (by rw [← ek]; exact hc42)]
        rintro (h | ⟨h1, h2⟩ | h)
        ·omega
        ·omega
        ·cases h
       have hv : askW b x.2.1 x.2.2.1 x.2.2.2 = _ := ask_y0 hneg (by omega)
       exact ⟨_, _, rfl, ⟨s2, by rw [askd, plays, e1, ← hb1, hv]; rfl, by rw [askd, after_l]; exact hN⟩, hW.drop 2⟩
      ·intro hc43
       replace hc43 := of_decide_eq_false hc43
       refine l_end (n_then ?_)
       refine c_false rfl ?_
       refine c_skip (n_then (c_seq (c_seq (c_reg ?_))))
       refine l_val (r_fieldAddr 7 Tryz.underlying31 rfl tyC5.size rfl rfl rfl) rfl rfl ?_
       refine dC hW 1 tyC5 ?_
       refine l_end (n_then (c_block (c_seq (c_reg ?_))))
       refine l_val (r_eql rfl rfl rfl rfl) rfl rfl ?_
       refine l_split ?_ ?_
       ·intro hc44
        replace hc44 := of_decide_eq_true hc44
        refine bB ?_
        refine l_end (n_then ?_)
        refine c_true rfl ?_
        refine c_seq (c_reg ?_)
        refine dA hW 1 tyA31 ?_
        refine aB ?_
        refine sA hW 0 tyA31 ?_
        intro W hW
        refine bB ?_
        refine l_end (n_then (c_ret (r_block (r_then ?_))))
        refine rT hW 0 tyA31 ?_
        have e1 : stp o f o.length = x.2 := by rw [show o.length = x.1 by omega]; exact hst
        have hneg : ¬ (x.2.1 = 0 ∨ (0 < b.v ∧ b.v < (after b x.2.1 x.2.2.1).x) ∨ noiseB b = true) := by
         rw [← hb1, show noiseB b = false from decide_eq_false (by rw [← ek]; exact hc42)]
         rintro (h | ⟨h1, h2⟩ | h)
         ·omega
         ·omega
         ·cases h
        have hv : askW b x.2.1 x.2.2.1 x.2.2.2 = _ := (ask_w hneg (by omega)).trans (play_1 (by omega))
        exact ⟨_, _, rfl, ⟨s2, by rw [askd, plays, e1, ← hb1, hv]; rfl, by rw [askd, after_l]; exact hN⟩, hW.drop 2⟩
       ·intro hc44
        replace hc44 := of_decide_eq_false hc44
        refine bB ?_
        refine l_end (n_then ?_)
        refine c_false rfl ?_
        refine c_seq (c_reg ?_)
        refine l_val (r_eql rfl rfl rfl rfl) rfl rfl ?_
        refine l_split ?_ ?_
        ·intro hc45
         replace hc45 := of_decide_eq_true hc45
         refine bB ?_
         refine l_end (n_then ?_)
         refine c_true rfl ?_
         refine c_seq (c_reg ?_)
         refine dA hW 1 tyA31 ?_
         refine sA hW 0 tyA31 ?_
         intro W hW
         refine bB ?_
         refine l_end (n_then (c_ret (r_block (r_then ?_))))
         refine rT hW 0 tyA31 ?_
         have e1 : stp o f o.length = x.2 := by rw [show o.length = x.1 by omega]; exact hst
         have hneg : ¬ (x.2.1 = 0 ∨ (0 < b.v ∧ b.v < (after b x.2.1 x.2.2.1).x) ∨ noiseB b = true) := by
          rw [← hb1, show noiseB b = false from decide_eq_false (by rw [← ek]; exact hc42)]
          rintro (h | ⟨h1, h2⟩ | h)
          ·omega
          ·omega
          ·cases h
         have hv : askW b x.2.1 x.2.2.1 x.2.2.2 = _ := (ask_w hneg (by omega)).trans (play_3 (by omega))
         exact ⟨_, _, rfl, ⟨s2, by rw [askd, plays, e1, ← hb1, hv]; rfl, by rw [askd, after_l]; exact hN⟩, hW.drop 2⟩
        ·intro hc45
         replace hc45 := of_decide_eq_false hc45
         refine bB ?_
         refine l_end (n_then ?_)
         refine c_false rfl ?_
         refine c_seq (c_reg ?_)
         refine l_val (r_eql rfl rfl rfl rfl) rfl rfl ?_
         refine l_split ?_ ?_
         ·intro hc46
          replace hc46 := of_decide_eq_true hc46
          refine bB ?_
          refine l_end (n_then ?_)
          refine c_true rfl ?_
          refine c_seq ?_
          refine c_regY hW [0] [.q, .q, .q, .q, .q, .q, .q, .q, .q, .q, .q, .s, .q] [0, 0, 2, 0, 8, 24, 0, 120, 248, 510, 1022, 1023, 4095] (by kernel_rfl) (by kernel_rfl) ?_
          refine y_loadA 1 tyA31 rfl rfl rfl rfl rfl (by first | rfl | exact kc_len _ | exact kcf_len _ | exact boC_len _ _ | (simp; done)) (by decide) ?_
          refine y_val (r_fieldAddr 10 Tryz.underlying31 rfl tyA29.size rfl rfl rfl) rfl rfl ?_
          refine y_loadP 1 tyA29 (by kernel_rfl) rfl rfl rfl rfl (by rw [boC_len]; decide) (boC_key _ _) (by decide) ?_
          refine yI ?_
          refine y_val (r_mulN (m := 64) rfl rfl rfl (by omega)) rfl rfl ?_
          refine y_val (r_addN (m := 4294967296) rfl rfl rfl (by omega)) rfl rfl ?_
          refine yI ?_
          refine y_val (r_addN rfl rfl rfl (by omega)) rfl rfl ?_
          refine y_val (r_conv_i64_u64 Tryz.underlying3 Tryz.underlying22 rfl rfl) rfl rfl ?_
          refine y_call (g_rNumber b1.k (BitVec.ofNat 64 (4294967296 + 64 * x.2.2.1 + x.2.1)) 2#64) en181 rfl rfl rfl rfl ?_
          refine y_val (r_eql_u64 (y := 1#64) rfl rfl rfl rfl) rfl rfl ?_
          refine y_storeA 0 tyA31 rfl rfl rfl rfl rfl rfl (by first | rfl | exact kc_len _ | exact kcf_len _ | exact boC_len _ _ | (simp; done)) (by first | rfl | exact kc_len _ | exact kcf_len _ | exact boC_len _ _ | (simp; done)) (by first | exact kc_one _ | exact kcf_one _ | exact boC_one _ _ | (simp [Value.oneCell']; done)) (by decide) ?_
          refine y_val (r_assign (v := .bool _) rfl rfl) rfl rfl ?_
          refine y_end ?_
          intro W hW
          refine n_then (c_ret (r_block (r_then ?_)))
          refine rT hW 0 tyA31 ?_
          have e1 : stp o f o.length = x.2 := by rw [show o.length = x.1 by omega]; exact hst
          have hneg : ¬ (x.2.1 = 0 ∨ (0 < b.v ∧ b.v < (after b x.2.1 x.2.2.1).x) ∨ noiseB b = true) := by
           rw [← hb1, show noiseB b = false from decide_eq_false (by rw [← ek]; exact hc42)]
           rintro (h | ⟨h1, h2⟩ | h)
           ·omega
           ·omega
           ·cases h
          have hv : askW b x.2.1 x.2.2.1 x.2.2.2 = _ := (ask_w hneg (by omega)).trans (play_4 (by omega))
          exact ⟨_, _, rfl, ⟨s2, by rw [askd, plays, e1, ← hb1, hv]; rw [oddB, ← ek]; rfl, by rw [askd, after_l]; exact hN⟩, hW.drop 2⟩
         ·intro hc46
          replace hc46 := of_decide_eq_false hc46
          refine bB ?_
          refine l_end (n_then ?_)
          refine c_false rfl ?_
          refine c_skip (n_block (n_then (c_seq (c_reg ?_))))
          refine dA hW 1 tyA31 ?_
          refine sA hW 0 tyA31 ?_
          intro W hW
          refine bB ?_
          refine l_end (n_then (c_ret ?_))
          refine rT hW 0 tyA31 ?_
          have e1 : stp o f o.length = x.2 := by rw [show o.length = x.1 by omega]; exact hst
          have hneg : ¬ (x.2.1 = 0 ∨ (0 < b.v ∧ b.v < (after b x.2.1 x.2.2.1).x) ∨ noiseB b = true) := by
           rw [← hb1, show noiseB b = false from decide_eq_false (by rw [← ek]; exact hc42)]
           rintro (h | ⟨h1, h2⟩ | h)
           ·omega
           ·omega
           ·cases h
          have hv : askW b x.2.1 x.2.2.1 x.2.2.2 = _ := (ask_w hneg (by omega)).trans (play_2 (by omega) (by omega) (by omega))
          exact ⟨_, _, rfl, ⟨s2, by rw [askd, plays, e1, ← hb1, hv]; rfl, by rw [askd, after_l]; exact hN⟩, hW.drop 2⟩

end Go.Proofs.YtoegpalacppllaaGreat

/- Queries up to the first that is played, and the search, by the reference. -/
namespace Go.Proofs.YtoegpalacppllaaGreat
open Go.RowKit Pl
open Tr Hn
set_option maxRecDepth 10000 in
/-- headend/headendref08.seen -/
theorem g_rseen (b : Bo) (t : Sl) (oa : Option Addr) (on oc : Nat) (o : List Bool) (f : Int) (nn : Nat) (n0 : 0 ≤ b.n) (n8 : b.n ≤ 8) (x0 : 0 ≤ b.x) (x1 : b.x ≤ b.a) (hl : b.l.length ≤ 100) (hn : nn ≤ 8) (hx2 : b.a + ((2 * nn + 1 : Nat) : Int) ≤ 100000) (ho : o.length ≤ 100) : GivesX Tryz.prog 122 [.agg (boC b t).toArray, .slice oa on oc, .int .i64 f, .int .i64 (nn : Int)].toArray (fun w => RdI w t b.l ∧ RdT w ⟨oa, on, oc⟩ o) (fun v Bs => ∃ s2 : Sl, v = .tuple #[.agg (boC (seenN o f (2 * nn + 1) b 0).1 s2).toArray, .bool (seenN o f (2 * nn + 1) b 0).2.1, .int .i64 ((seenN o f (2 * nn + 1) b 0).2.2 : Int)] ∧ NewI s2 b.l Bs) := by
 refine givesX_of Tryz.func122 rfl (bs := [.agg (boC b t).toArray, .slice oa on oc, .int .i64 f, .int .i64 (nn : Int), undef, undef, undef, undef, undef, undef, undef, undef, undef, undef, undef, undef, undef, undef, undef, undef, undef, undef, undef, undef, undef, undef, undef, undef, undef, undef, undef, undef, undef, undef, undef, undef]) rfl ?_
 intro w hP hW
 refine c_seq (c_reg ?_)
 refine xB hW ?_
 intro g1 W hW
 refine l_alloc hW tyZ31 rfl rfl rfl ?_
 intro g2 W hW
 refine bB ?_
 refine bI ?_
 refine l_end (n_then (c_seq (c_seq (c_reg ?_))))
 refine bI ?_
 refine l_end (n_then (c_block ?_))
 refine c_loop (fun (z : Nat × Bo × Sl × List Blk) (j : Nat → Value) => [.agg (boC b t).toArray, .slice oa on oc, .int .i64 f, .int .i64 (nn : Int), .pointer (some ⟨g1, 0, none⟩), j 5, j 6, j 7, .pointer (some ⟨g2, 0, none⟩), j 9, j 10, .int .i64 ((z.1 + 1 : Nat) : Int), j 12, j 13, j 14, j 15, j 16, j 17, j 18, j 19, j 20, j 21, j 22, j 23, j 24, j 25, j 26, j 27, j 28, j 29, j 30, j 31, j 32, j 33, j 34, j 35]) (fun (z : Nat × Bo × Sl × List Blk) => [⟨g2, z31, 31⟩, ⟨g1, (boC z.2.1 z.2.2.1), 31⟩] ++ z.2.2.2) (fun (z : Nat × Bo × Sl × List Blk) => z.1 ≤ (2 * nn + 1) ∧ Askd b z.2.1 z.1 ∧ seenN o f (2 * nn + 1) b 0 = seenN o f ((2 * nn + 1) - z.1) z.2.1 z.1 ∧ (∀ W, Cl (base w) z.2.2.2 W → RdI W z.2.2.1 b.l) ∧ (0 < z.1 → NewI z.2.2.1 b.l z.2.2.2)) (fun (z : Nat × Bo × Sl × List Blk) => (2 * nn + 1) - z.1) (0, b, t, []) (by kernel_rfl) (by simpa using hW) ⟨Nat.zero_le _, Askd.refl x0 x1, rfl, fun W hC => hP.1.past hC.below, fun h => absurd h (Nat.lt_irrefl 0)⟩ ?_
 intro z j W hx hW
 obtain ⟨i, q, t2, Bs⟩ := z
 obtain ⟨hi, ha, hsn, hrd, hnew⟩ := hx
 simp only at hi ha hsn hrd hnew
 have e1 := ha.a
 have e2 := ha.n
 have e3 := ha.x0
 have e4 := ha.x1
 refine c_seq (c_seq (c_reg ?_))
 refine aI ?_
 refine aI ?_
 refine l_val (r_mulN (m := 2) rfl rfl rfl (by omega)) rfl rfl ?_
 refine l_val (r_addN (n := 1) rfl rfl rfl (by omega)) rfl rfl ?_
 refine l_val (r_leqN rfl rfl rfl rfl) rfl rfl ?_
 refine l_split ?_ ?_
 ·intro hc1
  replace hc1 := of_decide_eq_true hc1
  refine l_end (n_then ?_)
  refine c_true rfl ?_
  refine c_skip (n_then (c_seq (c_block (c_seq (c_reg ?_)))))
  refine dA hW 1 tyA31 ?_
  refine aS ?_
  refine aI ?_
  refine l_callX hW (g_rAsked q t2 oa on oc o f (by omega) (by omega) (by omega) (by omega) (by omega) (by omega) (by rw [ha.l]; exact hl) ho) en157 ⟨by rw [ha.l]; exact hrd W (hW.sub (List.sublist_append_right [_, _] Bs)), hP.2.past hW.below⟩ rfl rfl rfl rfl ?_
  rintro _ Bs1 W ⟨s2, rfl, hN⟩ hW
  obtain ⟨q2, hq2⟩ : ∃ q2, q2 = askd q o f := ⟨_, rfl⟩
  rw [← hq2] at hN ⊢
  have hql : q2.l = b.l := by rw [hq2]; exact (ha.ask o f).l
  rw [hql] at hN
  refine l_val (r_move (v := .tuple _) rfl rfl) rfl rfl ?_
  refine l_val (r_extract (v := .agg _) rfl rfl rfl) rfl rfl ?_
  refine l_val (r_extract (v := .bool _) rfl rfl rfl) rfl rfl ?_
  refine l_split ?_ ?_
  ·intro hc2
   refine l_alloc hW tyZ31 rfl rfl rfl ?_
   intro g3 W hW
   refine sA hW 0 tyA31 ?_
   intro W hW
   refine bB ?_
   refine l_end (n_then (c_seq (c_reg ?_)))
   refine dA hW 0 tyA31 ?_
   refine sA hW 2 tyA31 ?_
   intro W hW
   refine l_end (n_then (c_seq (c_reg ?_)))
   refine aB ?_
   refine l_end (n_then ?_)
   refine c_true rfl ?_
   refine c_seq (c_reg ?_)
   refine dA hW 2 tyA31 ?_
   refine aI ?_
   refine sA hW 1 tyA31 ?_
   intro W hW
   refine bB ?_
   refine bI ?_
   refine l_end (n_then (c_ret (r_block (r_then (r_then (r_block (r_then ?_)))))))
   refine ret_cell_tmp2 hW 1 tyA31 rfl rfl rfl (by first | rfl | exact kc_len _ | exact kcf_len _ | exact boC_len _ _ | (simp; done)) rfl rfl ?_
   have e : seenN o f (2 * nn + 1) b 0 = (q2, true, i + 1) := by
    rw [hsn, show (2 * nn + 1) - i = ((2 * nn + 1) - i - 1) + 1 by omega, seenN_yes hc2, hq2]
   exact ⟨_, Bs1, rfl, ⟨s2, by rw [e]; rfl, hN⟩, (show Cl _ ((_ :: ([_, _] ++ Bs)) ++ Bs1) _ from hW).sub (List.sublist_append_right _ Bs1)⟩
  ·intro hc2
   refine l_alloc hW tyZ31 rfl rfl rfl ?_
   intro g4 W hW
   refine sA hW 0 tyA31 ?_
   intro W hW
   refine bB ?_
   refine l_end (n_then (c_seq (c_reg ?_)))
   refine dA hW 0 tyA31 ?_
   refine sA hW 2 tyA31 ?_
   intro W hW
   refine l_end (n_then (c_seq (c_reg ?_)))
   refine aB ?_
   refine l_end (n_then ?_)
   refine c_false rfl ?_
   refine c_skip (n_block (n_then (c_reg ?_)))
   refine aI ?_
   refine l_val (r_addN (n := 1) rfl rfl rfl (by omega)) rfl rfl ?_
   refine bI ?_
   refine l_end (n_then ?_)
   exact loop_next (i + 1, q2, s2, Bs1) (by kernel_rfl) ((show Cl _ (([_, _] ++ Bs) ++ Bs1) _ from (hW.drop 1)).sub ((List.sublist_append_left [_, _] Bs).append_right Bs1)) ⟨by simp only; omega, by simp only; rw [hq2]; exact ha.ask o f, by simp only; rw [hsn, show (2 * nn + 1) - i = ((2 * nn + 1) - (i + 1)) + 1 by omega, seenN_no hc2, hq2], fun W hC => hN.rep.at hC (List.Sublist.refl _), fun _ => hN⟩ (by simp only; omega)
 ·intro hc1
  replace hc1 := of_decide_eq_false hc1
  refine l_end (n_then ?_)
  refine c_false rfl ?_
  refine c_exit (x_then (x_then ?_))
  refine x_hit ?_
  refine n_then (c_seq (c_reg ?_))
  refine dA hW 1 tyA31 ?_
  refine aI ?_
  refine l_val (r_mulN (m := 2) rfl rfl rfl (by omega)) rfl rfl ?_
  refine l_val (r_addN (n := 1) rfl rfl rfl (by omega)) rfl rfl ?_
  refine sA hW 0 tyA31 ?_
  intro W hW
  refine bB ?_
  refine bI ?_
  refine l_end (n_then (c_ret ?_))
  refine ret_cell_tmp2 hW 0 tyA31 rfl rfl rfl (by first | rfl | exact kc_len _ | exact kcf_len _ | exact boC_len _ _ | (simp; done)) rfl rfl ?_
  have ei : i = (2 * nn + 1) := by omega
  have e : seenN o f (2 * nn + 1) b 0 = (q, false, (2 * nn + 1)) := by
   rw [hsn, show (2 * nn + 1) - i = 0 by omega, seenN_zero, ei]
  exact ⟨_, Bs, rfl, ⟨t2, by rw [e]; rfl, hnew (by omega)⟩, (show Cl _ ([_, _] ++ Bs) _ from hW).sub (List.sublist_append_right [_, _] Bs)⟩

set_option maxRecDepth 10000 in
/-- headend/headendref08.search -/
theorem g_rsearch (b : Bo) (t : Sl) (oa : Option Addr) (on oc : Nat) (o : List Bool) (nn dd : Nat) (n0 : 0 ≤ b.n) (n8 : b.n ≤ 8) (x0 : 0 ≤ b.x) (x1 : b.x ≤ b.a) (hl : b.l.length ≤ 100) (hn : nn ≤ 8) (hx2 : b.a + ((dd * (2 * nn + 1) : Nat) : Int) ≤ 100000) (hod : o.length ≤ p2 dd) (ho : o.length ≤ 100) : GivesX Tryz.prog 123 [.agg (boC b t).toArray, .slice oa on oc, .int .i64 (nn : Int)].toArray (fun w => RdI w t b.l ∧ RdT w ⟨oa, on, oc⟩ o) (fun v Bs => ∃ s2 : Sl, v = .tuple #[.agg (boC (searchN o (2 * nn + 1) o.length 0 o.length b 0).1 s2).toArray, .int .i64 ((searchN o (2 * nn + 1) o.length 0 o.length b 0).2.1 : Int), .int .i64 ((searchN o (2 * nn + 1) o.length 0 o.length b 0).2.2 : Int)] ∧ ((s2 = t ∧ Bs = []) ∨ NewI s2 b.l Bs)) := by
 refine givesX_of Tryz.func123 rfl (bs := [.agg (boC b t).toArray, .slice oa on oc, .int .i64 (nn : Int), undef, undef, undef, undef, undef, undef, undef, undef, undef, undef, undef, undef, undef, undef, undef, undef, undef, undef, undef, undef, undef, undef, undef, undef, undef, undef, undef, undef, undef, undef, undef, undef, undef, undef, undef, undef, undef, undef, undef, undef, undef, undef]) rfl ?_
 intro w hP hW
 have hon : on = o.length := hP.2.len
 refine c_seq (c_reg ?_)
 refine xB hW ?_
 intro g1 W hW
 refine l_alloc hW tyZ31 rfl rfl rfl ?_
 intro g2 W hW
 refine bI ?_
 refine bI ?_
 refine l_end (n_then (c_seq (c_reg ?_)))
 refine aS ?_
 refine l_val (r_lenSlice Tryz.underlying155 rfl rfl) rfl rfl ?_
 refine bI ?_
 refine bI ?_
 refine bI ?_
 refine l_end (n_then (c_seq (c_block ?_)))
 refine c_loop (fun (z : Nat × Nat × Bo × Sl × List Blk × Nat) (j : Nat → Value) => [.agg (boC b t).toArray, .slice oa on oc, .int .i64 (nn : Int), .pointer (some ⟨g1, 0, none⟩), j 4, j 5, .pointer (some ⟨g2, 0, none⟩), .int .i64 0, .int .i64 0, .int .i64 (z.1 : Int), .int .i64 (z.2.1 : Int), .int .i64 (z.2.2.2.2.2 : Int), j 12, j 13, j 14, j 15, .slice oa on oc, j 17, j 18, j 19, j 20, j 21, j 22, j 23, j 24, j 25, j 26, j 27, j 28, j 29, j 30, j 31, j 32, j 33, j 34, j 35, j 36, j 37, j 38, j 39, j 40, j 41, j 42, j 43, j 44]) (fun (z : Nat × Nat × Bo × Sl × List Blk × Nat) => [⟨g2, z31, 31⟩, ⟨g1, (boC z.2.2.1 z.2.2.2.1), 31⟩] ++ z.2.2.2.2.1) (fun (z : Nat × Nat × Bo × Sl × List Blk × Nat) => z.1 ≤ z.2.1 ∧ z.2.1 ≤ o.length ∧ (∃ j, z.2.1 - z.1 ≤ p2 j ∧ z.2.2.2.2.2 + j * (2 * nn + 1) ≤ dd * (2 * nn + 1)) ∧ Askd b z.2.2.1 z.2.2.2.2.2 ∧ searchN o (2 * nn + 1) o.length 0 o.length b 0 = searchN o (2 * nn + 1) (z.2.1 - z.1) z.1 z.2.1 z.2.2.1 z.2.2.2.2.2 ∧ ((z.2.2.2.1 = t ∧ z.2.2.2.2.1 = []) ∨ NewI z.2.2.2.1 b.l z.2.2.2.2.1)) (fun (z : Nat × Nat × Bo × Sl × List Blk × Nat) => z.2.1 - z.1) (0, on, b, t, [], 0) (by kernel_rfl) (by simpa using hW) ⟨Nat.zero_le _, by simp only; omega, ⟨dd, by simp only; omega, by simp only; omega⟩, Askd.refl x0 x1, by simp only [hon, Nat.sub_zero], .inl ⟨rfl, rfl⟩⟩ ?_
 intro z j W hx hW
 obtain ⟨hlo, hhi, ⟨j, hj1, hj2⟩, ha, hsr, hnew⟩ := hx
 have e1 := ha.a
 have e2 := ha.n
 have e3 := ha.x0
 have e4 := ha.x1
 have hrd : ∀ W, Cl (base w) z.2.2.2.2.1 W → RdI W z.2.2.2.1 b.l := fun W hC => by
  rcases hnew with ⟨h1, -⟩ | h1
  ·rw [h1]; exact hP.1.past hC.below
  ·exact h1.rep.at hC (List.Sublist.refl _)
 refine c_seq (c_seq (c_reg ?_))
 refine aI ?_
 refine aI ?_
 refine l_val (r_subN rfl rfl rfl (by omega) (by omega)) rfl rfl ?_
 refine l_val (r_gtrN (n := 1) rfl rfl rfl rfl) rfl rfl ?_
 refine l_split ?_ ?_
 ·intro hc1
  replace hc1 := of_decide_eq_true hc1
  obtain ⟨jj, rfl⟩ : ∃ jj, j = jj + 1 := ⟨j - 1, by
   cases j with
   | zero => simp only [p2] at hj1; omega
   | succ j => rfl⟩
  rw [p2] at hj1
  rw [Nat.succ_mul] at hj2
  refine l_end (n_then ?_)
  refine c_true rfl ?_
  refine c_skip (n_then (c_block (c_seq (c_reg ?_))))
  refine aI ?_
  refine aI ?_
  refine l_val (r_addN rfl rfl rfl (by omega)) rfl rfl ?_
  refine l_val (r_quoN (n := 2) rfl rfl rfl (by omega) (by omega)) rfl rfl ?_
  refine bI ?_
  refine l_end (n_then (c_seq (c_reg ?_)))
  refine dA hW 1 tyA31 ?_
  refine aS ?_
  refine aI ?_
  refine aI ?_
  refine l_callX hW (g_rseen z.2.2.1 z.2.2.2.1 oa on oc o (((z.1 + z.2.1) / 2 : Nat) : Int) nn (by omega) (by omega) (by omega) (by omega) (by rw [ha.l]; exact hl) hn (by omega) ho) en122 ⟨by rw [ha.l]; exact hrd W (hW.sub (List.sublist_append_right [_, _] z.2.2.2.2.1)), hP.2.past hW.below⟩ rfl rfl rfl rfl ?_
  rintro _ Bs1 W ⟨s2, rfl, hN⟩ hW
  obtain ⟨r, hr⟩ : ∃ r, r = seenN o (((z.1 + z.2.1) / 2 : Nat) : Int) (2 * nn + 1) z.2.2.1 0 := ⟨_, rfl⟩
  have hsa : seenN o (((z.1 + z.2.1) / 2 : Nat) : Int) (2 * nn + 1) z.2.2.1 z.2.2.2.2.2 = (r.1, r.2.1, z.2.2.2.2.2 + r.2.2) := by rw [hr]; exact seenN_add o (((z.1 + z.2.1) / 2 : Nat) : Int) z.2.2.2.2.2 (2 * nn + 1) z.2.2.1 0
  obtain ⟨m1, hm1, hm2, hm3, -⟩ := seenN_run o (((z.1 + z.2.1) / 2 : Nat) : Int) (2 * nn + 1) 0 (Askd.refl e3 e4)
  rw [← hr] at hm2 hm3 ⊢
  rw [ha.l] at hN
  have hax : Askd b r.1 (z.2.2.2.2.2 + r.2.2) := by
   rw [hm3]; exact ha.trans hm2
  refine l_val (r_move (v := .tuple _) rfl rfl) rfl rfl ?_
  refine l_val (r_extract (v := .agg _) rfl rfl rfl) rfl rfl ?_
  refine l_val (r_extract (v := .bool _) rfl rfl rfl) rfl rfl ?_
  refine l_split ?_ ?_
  ·intro hc2
   refine l_val (r_extract (v := .int _ _) rfl rfl rfl) rfl rfl ?_
   refine l_alloc hW tyZ31 rfl rfl rfl ?_
   intro g3 W hW
   refine sA hW 0 tyA31 ?_
   intro W hW
   refine bB ?_
   refine bI ?_
   refine l_end (n_then (c_seq (c_reg ?_)))
   refine dA hW 0 tyA31 ?_
   refine sA hW 2 tyA31 ?_
   intro W hW
   refine l_end (n_then (c_seq (c_reg ?_)))
   refine aI ?_
   refine aI ?_
   refine l_val (r_addN rfl rfl rfl (by omega)) rfl rfl ?_
   refine bI ?_
   refine l_end (n_then (c_seq (c_reg ?_)))
   refine aB ?_
   refine l_end (n_then ?_)
   refine c_true rfl ?_
   refine c_reg ?_
   refine aI ?_
   refine bI ?_
   refine l_end (n_block (n_then ?_))
   exact loop_next ((z.1 + z.2.1) / 2, z.2.1, r.1, s2, Bs1, z.2.2.2.2.2 + r.2.2) (by kernel_rfl) ((show Cl _ (([_, _] ++ z.2.2.2.2.1) ++ Bs1) _ from (hW.drop 1)).sub ((List.sublist_append_left [_, _] z.2.2.2.2.1).append_right Bs1)) ⟨by simp only; omega, by simp only; omega, ⟨jj, by simp only; omega, by simp only; omega⟩, hax, by simp only; rw [hsr, show z.2.1 - z.1 = (z.2.1 - z.1 - 1) + 1 by omega, searchN_yes (by omega) (hsa.trans (by rw [hc2]))]; exact searchN_fuel (by omega) (by omega), .inr hN⟩ (by simp only; omega)
  ·intro hc2
   refine l_val (r_extract (v := .int _ _) rfl rfl rfl) rfl rfl ?_
   refine l_alloc hW tyZ31 rfl rfl rfl ?_
   intro g4 W hW
   refine sA hW 0 tyA31 ?_
   intro W hW
   refine bB ?_
   refine bI ?_
   refine l_end (n_then (c_seq (c_reg ?_)))
   refine dA hW 0 tyA31 ?_
   refine sA hW 2 tyA31 ?_
   intro W hW
   refine l_end (n_then (c_seq (c_reg ?_)))
   refine aI ?_
   refine aI ?_
   refine l_val (r_addN rfl rfl rfl (by omega)) rfl rfl ?_
   refine bI ?_
   refine l_end (n_then (c_seq (c_reg ?_)))
   refine aB ?_
   refine l_end (n_then ?_)
   refine c_false rfl ?_
   refine c_reg ?_
   refine aI ?_
   refine bI ?_
   refine l_end (n_block (n_then ?_))
   exact loop_next (z.1, (z.1 + z.2.1) / 2, r.1, s2, Bs1, z.2.2.2.2.2 + r.2.2) (by kernel_rfl) ((show Cl _ (([_, _] ++ z.2.2.2.2.1) ++ Bs1) _ from (hW.drop 1)).sub ((List.sublist_append_left [_, _] z.2.2.2.2.1).append_right Bs1)) ⟨by simp only; omega, by simp only; omega, ⟨jj, by simp only; omega, by simp only; omega⟩, hax, by simp only; rw [hsr, show z.2.1 - z.1 = (z.2.1 - z.1 - 1) + 1 by omega, searchN_no (by omega) (hsa.trans (by rw [hc2]))]; exact searchN_fuel (by omega) (by omega), .inr hN⟩ (by simp only; omega)
 ·intro hc1
  replace hc1 := of_decide_eq_false hc1
  refine l_end (n_then ?_)
  refine c_false rfl ?_
  refine c_exit (x_then (x_then ?_))
  refine x_hit ?_
  refine n_then (c_seq (c_reg ?_))
  refine dA hW 1 tyA31 ?_
  refine aI ?_
  refine aI ?_
  refine sA hW 0 tyA31 ?_
  intro W hW
  refine bI ?_
  refine bI ?_
  refine l_end (n_then (c_ret ?_))
  refine ret_cell_tmp2 hW 0 tyA31 rfl rfl rfl (by first | rfl | exact kc_len _ | exact kcf_len _ | exact boC_len _ _ | (simp; done)) rfl rfl ?_
  have e : searchN o (2 * nn + 1) o.length 0 o.length b 0 = (z.2.2.1, z.1, z.2.2.2.2.2) := by rw [hsr, searchN_end (by omega)]
  exact ⟨_, z.2.2.2.2.1, rfl, ⟨z.2.2.2.1, by rw [e]; rfl, hnew⟩, (show Cl _ ([_, _] ++ z.2.2.2.2.1) _ from hW).sub (List.sublist_append_right [_, _] _)⟩

end Go.Proofs.YtoegpalacppllaaGreat

/- New hunts and merged lists, by the reference. -/
namespace Go.Proofs.YtoegpalacppllaaGreat
open Go.RowKit Pl
open Tr Hn
set_option maxRecDepth 10000 in
/-- headend/headendref08.merged -/
theorem g_rmerged (aa : Option Addr) (an ac : Nat) (l : List Int) (ba : Option Addr) (bn bc : Nat) (m : List Int) (hl : l.length ≤ 4294967296) (hm : m.length ≤ 4294967296) : GivesX Tryz.prog 159 [.slice aa an ac, .slice ba bn bc].toArray (fun w => RdI w ⟨aa, an, ac⟩ l ∧ RdI w ⟨ba, bn, bc⟩ m) (fun v Bs => ∃ s : Sl, v = s.v ∧ NewI s (merged l m) Bs) := by
 refine givesX_of Tryz.func159 rfl (bs := [.slice aa an ac, .slice ba bn bc, undef, undef, undef, undef, undef, undef, undef, undef, undef, undef, undef, undef, undef, undef, undef, undef, undef, undef, undef, undef, undef, undef]) rfl ?_
 intro w hP hW
 refine c_seq (c_reg ?_)
 refine bS ?_
 refine l_end (n_then (c_seq (c_reg ?_)))
 refine bS ?_
 refine l_end (n_then (c_seq (c_seq (c_reg ?_))))
 refine bI ?_
 refine l_end (n_then (c_block ?_))
 refine c_loop (fun (x : Nat × Option Addr × Nat × Nat × List Blk) (j : Nat → Value) => [.slice aa an ac, .slice ba bn bc, j 2, j 3, j 4, .slice x.2.1 x.2.2.1 x.2.2.2.1, .int .i64 (x.1 : Int), j 7, j 8, j 9, j 10, j 11, j 12, j 13, j 14, j 15, j 16, j 17, j 18, j 19, j 20, j 21, j 22, j 23]) (fun (x : Nat × Option Addr × Nat × Nat × List Blk) => [] ++ x.2.2.2.2) (fun (x : Nat × Option Addr × Nat × Nat × List Blk) => x.1 ≤ 64 ∧ x.2.2.1 ≤ x.1 ∧ OwnSl 3 1 x.2.1 x.2.2.1 x.2.2.2.1 (il (mergedTo l m x.1)) x.2.2.2.2) (fun (x : Nat × Option Addr × Nat × Nat × List Blk) => 64 - x.1) (0, none, 0, 0, []) (by kernel_rfl) hW ⟨Nat.zero_le _, Nat.zero_le _, OwnSl.nil 3 1⟩ ?_
 intro x j W hx hW
 obtain ⟨hx, hml, hO⟩ := hx
 refine c_seq (c_seq (c_reg ?_))
 refine aI ?_
 refine l_val (r_lssN (n := 64) rfl rfl rfl rfl) rfl rfl ?_
 refine l_split ?_ ?_
 ·intro hc1
  replace hc1 := of_decide_eq_true hc1
  refine l_end (n_then ?_)
  refine c_true rfl ?_
  refine c_skip (n_then (c_seq (c_block (c_seq (c_reg ?_)))))
  refine aS ?_
  refine aI ?_
  refine l_callR hW (g_rin aa an ac l (x.1 : Int) hl) en182 (hP.1.past hW.below) rfl rfl rfl rfl ?_
  intro W hW
  refine l_split ?_ ?_
  ·intro hc2
   refine aB ?_
   refine lN ?_
   refine lN ?_
   refine lN ?_
   refine kB ?_
   refine l_end (n_then ?_)
   refine c_true rfl ?_
   refine c_reg ?_
   refine aS ?_
   refine aI ?_
   refine l_buildSliceF hW (bsl27_1_0 _) rfl rfl rfl rfl ?_
   intro gb W hW
   refine l_appendB tyE27 (L := [_]) hO hW 0 (N := x.2.2.1 + 1) rfl rfl rfl rfl rfl rfl rfl rfl (by simp [Value.oneCell']) (by unfold maxLen; omega) (by omega) ?_
   intro a1 c1 Bs1 W hO1 hW
   replace hO1 := hO1.castx rfl (xs' := il (mergedTo l m (x.1 + 1))) (by rw [mergedTo_yes (by rw [hc2]; rfl), il_append]; rfl)
   refine bS ?_
   refine l_end (n_block (n_then (c_reg ?_)))
   refine aI ?_
   refine l_val (r_addN (n := 1) rfl rfl rfl (by omega)) rfl rfl ?_
   refine bI ?_
   refine l_end (n_then ?_)
   exact loop_next (x.1 + 1, a1, x.2.2.1 + 1, c1, Bs1) (by kernel_rfl) (hW.drop 1) ⟨by simp only; omega, by simp only; omega, hO1⟩ (by simp only; omega)
  ·intro hc2
   refine aB ?_
   refine l_valG (r_move (v := .slice _ _ _) rfl rfl) (by kernel_rfl) rfl ?_
   refine gI ?_
   refine l_callRG hW (g_rin ba bn bc m (x.1 : Int) hm) en182 (hP.2.past hW.below) (by kernel_rfl) rfl rfl rfl ?_
   intro W hW
   refine l_split ?_ ?_
   ·intro hc3
    refine kB ?_
    refine l_end (n_then ?_)
    refine c_true rfl ?_
    refine c_reg ?_
    refine aS ?_
    refine aI ?_
    refine l_buildSliceF hW (bsl27_1_0 _) rfl rfl rfl rfl ?_
    intro gb W hW
    refine l_appendB tyE27 (L := [_]) hO hW 0 (N := x.2.2.1 + 1) rfl rfl rfl rfl rfl rfl rfl rfl (by simp [Value.oneCell']) (by unfold maxLen; omega) (by omega) ?_
    intro a1 c1 Bs1 W hO1 hW
    replace hO1 := hO1.castx rfl (xs' := il (mergedTo l m (x.1 + 1))) (by rw [mergedTo_yes (by rw [hc2, hc3]; rfl), il_append]; rfl)
    refine bS ?_
    refine l_end (n_block (n_then (c_reg ?_)))
    refine aI ?_
    refine l_val (r_addN (n := 1) rfl rfl rfl (by omega)) rfl rfl ?_
    refine bI ?_
    refine l_end (n_then ?_)
    exact loop_next (x.1 + 1, a1, x.2.2.1 + 1, c1, Bs1) (by kernel_rfl) (hW.drop 1) ⟨by simp only; omega, by simp only; omega, hO1⟩ (by simp only; omega)
   ·intro hc3
    refine kB ?_
    refine l_end (n_then ?_)
    refine c_false rfl ?_
    refine c_skip (n_block (n_then (c_reg ?_)))
    refine aI ?_
    refine l_val (r_addN (n := 1) rfl rfl rfl (by omega)) rfl rfl ?_
    refine bI ?_
    refine l_end (n_then ?_)
    exact loop_next (x.1 + 1, x.2.1, x.2.2.1, x.2.2.2.1, x.2.2.2.2) (by kernel_rfl) hW ⟨by simp only; omega, by simp only; omega, by simp only; rw [mergedTo_no (by rw [hc2, hc3]; rfl)]; exact hO⟩ (by simp only; omega)
 ·intro hc1
  replace hc1 := of_decide_eq_false hc1
  have e : x.1 = 64 := by omega
  rw [e] at hO
  refine l_end (n_then ?_)
  refine c_false rfl ?_
  refine c_exit (x_then (x_then ?_))
  refine x_hit ?_
  refine n_then (c_seq (c_reg ?_))
  refine aS ?_
  refine bS ?_
  refine l_end (n_then (c_ret ?_))
  refine ret_tmp (v := .slice _ _ _) rfl rfl ?_
  exact ⟨_, _, rfl, ⟨⟨x.2.1, x.2.2.1, x.2.2.2.1⟩, rfl, hO.newI⟩, hW⟩

end Go.Proofs.YtoegpalacppllaaGreat

/- Taking a subset out of a partition, step by step; findings in memory. No function of the program is in sight here. -/
namespace Go.Proofs.YtoegpalacppllaaGreat.Tr
open Hn
/-- what is put in a subset's place -/
def midT (s : Sc) (l : List (Int × Int)) (i : Nat) : List (Int × Int) := if (membersN s (qn l i) (qm l i) (p2 s.d.toNat)).length = 1 then [] else splitV s (qn l i) (qm l i)
theorem taken_mid (s : Sc) (l : List (Int × Int)) (i : Nat) : taken s l i = l.take i ++ (midT s l i ++ l.drop (i + 1)) := rfl
/-- what is there after so many subsets have been looked at -/
def pfx (s : Sc) (l : List (Int × Int)) (low i : Nat) : List (Int × Int) := if i ≤ low then l.take i else l.take low ++ (midT s l low ++ (l.drop (low + 1)).take (i - (low + 1)))
theorem pfx_zero (s : Sc) (l : List (Int × Int)) (low : Nat) : pfx s l low 0 = [] := by rw [pfx, if_pos (Nat.zero_le _)]; rfl
theorem pfx_mid (s : Sc) (l : List (Int × Int)) (low : Nat) : pfx s l low (low + 1) = pfx s l low low ++ midT s l low := by
  rw [pfx, if_neg (by omega), pfx, if_pos (Nat.le_refl _), Nat.sub_self, List.take_zero, List.append_nil]
theorem q_drop {l : List (Int × Int)} {i j : Nat} : (qn (l.drop i) j, qm (l.drop i) j) = (qn l (i + j), qm l (i + j)) := by
  simp [qn, qm, List.getD_eq_getElem?_getD, List.getElem?_drop]
theorem pfx_step {s : Sc} {l : List (Int × Int)} {low i : Nat} (hi : i < l.length) (h : i ≠ low) : pfx s l low (i + 1) = pfx s l low i ++ [(qn l i, qm l i)] := by
  rcases Nat.lt_or_ge i low with h1 | h1
  · rw [pfx, if_pos (by omega), pfx, if_pos (by omega), take_q hi]
  · rw [pfx, if_neg (by omega), pfx, if_neg (by omega), show i + 1 - (low + 1) = (i - (low + 1)) + 1 by omega, take_q (by rw [List.length_drop]; omega), q_drop, show low + 1 + (i - (low + 1)) = i by omega]
    simp only [List.append_assoc]
theorem pfx_all {s : Sc} {l : List (Int × Int)} {low : Nat} (h : low < l.length) : pfx s l low l.length = taken s l low := by
  rw [pfx, if_neg (by omega), taken_mid, List.take_of_length_le (l := l.drop (low + 1)) (by rw [List.length_drop]; omega)]
theorem pfx_len {s : Sc} {l : List (Int × Int)} {low i : Nat} (hm : (midT s l low).length ≤ 2) (hi : i ≤ l.length) : (pfx s l low i).length ≤ l.length + 2 := by
  unfold pfx
  split
  · rw [List.length_take]; omega
  · simp only [List.length_append, List.length_take, List.length_drop]; omega
theorem mid_len {s : Sc} {l : List (Int × Int)} {i : Nat} (hs : schB s = true) (h : subB s (qn l i) (qm l i) = true) : (midT s l i).length ≤ 2 := by
  unfold midT
  split
  · exact Nat.zero_le _
  · next h1 => rw [(split_perm hs h h1).2.1]; exact Nat.le_refl _
theorem mid_one {s : Sc} {l : List (Int × Int)} {i : Nat} (h : (membersN s (qn l i) (qm l i) (p2 s.d.toNat)).length = 1) : midT s l i = [] := if_pos h
theorem mid_two {s : Sc} {l : List (Int × Int)} {i : Nat} (h : (membersN s (qn l i) (qm l i) (p2 s.d.toNat)).length ≠ 1) : midT s l i = splitV s (qn l i) (qm l i) := if_neg h
end Go.Proofs.YtoegpalacppllaaGreat.Tr
namespace Go.Proofs.YtoegpalacppllaaGreat
open Go.RowKit Pl Tr Hn
/-- some of the blocks -/
theorem Cl.pick {b : Base} {W : World} {L L' : List Blk} (R : List Blk) (h : Cl b L W) (hp : L.Perm (L' ++ R)) : Cl b L' W := (h.perm hp).sub (List.sublist_append_left L' R)
theorem pickT {b : Base} {W : World} {X A B C D : List Blk} (h : Cl b ((((X ++ A) ++ C) ++ D) ++ B) W) : Cl b ((X ++ B) ++ C) W := h.pick (A ++ D) (by classical exact List.perm_iff_count.2 fun x => by simp only [List.count_append]; omega)
theorem pickE {b : Base} {W : World} {X A C : List Blk} (h : Cl b ((X ++ A) ++ C) W) : Cl b (A ++ C) W := h.pick X (by classical exact List.perm_iff_count.2 fun x => by simp only [List.count_append]; omega)
/-- a finding, as cells -/
abbrev fiC (n l : Sl) (a : Nat) (e : Nat) : List Value := [.slice n.a n.n n.c, .slice l.a l.n l.c, .int .i64 (a : Int), .int .u8 (e : Int)]
/-- what follows the box in a tracer -/
abbrev trR (nn : Nat) (n l : Sl) (a e : Nat) : List Value := [.int .i64 (nn : Int), .slice n.a n.n n.c, .slice l.a l.n l.c, .int .i64 (a : Int), .int .u8 (e : Int)]
theorem trR_len {b : Bo} {t : Sl} {nn : Nat} {n l : Sl} {a e k : Nat} (h : k < 33) : k < (boC b t ++ trR nn n l a e).length := by rw [List.length_append, boC_len]; exact h
end Go.Proofs.YtoegpalacppllaaGreat

/- A subset is taken out of a partition, by the reference. -/
namespace Go.Proofs.YtoegpalacppllaaGreat
open Go.RowKit Pl
open Tr Hn
set_option maxRecDepth 10000 in
/-- headend/headendref08.taken -/
theorem g_rtaken (s : Sc) (pa : Option Addr) (pn pc : Nat) (nm : List Int) (ra : Option Addr) (rn rc : Nat) (l : List (Int × Int)) (a e low : Nat) (hs : schB s = true) (hb : ∀ i, i < l.length → subB s (qn l i) (qm l i) = true) (hlow : low < l.length) (hl : l.length ≤ 100) (hnl : nm.length ≤ 100) : GivesX Tryz.prog 124 [.agg [.int .u8 s.k, .int .i64 s.d, .int .i64 s.g, .int .u64 s.p, .int .u64 s.q, .int .u64 s.r].toArray, .agg [.slice pa pn pc, .slice ra rn rc, .int .i64 (a : Int), .int .u8 (e : Int)].toArray, .int .i64 (low : Int)].toArray (fun w => RdI w ⟨pa, pn, pc⟩ nm ∧ RdB w ⟨ra, rn, rc⟩ l) (fun v Bs => ∃ (n2 : Sl) (la : Option Addr) (lc : Nat) (BN BL : List Blk), v = .agg (fiC n2 ⟨la, (taken s l low).length, lc⟩ a e).toArray ∧ Bs = BN ++ BL ∧ OwnSl 64 2 la (taken s l low).length lc (sl2 (taken s l low)) BL ∧ ((n2 = ⟨pa, pn, pc⟩ ∧ BN = [] ∧ takenM s l nm low = nm) ∨ NewI n2 (takenM s l nm low) BN)) := by
 refine givesX_of Tryz.func124 rfl (bs := [.agg [.int .u8 s.k, .int .i64 s.d, .int .i64 s.g, .int .u64 s.p, .int .u64 s.q, .int .u64 s.r].toArray, .agg [.slice pa pn pc, .slice ra rn rc, .int .i64 (a : Int), .int .u8 (e : Int)].toArray, .int .i64 (low : Int), undef, undef, undef, undef, undef, undef, undef, undef, undef, undef, undef, undef, undef, undef, undef, undef, undef, undef, undef, undef, undef, undef, undef, undef, undef, undef, undef, undef, undef, undef, undef, undef, undef, undef, undef, undef, undef, undef, undef, undef, undef, undef, undef, undef, undef, undef, undef, undef, undef, undef, undef, undef]) rfl ?_
 intro w hP hW
 obtain ⟨k1, k3, d0, d6, -⟩ := schB_iff.1 hs
 have hp6 := p2_le (n := s.d.toNat) (by omega)
 have hrl : rn = l.length := hP.2.len
 have hml := mid_len hs (hb low hlow)
 refine c_seq (c_reg ?_)
 refine xB hW ?_
 intro g1 W hW
 refine xB hW ?_
 intro g2 W hW
 refine l_alloc hW tyZ38 rfl rfl rfl ?_
 intro g3 W hW
 refine l_end (n_then (c_seq (c_reg ?_)))
 refine bS ?_
 refine l_end (n_then (c_seq (c_seq (c_reg ?_))))
 refine bI ?_
 refine l_end (n_then (c_block ?_))
 refine c_loop (fun (z : Nat × Option Addr × Nat × List Blk × Sl × List Blk × Nat) (j : Nat → Value) => [.agg [.int .u8 s.k, .int .i64 s.d, .int .i64 s.g, .int .u64 s.p, .int .u64 s.q, .int .u64 s.r].toArray, .agg [.slice pa pn pc, .slice ra rn rc, .int .i64 (a : Int), .int .u8 (e : Int)].toArray, .int .i64 (low : Int), .pointer (some ⟨g1, 0, none⟩), .pointer (some ⟨g2, 0, none⟩), j 5, .pointer (some ⟨g3, 0, none⟩), .slice z.2.1 z.2.2.2.2.2.2 z.2.2.1, .int .i64 (z.1 : Int), j 9, j 10, j 11, j 12, j 13, j 14, j 15, j 16, j 17, j 18, j 19, j 20, j 21, j 22, j 23, j 24, j 25, j 26, j 27, j 28, j 29, j 30, j 31, j 32, j 33, j 34, j 35, j 36, j 37, j 38, j 39, j 40, j 41, j 42, j 43, j 44, j 45, j 46, j 47, j 48, j 49, j 50, j 51, j 52, j 53, j 54]) (fun (z : Nat × Option Addr × Nat × List Blk × Sl × List Blk × Nat) => [⟨g3, z38, 38⟩, ⟨g2, [.slice z.2.2.2.2.1.a z.2.2.2.2.1.n z.2.2.2.2.1.c, .slice ra rn rc, .int .i64 (a : Int), .int .u8 (e : Int)], 38⟩, ⟨g1, [.int .u8 s.k, .int .i64 s.d, .int .i64 s.g, .int .u64 s.p, .int .u64 s.q, .int .u64 s.r], 26⟩] ++ z.2.2.2.2.2.1 ++ z.2.2.2.1) (fun (z : Nat × Option Addr × Nat × List Blk × Sl × List Blk × Nat) => z.1 ≤ rn ∧ z.2.2.2.2.2.2 = (pfx s l low z.1).length ∧ OwnSl 64 2 z.2.1 z.2.2.2.2.2.2 z.2.2.1 (sl2 (pfx s l low z.1)) z.2.2.2.1 ∧ ((z.1 ≤ low ∧ z.2.2.2.2.1 = ⟨pa, pn, pc⟩ ∧ z.2.2.2.2.2.1 = []) ∨ (low < z.1 ∧ ((z.2.2.2.2.1 = ⟨pa, pn, pc⟩ ∧ z.2.2.2.2.2.1 = [] ∧ takenM s l nm low = nm) ∨ NewI z.2.2.2.2.1 (takenM s l nm low) z.2.2.2.2.2.1)))) (fun (z : Nat × Option Addr × Nat × List Blk × Sl × List Blk × Nat) => rn - z.1) (0, none, 0, [], ⟨pa, pn, pc⟩, [], 0) (by kernel_rfl) (by simpa using hW) ⟨Nat.zero_le _, by simp only [pfx_zero]; rfl, by simp only [pfx_zero]; exact OwnSl.nil 64 2, .inl ⟨Nat.zero_le _, rfl, rfl⟩⟩ ?_
 intro z j W hx hW
 obtain ⟨hzi, hzn, hO, hnm⟩ := hx
 refine c_seq (c_seq (c_reg ?_))
 refine aI ?_
 refine l_val (r_fieldAddr 1 Tryz.underlying38 rfl tyC33.size rfl rfl rfl) rfl rfl ?_
 refine dC hW 1 tyC33 ?_
 refine l_val (r_lenSlice Tryz.underlying33 rfl rfl) rfl rfl ?_
 refine l_val (r_lssN rfl rfl rfl rfl) rfl rfl ?_
 refine l_split ?_ ?_
 ·intro hc1
  replace hc1 := of_decide_eq_true hc1
  obtain ⟨b0, o0, ha, hc⟩ := hP.2.ptr (by omega)
  simp only at ha
  subst ha
  have hpl := pfx_len (s := s) (low := low) (i := z.1 + 1) hml (by omega)
  have hmn := mem_len s (qn l z.1) (qm l z.1) (p2 s.d.toNat)
  refine l_end (n_then ?_)
  refine c_true rfl ?_
  refine c_skip (n_then (c_seq (c_block (c_seq (c_seq (c_reg ?_))))))
  refine aI ?_
  refine aI ?_
  refine l_val (r_neqN rfl rfl rfl rfl) rfl rfl ?_
  refine l_split ?_ ?_
  ·intro hc2
   replace hc2 := of_decide_eq_true hc2
   have hst := pfx_step (s := s) (low := low) (show z.1 < l.length by omega) (by omega)
   refine l_end (n_then ?_)
   refine c_true rfl ?_
   refine c_seq (c_reg ?_)
   refine aS ?_
   refine l_val (r_fieldAddr 1 Tryz.underlying38 rfl tyC33.size rfl rfl rfl) rfl rfl ?_
   refine dC hW 1 tyC33 ?_
   refine aI ?_
   refine l_val (r_indexAddrSlB (n := z.1) Tryz.underlying33 tyA64.size rfl rfl rfl (by omega)) rfl rfl ?_
   refine l_loadF2 hW tyA64 (hc z.1 (by omega)).1 (hc z.1 (by omega)).2 rfl rfl rfl rfl ?_
   refine l_buildSliceF hW (bsl33_1_0 _ _) rfl rfl rfl rfl ?_
   intro gb W hW
   refine l_appendB tyE33 (L := _ :: ([_, _, _] ++ z.2.2.2.2.2.1)) hO hW 0 (N := (pfx s l low (z.1 + 1)).length) (by rw [hst, List.length_append]; simp only [List.length_cons, List.length_nil]; omega) rfl rfl rfl rfl rfl rfl rfl (by simp [Value.oneCell']) (by unfold maxLen; omega) (by omega) ?_
   intro a1 c1 Bs1 W hO1 hW
   replace hO1 := hO1.castx rfl (xs' := sl2 (pfx s l low (z.1 + 1))) (by rw [hst, sl2_append]; rfl)
   refine bS ?_
   refine l_end (n_then (c_exit (x_then ?_)))
   refine x_hit ?_
   refine n_then (c_reg ?_)
   refine aI ?_
   refine l_val (r_addN (n := 1) rfl rfl rfl (by omega)) rfl rfl ?_
   refine bI ?_
   refine l_end (n_then ?_)
   exact loop_next (z.1 + 1, a1, c1, Bs1, z.2.2.2.2.1, z.2.2.2.2.2.1, (pfx s l low (z.1 + 1)).length) (by kernel_rfl) (show Cl _ (([_, _, _] ++ z.2.2.2.2.2.1) ++ Bs1) _ from (hW.drop 1)) ⟨by simp only; omega, rfl, hO1, hnm.imp (fun h => ⟨by have := h.1; simp only; omega, h.2⟩) (fun h => ⟨by have := h.1; simp only; omega, h.2⟩)⟩ (by simp only; omega)
  ·intro hc2
   replace hc2 := of_decide_eq_false hc2
   have hzl : z.1 = low := by omega
   obtain ⟨hp2, hbn⟩ : z.2.2.2.2.1 = ⟨pa, pn, pc⟩ ∧ z.2.2.2.2.2.1 = [] := by
    rcases hnm with h | h
    ·exact h.2
    ·have := h.1
     omega
   refine l_end (n_then ?_)
   refine c_false rfl ?_
   refine c_skip (n_then (c_seq ?_))
   refine c_regM hW [] [.q, .q, .q, .q, .q, .q, .mk 0, .tail] [⟨34, fun _ => NewSl 3 1 (membersN s (qn l z.1) (qm l z.1) (p2 s.d.toNat)).length (il (membersN s (qn l z.1) (qm l z.1) (p2 s.d.toNat)))⟩] [[]] [6] [0, 0, 2, 0, 14, 30, 63, 127] (by kernel_rfl) (by kernel_rfl) rfl (by kernel_rfl) ?_
   refine y_loadA 2 tyA26 rfl rfl rfl rfl rfl (by first | rfl | exact kc_len _ | exact kcf_len _ | exact boC_len _ _ | (simp; done)) (by decide) ?_
   refine y_val (r_fieldAddr 1 Tryz.underlying38 rfl tyC33.size rfl rfl rfl) rfl rfl ?_
   refine y_loadC 1 tyC33 rfl rfl rfl rfl rfl rfl (by decide) ?_
   refine yI ?_
   refine y_val (r_indexAddrSlB (n := z.1) Tryz.underlying33 tyA64.size rfl rfl rfl (by omega)) rfl rfl ?_
   refine y_loadF2 tyA64 (hc z.1 (by omega)).1 (hc z.1 (by omega)).2 (by kernel_rfl) rfl rfl rfl ?_
   refine y_callX 0 (g_rMembersOf s (qn l z.1) (qm l z.1) hs (hb z.1 (by omega))) en158 rfl rfl (fun _ _ _ _ => trivial) rfl rfl ?_
   refine y_tail ?_
   refine y_made ?_
   rintro _ BsM ⟨am, cm, rfl, hOM⟩
   intro W hW
   replace hW := hW.perm List.perm_append_comm
   refine bS ?_
   refine l_end (n_then (c_seq (c_reg ?_)))
   refine aS ?_
   refine l_val (r_lenSlice Tryz.underlying27 rfl rfl) rfl rfl ?_
   refine l_val (r_eqlN (n := 1) rfl rfl rfl rfl) rfl rfl ?_
   refine l_split ?_ ?_
   ·intro hc3
    replace hc3 := of_decide_eq_true hc3
    have h1 : (membersN s (qn l low) (qm l low) (p2 s.d.toNat)).length = 1 := by rw [← hzl]; omega
    have hpf : pfx s l low (z.1 + 1) = pfx s l low z.1 := by rw [hzl, pfx_mid, mid_one h1, List.append_nil]
    have htm : takenM s l nm low = merged nm (membersN s (qn l z.1) (qm l z.1) (p2 s.d.toNat)) := by rw [hzl]; exact if_pos h1
    refine l_end (n_then ?_)
    refine c_true rfl ?_
    refine c_reg ?_
    refine l_val (r_fieldAddr 0 Tryz.underlying38 rfl tyC27.size rfl rfl rfl) rfl rfl ?_
    refine dC hW 1 tyC27 ?_
    refine aS ?_
    refine l_callX hW (g_rmerged z.2.2.2.2.1.a z.2.2.2.2.1.n z.2.2.2.2.1.c nm am (membersN s (qn l z.1) (qm l z.1) (p2 s.d.toNat)).length cm (membersN s (qn l z.1) (qm l z.1) (p2 s.d.toNat)) (by omega) (by omega)) en159 ⟨by rw [hp2]; exact hP.1.past hW.below, hOM.rep.at hW (List.sublist_append_right _ BsM)⟩ rfl rfl rfl rfl ?_
    rintro _ B9 W ⟨s9, rfl, h9⟩ hW
    refine l_val (r_fieldAddr 0 Tryz.underlying38 rfl tyC27.size rfl rfl rfl) rfl rfl ?_
    refine l_storeC hW 1 tyC27 (v := .slice _ _ _) rfl rfl rfl rfl rfl rfl (by first | rfl | omega | (simp; done) | (simp; omega)) rfl ?_
    intro W hW
    refine l_end (n_block (n_then (c_reg ?_)))
    refine aI ?_
    refine l_val (r_addN (n := 1) rfl rfl rfl (by omega)) rfl rfl ?_
    refine bI ?_
    refine l_end (n_then ?_)
    exact loop_next (z.1 + 1, z.2.1, z.2.2.1, z.2.2.2.1, s9, B9, z.2.2.2.2.2.2) (by kernel_rfl) (pickT (show Cl _ (((([_, _, _] ++ z.2.2.2.2.2.1) ++ z.2.2.2.1) ++ BsM) ++ B9) _ from hW)) ⟨by simp only; omega, by simp only [hpf]; exact hzn, by simp only [hpf]; exact hO, .inr ⟨by simp only; omega, .inr (by rw [htm]; exact h9)⟩⟩ (by simp only; omega)
   ·intro hc3
    replace hc3 := of_decide_eq_false hc3
    have hm1 : (membersN s (qn l z.1) (qm l z.1) (p2 s.d.toNat)).length ≠ 1 := by omega
    have hpf : pfx s l low (z.1 + 1) = pfx s l low z.1 ++ splitV s (qn l z.1) (qm l z.1) := by rw [hzl, pfx_mid, mid_two (by rw [← hzl]; exact hm1)]
    have hsp2 := (split_perm hs (hb z.1 (by omega)) hm1).2.1
    have htm : takenM s l nm low = nm := by rw [← hzl]; exact if_neg hm1
    replace hW := (show Cl _ ((([_, _, _] ++ z.2.2.2.2.2.1) ++ z.2.2.2.1) ++ BsM) _ from hW).sub (List.sublist_append_left _ _)
    refine l_end (n_then ?_)
    refine c_false rfl ?_
    refine c_regM hW [] [.q, .q, .q, .q, .q, .q, .q, .mk 0, .tail, .tail] [⟨50, fun _ => NewSl 64 2 2 (sl2 (splitV s (qn l z.1) (qm l z.1)))⟩] [[]] [7] [0, 0, 0, 4, 0, 28, 60, 126, 255, 511] (by kernel_rfl) (by kernel_rfl) rfl (by kernel_rfl) ?_
    refine yS ?_
    refine y_loadA 2 tyA26 rfl rfl rfl rfl rfl (by first | rfl | exact kc_len _ | exact kcf_len _ | exact boC_len _ _ | (simp; done)) (by decide) ?_
    refine y_val (r_fieldAddr 1 Tryz.underlying38 rfl tyC33.size rfl rfl rfl) rfl rfl ?_
    refine y_loadC 1 tyC33 rfl rfl rfl rfl rfl rfl (by decide) ?_
    refine yI ?_
    refine y_val (r_indexAddrSlB (n := z.1) Tryz.underlying33 tyA64.size rfl rfl rfl (by omega)) rfl rfl ?_
    refine y_loadF2 tyA64 (hc z.1 (by omega)).1 (hc z.1 (by omega)).2 (by kernel_rfl) rfl rfl rfl ?_
    refine y_callX 0 (g_rSplitOf s (qn l z.1) (qm l z.1) hs (hb z.1 (by omega)) hm1) en160 rfl rfl (fun _ _ _ _ => trivial) rfl rfl ?_
    refine y_tail ?_
    refine y_made ?_
    rintro _ _ ⟨aS, cS, rfl, hOS⟩
    obtain ⟨gs, curS, rfl, rfl, -, -, htS⟩ := hOS.row (by omega)
    intro W hW
    refine l_append tyE33 (L := _ :: ([_, _, _] ++ z.2.2.2.2.2.1)) hO hW (news := sl2 (splitV s (qn l z.1) (qm l z.1))) (N := (pfx s l low (z.1 + 1)).length) (by rw [hpf, List.length_append]; omega) rfl rfl rfl rfl rfl (by rw [sl2_len, hsp2]) (fun j u hu => by rw [cells_of (hW.at 0 rfl), Nat.zero_add]; exact take_get htS hu) (sl2_one _) (by unfold maxLen; omega) (by omega) ?_
    intro a1 c1 Bs1 W hO1 hW
    replace hO1 := hO1.castx rfl (xs' := sl2 (pfx s l low (z.1 + 1))) (by rw [hpf, sl2_append])
    refine bS ?_
    refine l_end (n_block (n_then (c_reg ?_)))
    refine aI ?_
    refine l_val (r_addN (n := 1) rfl rfl rfl (by omega)) rfl rfl ?_
    refine bI ?_
    refine l_end (n_then ?_)
    exact loop_next (z.1 + 1, a1, c1, Bs1, z.2.2.2.2.1, z.2.2.2.2.2.1, (pfx s l low (z.1 + 1)).length) (by kernel_rfl) (show Cl _ (([_, _, _] ++ z.2.2.2.2.2.1) ++ Bs1) _ from (hW.drop 1)) ⟨by simp only; omega, rfl, hO1, .inr ⟨by simp only; omega, .inl ⟨hp2, hbn, htm⟩⟩⟩ (by simp only; omega)
 ·intro hc1
  replace hc1 := of_decide_eq_false hc1
  refine l_end (n_then ?_)
  refine c_false rfl ?_
  refine c_exit (x_then (x_then ?_))
  refine x_hit ?_
  refine n_then (c_seq (c_reg ?_))
  refine aS ?_
  refine l_val (r_fieldAddr 1 Tryz.underlying38 rfl tyC33.size rfl rfl rfl) rfl rfl ?_
  refine l_storeC hW 1 tyC33 (v := .slice _ _ _) rfl rfl rfl rfl rfl rfl (by first | rfl | omega | (simp; done) | (simp; omega)) rfl ?_
  intro W hW
  refine l_end (n_then (c_seq (c_reg ?_)))
  refine dA hW 1 tyA38 ?_
  refine sA hW 0 tyA38 ?_
  intro W hW
  refine l_end (n_then (c_ret ?_))
  refine rC hW 0 tyA38 ?_
  have ez : z.1 = l.length := by omega
  have hall : pfx s l low z.1 = taken s l low := by rw [ez]; exact pfx_all hlow
  rw [hall] at hzn hO
  rw [hzn] at hO
  have hn2 := hnm.resolve_left (fun h => by have := h.1; omega)
  exact ⟨_, z.2.2.2.2.2.1 ++ z.2.2.2.1, rfl, ⟨z.2.2.2.2.1, z.2.1, z.2.2.1, z.2.2.2.2.2.1, z.2.2.2.1, by rw [← hzn]; rfl, rfl, hO, hn2.2⟩, pickE (show Cl _ (([_, _, _] ++ z.2.2.2.2.2.1) ++ z.2.2.2.1) _ from hW)⟩

end Go.Proofs.YtoegpalacppllaaGreat

/- A trace at work, in memory; results of two structs; copies of lists of subsets. No function of the program is in sight here. -/
namespace Go.Proofs.YtoegpalacppllaaGreat
open Go.RowKit Pl Tr Hn
/-- a trace at work, and where it stands: the coalition, who was named, the partition -/
structure TrS where
  t : Ts
  tb : Sl
  bb : List Blk
  n2 : Sl
  bn : List Blk
  la : Option Addr
  lc : Nat
  bl : List Blk
structure TrI (e : TypeId) (w : World) (N : Nat) (b0 : Bo) (tot : List Int) (t0 : Ts) (z : TrS) : Prop where
  tin : Tin N b0 tot z.t
  eq : traced N t0 = traced N z.t
  rd : ∀ W, Cl (base w) z.bb W → RdI W z.tb b0.l
  nm : NewI z.n2 z.t.nm z.bn
  ls : OwnSl e 2 z.la z.t.l.length z.lc (sl2 z.t.l) z.bl
/-- a finding and a box in new memory -/
def foundX (e : TypeId) (R : Ts × Nat) (fv bv : List Value) (Bs : List Blk) : Prop := ∃ (n2 : Sl) (la : Option Addr) (lc : Nat) (s2 : Sl) (BN BL BB : List Blk), fv = fiC n2 ⟨la, R.1.l.length, lc⟩ R.1.a R.2 ∧ bv = boC R.1.b s2 ∧ Bs = (BN ++ BL) ++ BB ∧ NewI n2 R.1.nm BN ∧ OwnSl e 2 la R.1.l.length lc (sl2 R.1.l) BL ∧ NewI s2 R.1.b.l BB
theorem found_no (e : TypeId) : foundX e (⟨noBo, [], [], 0⟩, 0) (fiC Sl.no ⟨none, 0, 0⟩ 0 0) (boC noBo Sl.no) [] := ⟨Sl.no, none, 0, Sl.no, [], [], [], rfl, rfl, rfl, NewI.no, OwnSl.nil e 2, NewI.no⟩
section
variable {P : Program} {ops : Array Oper} {Q : Exit → Act → World → Prop} {bs : List Value} {us : List (Nat × Value)} {ds : List Deferred} {w0 : Base} {W W' : World} {rest : List Oper} {o : Oper} {L Bs : List Blk} {d : Nat} {v : Value} {r : Option (Option Nat)} {m : Nat} {fn : Func} {R' : Ending → World → Prop}
theorem ret_cell2 {p1 p2 : Tmp} {t1 t2 : TypeId} {n1 n2 : Nat} {g1 g2 : Nat} {cs1 cs2 : List Value} {y1 y2 : TypeId} (hW : Cl w0 L W) (q1 q2 : Nat) (ht1 : TyA P t1 n1) (ht2 : TyA P t2 n2) (hr : fn.results = #[.cell p1 t1, .cell p2 t2])
    (hp1 : look bs us p1 = .pointer (some ⟨g1, 0, none⟩)) (hp2 : look bs us p2 = .pointer (some ⟨g2, 0, none⟩)) (hL1 : L[q1]? = some ⟨g1, cs1, y1⟩) (hL2 : L[q2]? = some ⟨g2, cs2, y2⟩) (hn1 : cs1.length = n1) (hn2 : cs2.length = n2)
    (h : R' (.returned (.tuple #[.agg cs1.toArray, .agg cs2.toArray])) W) : bodyPost P fn R' .ret (fr bs us []) W := by
  refine ⟨rfl, _, ?_, h⟩
  have e1 := run_load_agg ht1 W (hW.at q1 hL1) (i := 0) (by simp only; omega)
  have e2 := run_load_agg ht2 W (hW.at q2 hL2) (i := 0) (by simp only; omega)
  have f1 : (toL bs us).toArray.getD p1 undef = .pointer (some ⟨g1, 0, none⟩) := by rw [nth_getD, ← look_nth]; exact hp1
  have f2 : (toL bs us).toArray.getD p2 undef = .pointer (some ⟨g2, 0, none⟩) := by rw [nth_getD, ← look_nth]; exact hp2
  have d1 : (cs1.drop 0).take n1 = cs1 := by simp [← hn1]
  have d2 : (cs2.drop 0).take n2 = cs2 := by simp [← hn2]
  rw [d1] at e1; rw [d2] at e2
  show (results fn (toL bs us).toArray).run P W = _
  rw [Array.getD_eq_getD_getElem?] at f1 f2
  simp at f1 f2
  simp [results, hr, asAddr, f1, f2, e1, e2]
theorem ret_cell2_tmp {p1 p2 q : Tmp} {t1 t2 : TypeId} {n1 n2 : Nat} {g1 g2 : Nat} {cs1 cs2 : List Value} {y1 y2 : TypeId} (hW : Cl w0 L W) (q1 q2 : Nat) (ht1 : TyA P t1 n1) (ht2 : TyA P t2 n2) (hr : fn.results = #[.cell p1 t1, .cell p2 t2, .tmp q])
    (hp1 : look bs us p1 = .pointer (some ⟨g1, 0, none⟩)) (hp2 : look bs us p2 = .pointer (some ⟨g2, 0, none⟩)) (hL1 : L[q1]? = some ⟨g1, cs1, y1⟩) (hL2 : L[q2]? = some ⟨g2, cs2, y2⟩) (hn1 : cs1.length = n1) (hn2 : cs2.length = n2) (hv : look bs us q = v)
    (h : R' (.returned (.tuple #[.agg cs1.toArray, .agg cs2.toArray, v])) W) : bodyPost P fn R' .ret (fr bs us []) W := by
  refine ⟨rfl, _, ?_, h⟩
  have e1 := run_load_agg ht1 W (hW.at q1 hL1) (i := 0) (by simp only; omega)
  have e2 := run_load_agg ht2 W (hW.at q2 hL2) (i := 0) (by simp only; omega)
  have f1 : (toL bs us).toArray.getD p1 undef = .pointer (some ⟨g1, 0, none⟩) := by rw [nth_getD, ← look_nth]; exact hp1
  have f2 : (toL bs us).toArray.getD p2 undef = .pointer (some ⟨g2, 0, none⟩) := by rw [nth_getD, ← look_nth]; exact hp2
  have f3 : (toL bs us).toArray.getD q undef = v := by rw [nth_getD, ← look_nth]; exact hv
  have d1 : (cs1.drop 0).take n1 = cs1 := by simp [← hn1]
  have d2 : (cs2.drop 0).take n2 = cs2 := by simp [← hn2]
  rw [d1] at e1; rw [d2] at e2
  show (results fn (toL bs us).toArray).run P W = _
  rw [Array.getD_eq_getD_getElem?] at f1 f2 f3
  simp at f1 f2 f3
  simp [results, hr, asAddr, f1, f2, f3, e1, e2]
/-- a call of a function value that hands back memory of its own -/
theorem l_callVX (hW : Cl w0 L W) {f : FuncId} {x : Operand} {xs : Array Operand} {ts : Array TypeId} {args cap : List Value} {Pre : World → Prop} {X : Value → List Blk → Prop} (hgv : GivesX P f (args ++ cap).toArray Pre X) (he : Enters P f) (hp : Pre W) (hg : o.guard = none) (ho : o.op = .call { callee := .value x, args := xs, argTypes := ts }) (hx : ev bs us x = .func (.func f) #[] cap.toArray) (ha : xs.toList.map (ev bs us) = args) (hd : o.dst = some d)
    (h : ∀ v Bs W', X v Bs → Cl w0 (L ++ Bs) W' → LW r m P ops Q rest (fr bs ((d, v) :: us) ds) W') : LW r m P ops Q (o :: rest) (fr bs us ds) W :=
  l_enter hg (run_callV he ho hx ha) hd ((hgv W hp).mono fun _ w ⟨v, Bs, he, hx, hc⟩ => ⟨v, he, h v Bs w hx (hW.beside hc)⟩)
/-- subsets that are appended to what is empty -/
theorem twinB {t e bytes : Nat} (hE : TyE P t e 2 bytes) {g : Nat} (hW : Cl w0 (⟨g, [], e⟩ :: L) W) (ty : TypeId) {s : Sl} {l : List (Int × Int)} (hr : RdB W s l) (b1 : l.length ≤ maxLen) (b2 : l.length * bytes ≤ 140737488355328) :
    ∃ a' c' Bs W', (Builtin.append_ #[t, t] ty #[.slice (some ⟨g, 0, none⟩) 0 0, s.v]).run P W = .ok (.slice a' l.length c') W' ∧ OwnSl e 2 a' l.length c' (sl2 l) Bs ∧ Cl w0 (L ++ Bs) W' := by
  have hn := hr.len
  obtain ⟨a, n, c⟩ := s
  simp only at hn
  subst hn
  obtain ⟨a', c', Bs, W', hrun, h, hC⟩ := fresh_append hE hW ty ⟨g, 0, none⟩ hr.rd (n := l.length) (c := c) (by rw [sl2_len]; omega) (fun h => by
    have h1 := hr.ok.nil h
    have h2 := hr.ok.le
    simp only at h1 h2
    omega) b1 b2
  rcases h with ⟨h0, rfl, rfl, rfl⟩ | hO
  · refine ⟨_, _, [⟨g, [], e⟩], W', hrun, ?_, ?_⟩
    · have hl : l = [] := List.eq_nil_of_length_eq_zero h0
      subst hl
      exact OwnSl.full (n := 0) rfl (Nat.zero_le _)
    · rw [List.append_nil] at hC
      exact hC.perm (List.perm_append_singleton _ _).symm
  · exact ⟨a', c', Bs, W', hrun, hO, (show Cl w0 (_ :: (L ++ Bs)) W' from hC).drop 1⟩
theorem l_twinB {t e bytes : Nat} (hE : TyE P t e 2 bytes) {g : Nat} (hW : Cl w0 (⟨g, [], e⟩ :: L) W) {s : Sl} {l : List (Int × Int)} {x y : Operand} (hr : RdB W s l) (b1 : l.length ≤ maxLen) (b2 : l.length * bytes ≤ 140737488355328) (hg : o.guard = none) (ho : o.op = .call { callee := .builtin .append, args := #[y, x], argTypes := #[t, t] }) (hy : ev bs us y = .slice (some ⟨g, 0, none⟩) 0 0) (hx : ev bs us x = s.v) (hd : o.dst = some d)
    (h : ∀ a' c' Bs W', OwnSl e 2 a' l.length c' (sl2 l) Bs → Cl w0 (L ++ Bs) W' → LW r m P ops Q rest (fr bs ((d, .slice a' l.length c') :: us) ds) W') : LW r m P ops Q (o :: rest) (fr bs us ds) W := by
  obtain ⟨a', c', Bs, W', hrun, hO, hC⟩ := twinB hE hW o.type hr b1 b2
  exact l_run hg (run_append_op ho hy hx hrun) hd (h a' c' Bs W' hO hC)
end
theorem pickN {b : Base} {W : World} {X A B C D E F G H K : List Blk} {n2 n4 : Sl} {nm nm' : List Int} (h : Cl b ((((((((X ++ A) ++ B) ++ C) ++ D) ++ E) ++ F) ++ G) ++ (H ++ K)) W) (hn : NewI n2 nm B) (h4 : (n4 = n2 ∧ H = [] ∧ nm' = nm) ∨ NewI n4 nm' H) : ∃ B', NewI n4 nm' B' ∧ Cl b (((X ++ G) ++ B') ++ K) W := by
  rcases h4 with ⟨rfl, rfl, rfl⟩ | h4
  · exact ⟨B, hn, h.pick (A ++ (C ++ (D ++ (E ++ F)))) (by classical exact List.perm_iff_count.2 fun x => by simp only [List.count_append, List.count_nil]; omega)⟩
  · exact ⟨H, h4, h.pick (A ++ (B ++ (C ++ (D ++ (E ++ F))))) (by classical exact List.perm_iff_count.2 fun x => by simp only [List.count_append]; omega)⟩
theorem pick1 {b : Base} {W : World} {X A B C D E : List Blk} (h : Cl b (((((X ++ A) ++ B) ++ C) ++ D) ++ E) W) : Cl b ((B ++ C) ++ E) W := h.pick (X ++ (A ++ D)) (by classical exact List.perm_iff_count.2 fun x => by simp only [List.count_append]; omega)
theorem pick2 {b : Base} {W : World} {X A B C D E F G : List Blk} (h : Cl b (((((((X ++ A) ++ B) ++ C) ++ D) ++ E) ++ F) ++ G) W) : Cl b ((B ++ C) ++ G) W := h.pick (X ++ (A ++ (D ++ (E ++ F)))) (by classical exact List.perm_iff_count.2 fun x => by simp only [List.count_append]; omega)
end Go.Proofs.YtoegpalacppllaaGreat

/- A trace, by the reference. -/
namespace Go.Proofs.YtoegpalacppllaaGreat
open Go.RowKit Pl
open Tr Hn
set_option maxRecDepth 10000 in
set_option maxHeartbeats 2000000 in
/-- headend/headendref08.Traced -/
theorem g_rTraced (b : Bo) (t : Sl) (ra : Option Addr) (rn rc : Nat) (l : List (Int × Int)) (nn : Nat) (hs : schB b.s = true) (hu : usersB b.l ((p2 b.s.d.toNat : Nat) : Int) = true) (n0 : 0 ≤ b.n) (n8 : b.n ≤ 8) (x0 : 0 ≤ b.x) (x1 : b.x ≤ b.a) (hl : b.l.length ≤ 100) (hn : nn ≤ 8) (hq : l.length ≤ 64) (hb : ∀ i, i < l.length → subB b.s (qn l i) (qm l i) = true) (hnd : (allm b.s l).Nodup) (hlim : b.a + ((((2 * p2 b.s.d.toNat + 1) * ((b.s.d.toNat + 2) * (2 * nn + 1))) : Nat) : Int) ≤ 100000) : GivesX Tryz.prog 77 [.agg (boC b t).toArray, .slice ra rn rc, .int .i64 (nn : Int)].toArray (fun w => RdI w t b.l ∧ RdB w ⟨ra, rn, rc⟩ l) (fun v Bs => ∃ fv bv : List Value, v = .tuple #[.agg fv.toArray, .agg bv.toArray] ∧ foundX 64 (traced (2 * nn + 1) ⟨b, l, [], 0⟩) fv bv Bs) := by
 refine givesX_of Tryz.func77 rfl (bs := [.agg (boC b t).toArray, .slice ra rn rc, .int .i64 (nn : Int), undef, undef, undef, undef, undef, undef, undef, undef, undef, undef, undef, undef, undef, undef, undef, undef, undef, undef, undef, undef, undef, undef, undef, undef, undef, undef, undef, undef, undef, undef, undef, undef, undef, undef, undef, undef, undef, undef, undef, undef, undef, undef, undef, undef, undef, undef, undef, undef, undef, undef, undef, undef, undef, undef, undef, undef, undef, undef, undef, undef, undef, undef, undef, undef, undef, undef, undef, undef, undef, undef, undef, undef, undef, undef]) rfl ?_
 intro w hP hW
 have hrl : rn = l.length := hP.2.len
 obtain ⟨k1, k3, d0, d6, -⟩ := schB_iff.1 hs
 have hp6 := p2_le (n := b.s.d.toNat) (by omega)
 have hrg : ∀ x ∈ allm b.s l, 0 ≤ x ∧ x < 64 := fun x hx => by
  have := all_lt hx
  omega
 refine c_seq (c_reg ?_)
 refine xB hW ?_
 intro g1 W hW
 refine l_alloc hW tyZ38 rfl rfl rfl ?_
 intro g2 W hW
 refine l_alloc hW tyZ31 rfl rfl rfl ?_
 intro g3 W hW
 refine l_end (n_then (c_seq (c_reg ?_)))
 refine l_buildSliceF hW bsl33_0_ rfl rfl rfl rfl ?_
 intro ge W hW
 refine aS ?_
 refine l_twinB tyE33 hW (s := ⟨ra, rn, rc⟩) (hP.2.past hW.below) (by unfold maxLen; omega) (by omega) rfl rfl rfl rfl rfl ?_
 intro a0 c0 B0 W hO0 hW
 refine l_val (r_build (ps := [(1, .slice _ _ _)]) (bld38_1 _ _ _) rfl rfl) rfl rfl ?_
 refine l_alloc hW tyZ38 rfl rfl rfl ?_
 intro g4 W hW
 refine sA hW 0 tyA38 ?_
 intro W hW
 refine l_end (n_then (c_block ?_))
 refine c_loop (fun (z : TrS) (j : Nat → Value) => [.agg (boC b t).toArray, .slice ra rn rc, .int .i64 (nn : Int), .pointer (some ⟨g1, 0, none⟩), j 4, j 5, .pointer (some ⟨g2, 0, none⟩), .pointer (some ⟨g3, 0, none⟩), .pointer (some ⟨g4, 0, none⟩), j 9, j 10, j 11, j 12, j 13, .slice (some ⟨ge, 0, none⟩) 0 0, .slice ra rn rc, .slice a0 l.length c0, .agg ([.slice none 0 0, .slice a0 l.length c0, .int .i64 0, .int .u8 0]).toArray, j 18, j 19, j 20, j 21, j 22, j 23, j 24, j 25, j 26, j 27, j 28, j 29, j 30, j 31, j 32, j 33, j 34, j 35, j 36, j 37, j 38, j 39, j 40, j 41, j 42, j 43, j 44, j 45, j 46, j 47, j 48, j 49, j 50, j 51, j 52, j 53, j 54, j 55, j 56, j 57, j 58, j 59, j 60, j 61, j 62, j 63, j 64, j 65, j 66, j 67, j 68, j 69, j 70, j 71, j 72, j 73, j 74, j 75, j 76]) (fun (z : TrS) => [⟨g4, [.slice z.n2.a z.n2.n z.n2.c, .slice z.la z.t.l.length z.lc, .int .i64 (z.t.a : Int), .int .u8 0], 38⟩, ⟨g3, z31, 31⟩, ⟨g2, z38, 38⟩, ⟨g1, (boC z.t.b z.tb), 31⟩] ++ z.bb ++ z.bn ++ z.bl) (fun (z : TrS) => TrI 64 w (2 * nn + 1) b (allm b.s l) ⟨b, l, [], 0⟩ z) (fun (z : TrS) => z.t.pot) (⟨⟨b, l, [], 0⟩, t, [], Sl.no, [], a0, c0, B0⟩ : TrS) (by kernel_rfl) (by simpa using hW) ⟨Tin.first hs x0 x1 hb hnd, rfl, fun W hC => hP.1.past hC.below, NewI.no, hO0⟩ ?_
 intro z j W hx hW
 obtain ⟨ht, heq, hrd, hnm, hls⟩ := hx
 have ha := ht.ask
 have e1 := ha.a
 have e2 := ha.n
 have e3 := ha.x0
 have e4 := ha.x1
 have hbs := ha.s
 have hbl := ha.l
 obtain ⟨hlen1, hlen2⟩ := len_le hs hnd ht.part
 have hfit := ht.fit
 rw [Nat.succ_mul] at hfit
 have hK := Nat.add_mul b.s.d.toNat 2 (2 * nn + 1)
 have hst : schB z.t.b.s = true := by rw [hbs]; exact hs
 have hut : usersB z.t.b.l ((p2 z.t.b.s.d.toNat : Nat) : Int) = true := by rw [hbs, hbl]; exact hu
 have hsubs : ∀ i, i < z.t.l.length → subB z.t.b.s (qn z.t.l i) (qm z.t.l i) = true := fun i hi => by rw [hbs]; exact ht.part.sub (qn z.t.l i, qm z.t.l i) (q_mem.2 ⟨i, hi, rfl⟩)
 have hrnd := ht.round hs hnd hrg
 have hnml : z.t.nm.length ≤ 64 := by
  have h1 : z.t.nm.Nodup := (List.nodup_append.1 ((ht.part.perm.nodup_iff).2 hnd)).2.1
  have h2 := List.Nodup.length_le_of_subset (l₂ := (List.range 64).map fun u : Nat => (u : Int)) h1 fun x hx => by
   have := hrg x (ht.part.perm.subset (List.mem_append_right _ hx))
   exact List.mem_map.2 ⟨x.toNat, List.mem_range.2 (by omega), by omega⟩
  simpa using h2
 refine c_block (c_seq (c_reg ?_))
 refine dA hW 3 tyA31 ?_
 refine l_val (r_fieldAddr 1 Tryz.underlying38 rfl tyC33.size rfl rfl rfl) rfl rfl ?_
 refine dC hW 0 tyC33 ?_
 refine l_callX hW (g_rOpens z.t.b z.tb z.la z.t.l.length z.lc z.t.l hst hut (by rw [hbl]; exact hl) (by omega) hsubs) en121 ⟨by rw [hbl]; exact hrd W (hW.sub (((List.sublist_append_right _ z.bb).trans (List.sublist_append_left _ z.bn)).trans (List.sublist_append_left _ z.bl))), hls.repB.at hW (List.sublist_append_right _ _)⟩ rfl rfl rfl rfl ?_
 rintro _ BO W ⟨ao, co, rfl, hOO⟩ hW
 have hOT : OwnSl 4 1 ao z.t.l.length co (tl z.t.o) BO := hOO
 have hol : z.t.o.length ≤ 64 := by rw [opens_length]; omega
 refine bS ?_
 refine l_end (n_then (c_seq (c_reg ?_)))
 refine dA hW 3 tyA31 ?_
 refine aS ?_
 refine aI ?_
 refine l_callX hW (g_rseen z.t.b z.tb ao z.t.l.length co z.t.o 0 nn (by omega) (by omega) (by omega) (by omega) (by rw [hbl]; exact hl) hn (by omega) (by omega)) en122 ⟨by rw [hbl]; exact hrd W (hW.sub ((((List.sublist_append_right _ z.bb).trans (List.sublist_append_left _ z.bn)).trans (List.sublist_append_left _ z.bl)).trans (List.sublist_append_left _ BO))), hOT.repT.at hW (List.sublist_append_right _ BO)⟩ rfl rfl rfl rfl ?_
 rintro _ B1 W ⟨s1, rfl, hN1⟩ hW
 obtain ⟨r1, hr1⟩ : ∃ r, r = seenN z.t.o 0 (2 * nn + 1) z.t.b 0 := ⟨_, rfl⟩
 have hsa1 : seenN z.t.o 0 (2 * nn + 1) z.t.b (z.t.a) = (r1.1, r1.2.1, z.t.a + r1.2.2) := by rw [hr1]; exact seenN_add z.t.o 0 (z.t.a) (2 * nn + 1) z.t.b 0
 obtain ⟨m1, hm1a, hm1b, hm1c, -⟩ := seenN_run z.t.o 0 (2 * nn + 1) 0 (Askd.refl e3 e4)
 rw [← hr1] at hm1b hm1c ⊢
 have ha1 : Askd b r1.1 (z.t.a + r1.2.2) := by
  rw [hm1c]; exact ha.trans hm1b
 have f1a := ha1.a
 have f1n := ha1.n
 have f10 := ha1.x0
 have f11 := ha1.x1
 rw [hbl] at hN1
 refine l_val (r_move (v := .tuple _) rfl rfl) rfl rfl ?_
 refine l_val (r_extract (v := .agg _) rfl rfl rfl) rfl rfl ?_
 refine l_val (r_extract (v := .bool _) rfl rfl rfl) rfl rfl ?_
 refine l_split ?_ ?_
 ·intro hc1
  have hpos : 0 < z.t.o.length := seenN_pos (k := 2 * nn + 1) (b := z.t.b) (n := 0) (f := 0) (by rw [← hr1]; exact hc1)
  refine l_val (r_extract (v := .int _ _) rfl rfl rfl) rfl rfl ?_
  refine l_alloc hW tyZ31 rfl rfl rfl ?_
  intro g5 W hW
  refine sA hW 0 tyA31 ?_
  intro W hW
  refine bB ?_
  refine bI ?_
  refine l_end (n_then (c_seq (c_reg ?_)))
  refine l_val (r_fieldAddr 2 Tryz.underlying38 rfl tyC3.size rfl rfl rfl) rfl rfl ?_
  refine dC hW 1 tyC3 ?_
  refine aI ?_
  refine l_val (r_addN rfl rfl rfl (by omega)) rfl rfl ?_
  refine l_val (r_fieldAddr 2 Tryz.underlying38 rfl tyC3.size rfl rfl rfl) rfl rfl ?_
  refine l_storeC hW 1 tyC3 (v := .int _ _) rfl rfl rfl rfl rfl rfl (by first | rfl | omega | (simp; done) | (simp; omega)) rfl ?_
  intro W hW
  refine l_end (n_then (c_seq (c_seq (c_reg ?_))))
  refine aB ?_
  refine l_val (r_not rfl rfl) rfl rfl ?_
  refine l_end (n_then ?_)
  refine c_false rfl ?_
  refine c_skip (n_then (c_seq (c_reg ?_)))
  refine dA hW 0 tyA31 ?_
  refine aS ?_
  refine aI ?_
  refine l_callX hW (g_rsearch r1.1 s1 ao z.t.l.length co z.t.o nn b.s.d.toNat (by omega) (by omega) (by omega) (by omega) (by rw [ha1.l]; exact hl) hn (by omega) (by rw [opens_length]; omega) (by omega)) en123 ⟨by rw [ha1.l]; exact hN1.rep.at (show Cl _ ((((([_, _, _, _, _] ++ z.bb) ++ z.bn) ++ z.bl) ++ BO) ++ B1) _ from hW) (List.sublist_append_right _ B1), hOT.repT.at (show Cl _ ((((([_, _, _, _, _] ++ z.bb) ++ z.bn) ++ z.bl) ++ BO) ++ B1) _ from hW) ((List.sublist_append_right _ BO).trans (List.sublist_append_left _ B1))⟩ rfl rfl rfl rfl ?_
  rintro _ B2 W ⟨s2, rfl, hN2⟩ hW
  rw [ha1.l] at hN2
  obtain ⟨r2, hr2⟩ : ∃ r, r = searchN z.t.o (2 * nn + 1) z.t.o.length 0 z.t.o.length r1.1 0 := ⟨_, rfl⟩
  have hsa2 : searchN z.t.o (2 * nn + 1) z.t.o.length 0 z.t.o.length r1.1 (z.t.a + r1.2.2) = (r2.1, r2.2.1, z.t.a + r1.2.2 + r2.2.2) := by rw [hr2]; exact searchN_add z.t.o (2 * nn + 1) (z.t.a + r1.2.2) z.t.o.length 0 z.t.o.length r1.1 0
  obtain ⟨m2, hm2a, hm2b, hm2c, -, hm2e⟩ := searchN_run z.t.o (2 * nn + 1) z.t.o.length (i := b.s.d.toNat) (low := 0) (high := z.t.o.length) 0 (Askd.refl f10 f11) hpos (by rw [opens_length]; omega)
  rw [← hr2] at hm2b hm2c hm2e ⊢
  have ha2 : Askd b r2.1 (z.t.a + r1.2.2 + r2.2.2) := by
   rw [hm2c]; exact ha1.trans hm2b
  have f2a := ha2.a
  have f2n := ha2.n
  have f20 := ha2.x0
  have f21 := ha2.x1
  have hrd2 : ∀ W, Cl (base w) (B1 ++ B2) W → RdI W s2 b.l := fun W hC => by
   rcases hN2 with ⟨h1, -⟩ | h1
   ·rw [h1]; exact hN1.rep.at hC (List.sublist_append_left B1 B2)
   ·exact h1.rep.at hC (List.sublist_append_right B1 B2)
  refine l_val (r_move (v := .tuple _) rfl rfl) rfl rfl ?_
  refine l_val (r_extract (v := .agg _) rfl rfl rfl) rfl rfl ?_
  refine l_val (r_extract (v := .int _ _) rfl rfl rfl) rfl rfl ?_
  refine l_val (r_extract (v := .int _ _) rfl rfl rfl) rfl rfl ?_
  refine sA hW 0 tyA31 ?_
  intro W hW
  refine bI ?_
  refine bI ?_
  refine l_end (n_then (c_seq (c_reg ?_)))
  refine l_val (r_fieldAddr 2 Tryz.underlying38 rfl tyC3.size rfl rfl rfl) rfl rfl ?_
  refine dC hW 1 tyC3 ?_
  refine aI ?_
  refine l_val (r_addN rfl rfl rfl (by omega)) rfl rfl ?_
  refine l_val (r_fieldAddr 2 Tryz.underlying38 rfl tyC3.size rfl rfl rfl) rfl rfl ?_
  refine l_storeC hW 1 tyC3 (v := .int _ _) rfl rfl rfl rfl rfl rfl (by first | rfl | omega | (simp; done) | (simp; omega)) rfl ?_
  intro W hW
  refine l_end (n_then (c_seq (c_reg ?_)))
  refine dA hW 0 tyA31 ?_
  refine aS ?_
  refine aI ?_
  refine l_callX hW (g_rseen r2.1 s2 ao z.t.l.length co z.t.o 0 nn (by omega) (by omega) (by omega) (by omega) (by rw [ha2.l]; exact hl) hn (by omega) (by omega)) en122 ⟨by rw [ha2.l]; exact hrd2 W (pickE (show Cl _ (((((([_, _, _, _, _] ++ z.bb) ++ z.bn) ++ z.bl) ++ BO) ++ B1) ++ B2) _ from hW)), hOT.repT.at (show Cl _ (((((([_, _, _, _, _] ++ z.bb) ++ z.bn) ++ z.bl) ++ BO) ++ B1) ++ B2) _ from hW) (((List.sublist_append_right _ BO).trans (List.sublist_append_left _ B1)).trans (List.sublist_append_left _ B2))⟩ rfl rfl rfl rfl ?_
  rintro _ B3 W ⟨s3, rfl, hN3⟩ hW
  obtain ⟨r3, hr3⟩ : ∃ r, r = seenN z.t.o 0 (2 * nn + 1) r2.1 0 := ⟨_, rfl⟩
  have hsa3 : seenN z.t.o 0 (2 * nn + 1) r2.1 (z.t.a + r1.2.2 + r2.2.2) = (r3.1, r3.2.1, z.t.a + r1.2.2 + r2.2.2 + r3.2.2) := by rw [hr3]; exact seenN_add z.t.o 0 (z.t.a + r1.2.2 + r2.2.2) (2 * nn + 1) r2.1 0
  obtain ⟨m3, hm3a, hm3b, hm3c, -⟩ := seenN_run z.t.o 0 (2 * nn + 1) 0 (Askd.refl f20 f21)
  rw [← hr3] at hm3b hm3c ⊢
  have ha3 : Askd b r3.1 (z.t.a + r1.2.2 + r2.2.2 + r3.2.2) := by
   rw [hm3c]; exact ha2.trans hm3b
  have f3a := ha3.a
  have f3n := ha3.n
  have f30 := ha3.x0
  have f31 := ha3.x1
  rw [ha2.l] at hN3
  refine l_val (r_move (v := .tuple _) rfl rfl) rfl rfl ?_
  refine l_val (r_extract (v := .agg _) rfl rfl rfl) rfl rfl ?_
  refine l_val (r_extract (v := .bool _) rfl rfl rfl) rfl rfl ?_
  refine l_split ?_ ?_
  ·intro hc2
   refine l_val (r_extract (v := .int _ _) rfl rfl rfl) rfl rfl ?_
   refine sA hW 0 tyA31 ?_
   intro W hW
   refine bB ?_
   refine bI ?_
   refine l_end (n_then (c_seq (c_reg ?_)))
   refine l_val (r_fieldAddr 2 Tryz.underlying38 rfl tyC3.size rfl rfl rfl) rfl rfl ?_
   refine dC hW 1 tyC3 ?_
   refine aI ?_
   refine l_val (r_addN rfl rfl rfl (by omega)) rfl rfl ?_
   refine l_val (r_fieldAddr 2 Tryz.underlying38 rfl tyC3.size rfl rfl rfl) rfl rfl ?_
   refine l_storeC hW 1 tyC3 (v := .int _ _) rfl rfl rfl rfl rfl rfl (by first | rfl | omega | (simp; done) | (simp; omega)) rfl ?_
   intro W hW
   refine l_end (n_then (c_seq (c_reg ?_)))
   refine dA hW 0 tyA31 ?_
   refine sA hW 4 tyA31 ?_
   intro W hW
   refine l_end (n_then (c_seq (c_seq (c_reg ?_))))
   refine aB ?_
   refine l_val (r_not rfl rfl) rfl rfl ?_
   refine l_end (n_then ?_)
   refine c_false rfl ?_
   refine c_skip (n_then (c_reg ?_))
   refine l_val (r_fieldAddr 0 Tryz.underlying31 rfl tyA26.size rfl rfl rfl) rfl rfl ?_
   refine l_loadP hW 4 tyA26 rfl rfl rfl rfl rfl (by first | rfl | omega | (simp; done) | (simp; omega)) rfl ?_
   refine dA hW 1 tyA38 ?_
   refine aI ?_
   have hs3 : r3.1.s = z.t.b.s := ha3.s.trans hbs.symm
   refine l_callX hW (g_rtaken r3.1.s z.n2.a z.n2.n z.n2.c z.t.nm z.la z.t.l.length z.lc z.t.l (z.t.a + r1.2.2 + r2.2.2 + r3.2.2) 0 r2.2.1 (by rw [hs3]; exact hst) (by rw [hs3]; exact hsubs) (by rw [← opens_length]; exact hm2e) (by omega) (by omega)) en124 ⟨hnm.rep.at (show Cl _ ((((((([_, _, _, _, _] ++ z.bb) ++ z.bn) ++ z.bl) ++ BO) ++ B1) ++ B2) ++ B3) _ from hW) ((((((List.sublist_append_right _ z.bn).trans (List.sublist_append_left _ z.bl)).trans (List.sublist_append_left _ BO)).trans (List.sublist_append_left _ B1)).trans (List.sublist_append_left _ B2)).trans (List.sublist_append_left _ B3)), hls.repB.at (show Cl _ ((((((([_, _, _, _, _] ++ z.bb) ++ z.bn) ++ z.bl) ++ BO) ++ B1) ++ B2) ++ B3) _ from hW) (((((List.sublist_append_right _ z.bl).trans (List.sublist_append_left _ BO)).trans (List.sublist_append_left _ B1)).trans (List.sublist_append_left _ B2)).trans (List.sublist_append_left _ B3))⟩ rfl rfl rfl rfl ?_
   rintro _ _ W ⟨n4, la4, lc4, BN4, BL4, rfl, rfl, hO4, hn4⟩ hW
   obtain ⟨tk, htk⟩ : ∃ k, k = taken r3.1.s z.t.l r2.2.1 := ⟨_, rfl⟩
   obtain ⟨tm, htm⟩ : ∃ k, k = takenM r3.1.s z.t.l z.t.nm r2.2.1 := ⟨_, rfl⟩
   rw [← htk] at hO4 ⊢
   rw [← htm] at hn4
   refine sA hW 1 tyA38 ?_
   intro W hW
   refine l_end (n_block (n_then ?_))
   have hround : roundN (2 * nn + 1) z.t = (⟨r3.1, tk, tm, z.t.a + r1.2.2 + r2.2.2 + r3.2.2⟩, 0) := by rw [round_0 (hsa1.trans (by rw [hc1])) hsa2 (hsa3.trans (by rw [hc2])), htk, htm, hs3]
   obtain ⟨BN9, hN9, kW⟩ := pickN (show Cl _ (((((((([_, _, _, _, _] ++ z.bb) ++ z.bn) ++ z.bl) ++ BO) ++ B1) ++ B2) ++ B3) ++ (BN4 ++ BL4)) _ from hW) hnm hn4
   have hin := (hrnd.1 (by rw [hround])).1
   have hpt := (hrnd.1 (by rw [hround])).2
   rw [hround] at hin hpt
   exact loop_next ⟨⟨r3.1, tk, tm, z.t.a + r1.2.2 + r2.2.2 + r3.2.2⟩, s3, B3, n4, BN9, la4, lc4, BL4⟩ (by kernel_rfl) (kW.drop 1) ⟨hin, heq.trans ((traced_0 hs hnd hrg ht (by rw [hround])).trans (by rw [hround])), fun W hC => hN3.rep.at hC (List.Sublist.refl _), hN9, hO4⟩ hpt
  ·intro hc2
   refine l_val (r_extract (v := .int _ _) rfl rfl rfl) rfl rfl ?_
   refine sA hW 0 tyA31 ?_
   intro W hW
   refine bB ?_
   refine bI ?_
   refine l_end (n_then (c_seq (c_reg ?_)))
   refine l_val (r_fieldAddr 2 Tryz.underlying38 rfl tyC3.size rfl rfl rfl) rfl rfl ?_
   refine dC hW 1 tyC3 ?_
   refine aI ?_
   refine l_val (r_addN rfl rfl rfl (by omega)) rfl rfl ?_
   refine l_val (r_fieldAddr 2 Tryz.underlying38 rfl tyC3.size rfl rfl rfl) rfl rfl ?_
   refine l_storeC hW 1 tyC3 (v := .int _ _) rfl rfl rfl rfl rfl rfl (by first | rfl | omega | (simp; done) | (simp; omega)) rfl ?_
   intro W hW
   refine l_end (n_then (c_seq (c_reg ?_)))
   refine dA hW 0 tyA31 ?_
   refine sA hW 4 tyA31 ?_
   intro W hW
   refine l_end (n_then (c_seq (c_seq (c_reg ?_))))
   refine aB ?_
   refine l_val (r_not rfl rfl) rfl rfl ?_
   refine l_end (n_then ?_)
   refine c_true rfl ?_
   refine c_seq (c_reg ?_)
   refine l_val (r_fieldAddr 3 Tryz.underlying38 rfl tyC5.size rfl rfl rfl) rfl rfl ?_
   refine l_storeC hW 1 tyC5 (v := .int _ _) rfl rfl rfl rfl rfl rfl (by first | rfl | omega | (simp; done) | (simp; omega)) rfl ?_
   intro W hW
   refine l_end (n_then (c_seq ?_))
   refine c_regY hW [3, 2] [.q, .q, .s, .s] [0, 0, 1, 7] (by kernel_rfl) (by kernel_rfl) ?_
   refine y_loadA 1 tyA38 rfl rfl rfl rfl rfl (by first | rfl | exact kc_len _ | exact kcf_len _ | exact boC_len _ _ | (simp; done)) (by decide) ?_
   refine y_loadA 4 tyA31 rfl rfl rfl rfl rfl (by first | rfl | exact kc_len _ | exact kcf_len _ | exact boC_len _ _ | (simp; done)) (by decide) ?_
   refine y_storeA 3 tyA38 rfl rfl rfl rfl rfl rfl (by first | rfl | exact kc_len _ | exact kcf_len _ | exact boC_len _ _ | (simp; done)) (by first | rfl | exact kc_len _ | exact kcf_len _ | exact boC_len _ _ | (simp; done)) (by first | exact kc_one _ | exact kcf_one _ | exact boC_one _ _ | (simp [Value.oneCell']; done)) (by decide) ?_
   refine y_storeA 2 tyA31 rfl rfl rfl rfl rfl rfl (by first | rfl | exact kc_len _ | exact kcf_len _ | exact boC_len _ _ | (simp; done)) (by first | rfl | exact kc_len _ | exact kcf_len _ | exact boC_len _ _ | (simp; done)) (by first | exact kc_one _ | exact kcf_one _ | exact boC_one _ _ | (simp [Value.oneCell']; done)) (by decide) ?_
   refine y_end ?_
   intro W hW
   refine n_then (c_ret (r_then (r_block (r_then (r_block ?_)))))
   refine ret_cell2 hW 3 2 tyA38 tyA31 rfl rfl rfl rfl rfl (by first | rfl | exact kc_len _ | exact kcf_len _ | exact boC_len _ _ | (simp; done)) (by first | rfl | exact kc_len _ | exact kcf_len _ | exact boC_len _ _ | (simp; done)) ?_
   have hround : roundN (2 * nn + 1) z.t = (⟨r3.1, z.t.l, z.t.nm, z.t.a + r1.2.2 + r2.2.2 + r3.2.2⟩, 2) := round_2 (hsa1.trans (by rw [hc1])) hsa2 (hsa3.trans (by rw [hc2]))
   have hR : traced (2 * nn + 1) ⟨b, l, [], 0⟩ = (⟨r3.1, z.t.l, z.t.nm, z.t.a + r1.2.2 + r2.2.2 + r3.2.2⟩, 2) := heq.trans ((traced_e (by rw [hround]; exact (show (2 : Nat) ≠ 0 by decide))).trans hround)
   exact ⟨_, (z.bn ++ z.bl) ++ B3, rfl, ⟨_, _, rfl, by rw [hR]; exact ⟨z.n2, z.la, z.lc, s3, z.bn, z.bl, B3, rfl, rfl, rfl, hnm, hls, by rw [ha3.l]; exact hN3⟩⟩, pick2 (show Cl _ ((((((([_, _, _, _, _] ++ z.bb) ++ z.bn) ++ z.bl) ++ BO) ++ B1) ++ B2) ++ B3) _ from hW)⟩
 ·intro hc1
  refine l_val (r_extract (v := .int _ _) rfl rfl rfl) rfl rfl ?_
  refine l_alloc hW tyZ31 rfl rfl rfl ?_
  intro g6 W hW
  refine sA hW 0 tyA31 ?_
  intro W hW
  refine bB ?_
  refine bI ?_
  refine l_end (n_then (c_seq (c_reg ?_)))
  refine l_val (r_fieldAddr 2 Tryz.underlying38 rfl tyC3.size rfl rfl rfl) rfl rfl ?_
  refine dC hW 1 tyC3 ?_
  refine aI ?_
  refine l_val (r_addN rfl rfl rfl (by omega)) rfl rfl ?_
  refine l_val (r_fieldAddr 2 Tryz.underlying38 rfl tyC3.size rfl rfl rfl) rfl rfl ?_
  refine l_storeC hW 1 tyC3 (v := .int _ _) rfl rfl rfl rfl rfl rfl (by first | rfl | omega | (simp; done) | (simp; omega)) rfl ?_
  intro W hW
  refine l_end (n_then (c_seq (c_seq (c_reg ?_))))
  refine aB ?_
  refine l_val (r_not rfl rfl) rfl rfl ?_
  refine l_end (n_then ?_)
  refine c_true rfl ?_
  refine c_seq (c_reg ?_)
  refine l_val (r_fieldAddr 3 Tryz.underlying38 rfl tyC5.size rfl rfl rfl) rfl rfl ?_
  refine l_storeC hW 1 tyC5 (v := .int _ _) rfl rfl rfl rfl rfl rfl (by first | rfl | omega | (simp; done) | (simp; omega)) rfl ?_
  intro W hW
  refine l_end (n_then (c_seq ?_))
  refine c_regY hW [3, 2] [.q, .q, .s, .s] [0, 0, 1, 7] (by kernel_rfl) (by kernel_rfl) ?_
  refine y_loadA 1 tyA38 rfl rfl rfl rfl rfl (by first | rfl | exact kc_len _ | exact kcf_len _ | exact boC_len _ _ | (simp; done)) (by decide) ?_
  refine y_loadA 0 tyA31 rfl rfl rfl rfl rfl (by first | rfl | exact kc_len _ | exact kcf_len _ | exact boC_len _ _ | (simp; done)) (by decide) ?_
  refine y_storeA 3 tyA38 rfl rfl rfl rfl rfl rfl (by first | rfl | exact kc_len _ | exact kcf_len _ | exact boC_len _ _ | (simp; done)) (by first | rfl | exact kc_len _ | exact kcf_len _ | exact boC_len _ _ | (simp; done)) (by first | exact kc_one _ | exact kcf_one _ | exact boC_one _ _ | (simp [Value.oneCell']; done)) (by decide) ?_
  refine y_storeA 2 tyA31 rfl rfl rfl rfl rfl rfl (by first | rfl | exact kc_len _ | exact kcf_len _ | exact boC_len _ _ | (simp; done)) (by first | rfl | exact kc_len _ | exact kcf_len _ | exact boC_len _ _ | (simp; done)) (by first | exact kc_one _ | exact kcf_one _ | exact boC_one _ _ | (simp [Value.oneCell']; done)) (by decide) ?_
  refine y_end ?_
  intro W hW
  refine n_then (c_ret (r_then (r_block (r_then (r_block ?_)))))
  refine ret_cell2 hW 3 2 tyA38 tyA31 rfl rfl rfl rfl rfl (by first | rfl | exact kc_len _ | exact kcf_len _ | exact boC_len _ _ | (simp; done)) (by first | rfl | exact kc_len _ | exact kcf_len _ | exact boC_len _ _ | (simp; done)) ?_
  have hround : roundN (2 * nn + 1) z.t = (⟨r1.1, z.t.l, z.t.nm, z.t.a + r1.2.2⟩, 1) := round_1 (hsa1.trans (by rw [hc1]))
  have hR : traced (2 * nn + 1) ⟨b, l, [], 0⟩ = (⟨r1.1, z.t.l, z.t.nm, z.t.a + r1.2.2⟩, 1) := heq.trans ((traced_e (by rw [hround]; exact (show (1 : Nat) ≠ 0 by decide))).trans hround)
  exact ⟨_, (z.bn ++ z.bl) ++ B1, rfl, ⟨_, _, rfl, by rw [hR]; exact ⟨z.n2, z.la, z.lc, s1, z.bn, z.bl, B1, rfl, rfl, rfl, hnm, hls, by rw [ha1.l]; exact hN1⟩⟩, pick1 (show Cl _ ((((([_, _, _, _, _] ++ z.bb) ++ z.bn) ++ z.bl) ++ BO) ++ B1) _ from hW)⟩

end Go.Proofs.YtoegpalacppllaaGreat

/- A region that draws its order, with a chain of quiet operations that may come at any time beside the rest. No function of the program is in sight here. -/
namespace Go.Proofs.YtoegpalacppllaaGreat
open Go.RowKit

theorem at_app {α : Type} {B L : List α} {p : Nat} {x : α} (h : L[p]? = some x) : (B ++ L)[B.length + p]? = some x := by
  rw [List.getElem?_append_right (Nat.le_add_right _ _), Nat.add_sub_cancel_left]; exact h
/-- a quiet operation: its place, itself, its value -/
abbrev Zl := List (Nat × Oper × Value)
def zput (a : Act) : Zl → Act
  | [] => a
  | x :: l => zput (a.put x.2.1.dst x.2.2) l
def zset (done : Array Bool) : Zl → Array Bool
  | [] => done
  | x :: l => zset (done.setIfInBounds x.1 true) l
def ZokL (P : Program) (w0 : Base) (S : List Nat) (L0 : List Blk) : Act → Zl → Prop
  | _, [] => True
  | a, x :: l => Zok P w0 S L0 a x.2.1 x.2.2 ∧ ZokL P w0 S L0 (a.put x.2.1.dst x.2.2) l
/-- each waits for the one ahead of it, and for no other -/
def zchain (md : Region.Mode) : List Nat → Zl → Prop
  | _, [] => True
  | pre, x :: l => (∀ e ∈ x.2.1.after, Region.binds md e = true → e.on ∈ pre) ∧ (∀ y ∈ l, ∃ e ∈ y.2.1.after, Region.binds md e = true ∧ (e.on = x.1 ∨ e.on ∈ l.map (·.1))) ∧ zchain md (x.1 :: pre) l
structure Zed1 (ops : Array Oper) (ms : List Mk) (ix : List Nat) (kd : Nat → Kd) (zs : List Nat) (z : Nat) (oz : Oper) : Prop where
  at_ : ops[z]? = some oz
  guard : oz.guard = none
  apart : ∀ (j : Nat) oj, ops[j]? = some oj → j ∉ zs → (kd j).isTail = false → oz.apart ops oj = true
  ds : ∀ k ∈ ms, k.d ∉ oz.looksAt ops ∧ oz.dst ≠ some k.d
  ix : ∀ i ∈ ix, i ≠ z

section
variable {P : Program} {ops : Array Oper} {Q : Exit → Act → World → Prop} {a : Act} {w0 : Base} {W : World} {L : List Blk} {md : Region.Mode} {S : List Nat} {r : Option (Option Nat)} {m : Nat} {ms : List Mk} {bs : List Value} {us : List (Nat × Value)} {ds : List Deferred}

theorem zset_ne : ∀ (l : Zl) {done : Array Bool} {i : Nat} (b : Bool), (∀ x ∈ l, x.1 ≠ i) → (zset done l).getD i b = done.getD i b
  | [], _, _, _, _ => rfl
  | x :: l, done, i, b, h => by
    rw [zset, zset_ne l b fun y hy => h y (by simp [hy]), getD_set_ne b (h x (by simp))]
theorem zset_set : ∀ (l : Zl) {done : Array Bool} {i : Nat}, (∀ x ∈ l, x.1 ≠ i) → (zset done l).setIfInBounds i true = zset (done.setIfInBounds i true) l
  | [], _, _, _ => rfl
  | x :: l, done, i, h => by
    rw [zset, zset_set l fun y hy => h y (by simp [hy]), zset, Array.setIfInBounds_comm _ _ (h x (by simp))]
theorem zset_mono : ∀ (l : Zl) {done : Array Bool} {i : Nat}, done.getD i false = true → (zset done l).getD i false = true
  | [], _, _, h => h
  | x :: l, done, i, h => by
    refine zset_mono l ?_
    by_cases hx : x.1 = i
    · subst hx
      have := getD_true_lt h
      simp [this]
    · rw [getD_set_ne false hx]; exact h
theorem zready : ∀ (l : Zl) {done : Array Bool} {i : Nat}, i ∈ Region.ready md ops done → (∀ x ∈ l, x.1 ≠ i) → i ∈ Region.ready md ops (zset done l) := fun l done i hi hne => by
  obtain ⟨hd, oi, ho, hall⟩ := mem_ready.1 hi
  exact mem_ready.2 ⟨by rw [zset_ne l true hne]; exact hd, oi, ho, fun e he hb => zset_mono l (hall e he hb)⟩
theorem ZokL.putK {L0 : List Blk} {k : Kd} {dst : Option Tmp} {v : Value} : ∀ (l : Zl) (a : Act), (∀ x ∈ l, (∀ cs b, x.2.1.op ≠ .select cs b) ∧ (∀ d, dst = some d → d ∉ x.2.1.looksAt ops) ∧ (∀ d, x.2.1.dst = some d → dst ≠ some d)) → ZokL P w0 S L0 a l → ZokL P w0 S L0 (putK k a dst v) l
  | [], _, _, _ => trivial
  | x :: l, a, hx, h => by
    obtain ⟨h1, h2, h3⟩ := hx x (by simp)
    refine ⟨?_, ?_⟩
    · intro L2 w hs hc
      have e : execOp (Go.Proofs.YtoegpalacppllaaGreat.putK k a dst v).eval x.2.1 = execOp a.eval x.2.1 := by
        cases k <;> first | rfl | exact execOp_put x.2.1 h1 a dst v h2
      rw [e]; exact h.1 L2 w hs hc
    · have hc : (Go.Proofs.YtoegpalacppllaaGreat.putK k a dst v).put x.2.1.dst x.2.2 = Go.Proofs.YtoegpalacppllaaGreat.putK k (a.put x.2.1.dst x.2.2) dst v := (putK_comm (a := a) (j := Kd.q) (k := k) (x := x.2.1.dst) (y := dst) x.2.2 v h3).symm
      rw [hc]
      exact ZokL.putK l _ (fun y hy => hx y (by simp [hy])) h.2

theorem anyC_zs {N : Nat} {L0 : List Blk} {kd : Nat → Kd} {ix : List Nat} (hA : AllB md ops ms ix kd) (hsel : ∀ (j : Nat) (o : Oper) cs b, ops[j]? = some o → o.op ≠ .select cs b) : ∀ (zs : Zl) (pre : List Nat) (U : Nat → Array Bool → Act → St → Prop), (∀ x ∈ zs, Zed1 ops ms ix kd (zs.map (·.1) ++ pre) x.1 x.2.1) → zchain md pre zs → (zs.map (·.1)).Nodup →
    (∀ p q, zs = p ++ q → ∀ f done a s vs Ns w, Made ms s.2 vs Ns → (∀ v ∈ vs, v.isSome = true) → Cl w0 (s.1 ++ Ns.flatten) w → a.tmps.size = N → (q ≠ [] → Closed md ops done) → (∀ x ∈ q, done.getD x.1 true = false) → (zs ≠ [] → Sim S L0 s.1 ∧ ZokL P w0 S L0 a zs) → U f (zset done q) a s → AW r m P md ops Q (f + q.length) done (puts (zput a p) ms vs) w) →
    ∀ (f : Nat) (done : Array Bool) (a : Act) (s : St) (vs : List (Option Value)) (Ns : List (List Blk)) (w : World), Sim S L0 s.1 → ZokL P w0 S L0 a zs → Closed md ops done → (∀ x ∈ zs, done.getD x.1 true = false) → (∀ p ∈ pre, done.getD p false = true) → Made ms s.2 vs Ns → (∀ (q i : Nat), ix[q]? = some i → ((∃ v, vs[q]? = some (some v)) ↔ done.getD i false = true)) → (∀ m ∈ ms, m.d < a.tmps.size) → a.tmps.size = N →
      Cl w0 (s.1 ++ Ns.flatten) w → anyC P md ops w0 S ms kd ix (fun _ _ => False) U f (zset done zs) a s → AW r m P md ops Q (f + zs.length) done (puts a ms vs) w := by
  intro zs
  induction zs with
  | nil =>
    intro pre U _ _ _ hT f done a s vs Ns w _ _ _ _ _ hM hrel hsz hN hC h
    exact anyC_any (N := N) hA hsel (R := fun _ _ => False) (U := U) (fun _ _ _ _ _ _ _ _ h => h.elim) (fun f done a s vs Ns w hM hs hC hN hU => hT [] [] rfl f done a s vs Ns w hM hs hC hN (fun h => absurd rfl h) (by simp) (fun h => absurd rfl h) hU) f done a s vs Ns w hM hrel hsz hN hC h
  | cons x l ihl =>
    intro pre U hz hch hnd hT f
    have hzx := hz x (by simp)
    have hnx : ∀ y ∈ l, y.1 ≠ x.1 := fun y hy e => by
      rw [List.map_cons, List.nodup_cons] at hnd
      exact hnd.1 (List.mem_map.2 ⟨y, hy, e⟩)
    have hds : ∀ k ∈ ms, k.d ∉ x.2.1.looksAt ops := fun k hk => (hzx.ds k hk).1
    -- what is asked of an operation of the first layer
    have hside : ∀ {i : Nat} {oi : Oper}, ops[i]? = some oi → i ∉ ((x :: l).map (·.1) ++ pre) → (kd i).isTail = false → ∀ y ∈ x :: l, (∀ cs b, y.2.1.op ≠ .select cs b) ∧ (∀ d, oi.dst = some d → d ∉ y.2.1.looksAt ops) ∧ (∀ d, y.2.1.dst = some d → oi.dst ≠ some d) := fun ho hi ht y hy => by
      obtain ⟨_, h2, h3⟩ := Oper.apart_spec ((hz y hy).apart _ _ ho hi ht)
      exact ⟨fun cs b => hsel y.1 y.2.1 cs b (hz y hy).at_, h3, h2⟩
    have notin : ∀ {done : Array Bool} {i : Nat}, (∀ y ∈ x :: l, done.getD y.1 true = false) → (∀ p ∈ pre, done.getD p false = true) → i ∈ Region.ready md ops (zset done (x :: l)) → i ∉ ((x :: l).map (·.1) ++ pre) := by
      intro done i hd hpre hi hm
      have h1 := (mem_ready.1 hi).1
      have hmm : ∀ (l : Zl) (done : Array Bool) (j : Nat), j ∈ l.map (·.1) → j < done.size → (zset done l).getD j true = true := by
        intro l
        induction l with
        | nil => intro done j h; simp at h
        | cons y l ih =>
          intro done j h hlt
          rcases List.mem_cons.1 h with rfl | h
          · by_cases hy : ∃ u ∈ l, u.1 = y.1
            · obtain ⟨u, hu, e⟩ := hy
              exact ih _ _ (List.mem_map.2 ⟨u, hu, e⟩) (by simpa using hlt)
            · rw [zset, zset_ne l true fun u hu e => hy ⟨u, hu, e⟩]
              simp [hlt]
          · exact ih _ _ h (by simpa using hlt)
      rcases List.mem_append.1 hm with hm | hm
      · obtain ⟨y, hy, rfl⟩ := List.mem_map.1 hm
        rw [hmm (x :: l) done y.1 hm (getD_false_lt (hd y hy))] at h1; cases h1
      · have h2 := zset_mono (x :: l) (hpre i hm)
        have hlt := getD_true_lt h2
        simp only [Array.getD_eq_getD_getElem?, Array.getElem?_eq_getElem hlt, Option.getD_some] at h1 h2
        rw [h1] at h2; cases h2
    have hput : ∀ (f : Nat) (done : Array Bool) (a : Act) (s : St), Sim S L0 s.1 → ZokL P w0 S L0 a (x :: l) → (∀ m ∈ ms, m.d < a.tmps.size) → a.tmps.size = N → (∀ y ∈ x :: l, done.getD y.1 true = false) → (∀ p ∈ pre, done.getD p false = true) → anyC P md ops w0 S ms kd ix (fun _ _ => False) U f (zset done (x :: l)) a s →
        anyC P md ops w0 S ms kd ix (fun _ _ => False) (fun f done a1 s => ∃ a0, a1 = a0.put x.2.1.dst x.2.2 ∧ a0.tmps.size = N ∧ Sim S L0 s.1 ∧ ZokL P w0 S L0 a0 (x :: l) ∧ U f done a0 s) f (zset done (x :: l)) (a.put x.2.1.dst x.2.2) s := by
      intro f
      induction f with
      | zero => intro done a s _ _ _ _ _ _ h; exact h.2.2.elim
      | succ f ih =>
        intro done a s hS hZ hsz hN hd hpre h
        refine ⟨h.1, h.2.imp (fun ⟨y1, y2, u⟩ => ⟨y1, y2, a, rfl, hN, hS, hZ, u⟩) fun h2 i hi => ?_⟩
        obtain ⟨oi, ho, v, s', hk, hn⟩ := h2 i hi
        have hni := notin hd hpre hi
        have hne : ∀ y ∈ x :: l, y.1 ≠ i := fun y hy e => hni (List.mem_append.2 (.inl (List.mem_map.2 ⟨y, hy, e⟩)))
        cases ht : (kd i).isTail with
        | true =>
          have e : kd i = .tail := by cases hkd : kd i <;> rw [hkd] at ht <;> simp [Kd.isTail] at ht <;> rfl
          rw [e] at hk; exact hk.elim
        | false =>
          obtain ⟨h1, h2', h3⟩ := Oper.apart_spec (hzx.apart i oi ho hni ht)
          refine ⟨oi, ho, v, s', (StepK.eq (hsel i oi · · ho) h1).2 hk, ?_⟩
          have hc : putK (kd i) (a.put x.2.1.dst x.2.2) oi.dst v = (putK (kd i) a oi.dst v).put x.2.1.dst x.2.2 := putK_comm (a := a) (j := Kd.q) (k := kd i) (x := x.2.1.dst) (y := oi.dst) x.2.2 v h2'
          rw [hc, zset_set _ hne]
          rw [zset_set _ hne] at hn
          have hsz2 : (putK (kd i) a oi.dst v).tmps.size = a.tmps.size := by cases kd i <;> simp [putK, put_size]
          exact ih (done.setIfInBounds i true) (putK (kd i) a oi.dst v) s' (hS.trans hk.sim) (hZ.putK _ _ (hside ho hni ht)) (fun m hm => by rw [hsz2]; exact hsz m hm) (by rw [hsz2]; exact hN)
            (fun y hy => by rw [getD_set_ne true (Ne.symm (hne y hy))]; exact hd y hy) (fun p hp => by
              by_cases hip : i = p
              · exact absurd (List.mem_append.2 (.inr (hip ▸ hp))) hni
              · rw [getD_set_ne false hip]; exact hpre p hp) hn
    have zstep : ∀ (f : Nat) (done : Array Bool) (a : Act) (s : St) (vs : List (Option Value)) (Ns : List (List Blk)) (w : World), Sim S L0 s.1 → ZokL P w0 S L0 a (x :: l) → Closed md ops done → (∀ y ∈ x :: l, done.getD y.1 true = false) → (∀ p ∈ pre, done.getD p false = true) → Made ms s.2 vs Ns → (∀ (q i : Nat), ix[q]? = some i → ((∃ v, vs[q]? = some (some v)) ↔ done.getD i false = true)) → (∀ m ∈ ms, m.d < a.tmps.size) → a.tmps.size = N →
        Cl w0 (s.1 ++ Ns.flatten) w → x.1 ∈ Region.ready md ops done → anyC P md ops w0 S ms kd ix (fun _ _ => False) U f (zset done (x :: l)) a s → OW r m P ops Q x.1 (AW r m P md ops Q (f + l.length) (done.setIfInBounds x.1 true)) (puts a ms vs) w := by
      intro f done a s vs Ns w hS hZ hc hd hpre hM hrel hsz hN hC hrdy h
      have hexec : (execOp (puts a ms vs).eval x.2.1).run P w = .ok (.value x.2.2) w := by
        rw [puts_exec (ops := ops) (hsel x.1 x.2.1 · · hzx.at_) ms vs a hds]; exact hZ.1 _ w (hS.trans (Sim.more S s.1 Ns.flatten)) hC
      refine OW.val hzx.at_ (by simp [Region.wanted, hzx.guard]) hexec ?_
      rw [puts_put ms vs a fun k hk => (hzx.ds k hk).2]
      refine ihl (x.1 :: pre) (fun f done a1 s => ∃ a0, a1 = a0.put x.2.1.dst x.2.2 ∧ a0.tmps.size = N ∧ Sim S L0 s.1 ∧ ZokL P w0 S L0 a0 (x :: l) ∧ U f done a0 s) (fun y hy => ?_) hch.2.2 (by rw [List.map_cons, List.nodup_cons] at hnd; exact hnd.2) ?_ f (done.setIfInBounds x.1 true) (a.put x.2.1.dst x.2.2) s vs Ns w hS hZ.2 (hc.set hrdy)
        (fun y hy => by rw [getD_set_ne true (Ne.symm (hnx y hy))]; exact hd y (by simp [hy])) (fun p hp => ?_) hM (fun q i hq => by
          rw [getD_set_ne false (Ne.symm (hzx.ix i (List.mem_of_getElem? hq)))]; exact hrel q i hq) (fun m hm => by rw [put_size]; exact hsz m hm) (by rw [put_size]; exact hN) hC (hput f done a s hS hZ hsz hN hd hpre h)
      · have h1 := hz y (by simp [hy])
        exact ⟨h1.at_, h1.guard, fun j oj hj hn ht => h1.apart j oj hj (fun e => hn (by
          simp only [List.map_cons, List.cons_append, List.mem_cons, List.mem_append] at e ⊢
          rcases e with e | e | e
          · exact .inr (.inl e)
          · exact .inl e
          · exact .inr (.inr e))) ht, h1.ds, h1.ix⟩
      · rintro p q hpq f done _ s vs Ns w hM hs hC hN2 hcq hdq hSZ ⟨a0, rfl, hN0, hS0, hZ0, hU⟩
        exact hT (x :: p) q (by rw [hpq]; rfl) f done a0 s vs Ns w hM hs hC hN0 hcq hdq (fun _ => ⟨hS0, hZ0⟩) hU
      · rcases List.mem_cons.1 hp with rfl | hp
        · simp [getD_false_lt (hd x (by simp))]
        · by_cases hxp : x.1 = p
          · subst hxp
            simp [getD_false_lt (hd x (by simp))]
          · rw [getD_set_ne false hxp]; exact hpre p hp
    have xready : ∀ {done : Array Bool}, done.getD x.1 true = false → (∀ p ∈ pre, done.getD p false = true) → x.1 ∈ Region.ready md ops done := fun hd hpre => mem_ready.2 ⟨hd, x.2.1, hzx.at_, fun e he hb => hpre _ (hch.1 e he hb)⟩
    have lnot : ∀ {done : Array Bool} {i : Nat}, (∀ y ∈ x :: l, done.getD y.1 true = false) → i ∈ Region.ready md ops done → ∀ y ∈ l, y.1 ≠ i := fun hd hi y hy e => by
      subst e
      obtain ⟨_, oy, hoy, hall⟩ := mem_ready.1 hi
      have : oy = y.2.1 := Option.some.inj (hoy.symm.trans (hz y (by simp [hy])).at_)
      subst this
      obtain ⟨e, he, hb, hon⟩ := hch.2.1 y hy
      have h1 := hall e he hb
      have h2 : ∃ u ∈ x :: l, u.1 = e.on := by
        rcases hon with h | h
        · exact ⟨x, by simp, h.symm⟩
        · obtain ⟨u, hu, e⟩ := List.mem_map.1 h
          exact ⟨u, by simp [hu], e⟩
      obtain ⟨u, hu, e⟩ := h2
      rw [← e] at h1
      have h3 := getD_false_both (hd u hu)
      rw [h1] at h3; cases h3
    induction f with
    | zero => intro done a s vs Ns w _ _ _ _ _ _ _ _ _ _ h; exact h.2.2.elim
    | succ f ih =>
      intro done a s vs Ns w hS hZ hc hd hpre hM hrel hsz hN hC h
      have hrdy := xready (hd x (by simp)) hpre
      have relz : ∀ (q i : Nat), ix[q]? = some i → ((∃ v, vs[q]? = some (some v)) ↔ (zset done (x :: l)).getD i false = true) := fun q i hq => by
        rw [zset_ne (x :: l) false fun y hy => Ne.symm ((hz y hy).ix i (List.mem_of_getElem? hq))]; exact hrel q i hq
      rcases h.2 with ⟨_, hmade, hU⟩ | h2
      · exact hT [] (x :: l) rfl (f + 1) done a s vs Ns w hM (mk_full hA hM.len relz hmade) hC hN (fun _ => hc) hd (fun _ => ⟨hS, hZ⟩) hU
      refine AW.succ (List.ne_nil_of_mem hrdy) fun i hi => ?_
      by_cases hix : i = x.1
      · subst hix
        exact zstep (f + 1) done a s vs Ns w hS hZ hc hd hpre hM hrel hsz hN hC hrdy h
      · have hne : ∀ y ∈ x :: l, y.1 ≠ i := fun y hy => by
          rcases List.mem_cons.1 hy with rfl | hy
          · exact Ne.symm hix
          · exact lnot hd hi y hy
        have hiz := zready (x :: l) hi hne
        obtain ⟨oi, ho, v, s', hk, hn⟩ := h2 i hiz
        have hni := notin hd hpre hiz
        have hlen : (f + 1).add l.length = f + (x :: l).length := by show f + 1 + l.length = _; simp only [List.length_cons]; omega
        rw [hlen]
        refine step_any hA hsel hM hrel hsz hC hi ho hk fun vs' Ns' w' hM' hrel' hC' => ?_
        have hsz2 : (putK (kd i) a oi.dst v).tmps.size = a.tmps.size := by cases kd i <;> simp [putK, put_size]
        have ht : (kd i).isTail = false := by
          cases hkd : kd i <;> first | rfl | (rw [hkd] at hk; exact hk.elim)
        rw [zset_set _ hne] at hn
        exact ih (done.setIfInBounds i true) _ s' vs' Ns' w' (hS.trans hk.sim) (hZ.putK _ _ (hside ho hni ht)) (hc.set hi) (fun y hy => by rw [getD_set_ne true (Ne.symm (hne y hy))]; exact hd y hy) (fun p hp => by
            by_cases hip : i = p
            · exact absurd (List.mem_append.2 (.inr (hip ▸ hp))) hni
            · rw [getD_set_ne false hip]; exact hpre p hp) hM' hrel' (fun m hm => by rw [hsz2]; exact hsz m hm) (by rw [hsz2]; exact hN) hC' hn

/-! ### a region -/
def setA (b : Bool) : Array Bool → List Nat → Array Bool
  | d, [] => d
  | d, i :: l => setA b (d.setIfInBounds i b) l
theorem setA_get (b : Bool) : ∀ (l : List Nat) (d : Array Bool) (i : Nat), (setA b d l)[i]? = if i ∈ l ∧ i < d.size then some b else d[i]?
  | [], d, i => by simp [setA]
  | j :: l, d, i => by
    rw [setA, setA_get b l]
    by_cases hj : i = j
    · subst hj
      by_cases hi : i < d.size
      · by_cases hl : i ∈ l <;> simp [hi, hl]
      · have : d[i]? = none := Array.getElem?_eq_none (by omega)
        simp [hi]
    · by_cases hl : i ∈ l
      · by_cases hi : i < d.size
        · simp [hl, hi]
        · simp [Array.getElem?_setIfInBounds_ne (Ne.symm hj)]
          rw [if_neg fun h => hi h.2, if_neg fun h => hi h.2]
      · simp [hl, hj, Array.getElem?_setIfInBounds_ne (Ne.symm hj)]
theorem zset_A : ∀ (l : Zl) (d : Array Bool), zset d l = setA true d (l.map (·.1))
  | [], _ => rfl
  | x :: l, d => by rw [zset, zset_A l]; rfl
theorem setA_back {d : Array Bool} {p q : List Nat} (hq : ∀ i ∈ q, d.getD i true = false) (hp : ∀ i ∈ p ++ q, (setA true d q).getD i false = true) (hn : (p ++ q).Nodup) : setA true (setA false (setA true d q) (p ++ q)) p = d := by
  have sz : ∀ (b : Bool) (l : List Nat) (d : Array Bool), (setA b d l).size = d.size := fun b l => by
    induction l with
    | nil => intro d; rfl
    | cons i l ih => intro d; rw [setA, ih]; simp
  apply Array.ext_getElem?
  intro i
  rw [setA_get, setA_get, setA_get, sz, sz]
  have hdis : i ∈ p → i ∉ q := fun h h' => (List.nodup_append.1 hn).2.2 i h i h' rfl
  by_cases hi : i < d.size
  · by_cases h1 : i ∈ p
    · have := hp i (by simp [h1])
      rw [Array.getD_eq_getD_getElem?, setA_get] at this
      simp only [hdis h1, false_and, if_false] at this
      have h0 : d[i]? = some d[i] := by simp [hi]
      rw [h0] at this ⊢
      simp only [Option.getD_some] at this
      simp [h1, hi, this]
    · by_cases h2 : i ∈ q
      · have := hq i h2
        have h0 : d[i]? = some d[i] := by simp [hi]
        rw [Array.getD_eq_getD_getElem?, h0] at this
        simp only [Option.getD_some] at this
        rw [h0]
        simp [h1, h2, hi, this]
      · simp [h1, h2]
  · simp [hi]

def zsB (ops : Array Oper) (D ix : List Nat) (kd : Nat → Kd) (zs : List Nat) : Bool := zs.all fun z => match ops[z]? with
  | some oz => oz.guard.isNone && D.all (fun d => !(oz.looksAt ops).contains d && oz.dst != some d) &&
      ((List.range ops.size).all fun j => zs.contains j || (kd j).isTail || match ops[j]? with | some oj => oz.apart ops oj | none => true) && ix.all (fun i => !(i == z))
  | none => false
def zchB (md : Region.Mode) (ops : Array Oper) : List Nat → List Nat → Bool
  | _, [] => true
  | pre, z :: l => (match ops[z]? with
    | some oz => oz.after.all (fun e => !Region.binds md e || pre.contains e.on)
    | none => false) && (l.all fun y => match ops[y]? with
      | some oy => oy.after.toList.any (fun e => Region.binds md e && (e.on == z || l.contains e.on))
      | none => false) && zchB md ops (z :: pre) l
def Zat (ops : Array Oper) : Zl → Prop
  | [] => True
  | x :: l => ops[x.1]? = some x.2.1 ∧ Zat ops l
def ZevL (P : Program) (w0 : Base) (S : List Nat) (L : List Blk) (bs : List Value) : List (Nat × Value) → Zl → Prop
  | _, [] => True
  | us, x :: l => (∀ L2 w, Sim S L L2 → Cl w0 L2 w → (execOp (ev bs us) x.2.1).run P w = .ok (.value x.2.2) w) ∧ ∃ d, x.2.1.dst = some d ∧ ZevL P w0 S L bs ((d, x.2.2) :: us) l
theorem ZevL.ok : ∀ (l : Zl) (us : List (Nat × Value)), ZevL P w0 S L bs us l → ZokL P w0 S L (fr bs us ds) l
  | [], _, _ => trivial
  | x :: l, us, ⟨h, d, hd, hl⟩ => ⟨fun L2 w hs hc => by rw [eval_ev]; exact h L2 w hs hc, by rw [hd, put_st]; exact ZevL.ok l _ hl⟩
theorem Zat.mem {l : Zl} (h : Zat ops l) : ∀ x ∈ l, ops[x.1]? = some x.2.1 := by
  induction l with
  | nil => intro x hx; cases hx
  | cons y l ih =>
    intro x hx
    rcases List.mem_cons.1 hx with rfl | hx
    · exact h.1
    · exact ih h.2 x hx
theorem zsB_spec {ix : List Nat} {kd : Nat → Kd} {l : Zl} (hat : Zat ops l) (h : zsB ops (ms.map Mk.d) ix kd (l.map (·.1)) = true) : ∀ x ∈ l, Zed1 ops ms ix kd (l.map (·.1) ++ []) x.1 x.2.1 := fun x hx => by
  have h1 := List.all_eq_true.1 h x.1 (List.mem_map.2 ⟨x, hx, rfl⟩)
  rw [hat.mem x hx] at h1
  simp only [Bool.and_eq_true, Option.isNone_iff_eq_none] at h1
  obtain ⟨⟨⟨h1, h3⟩, h4⟩, h5⟩ := h1
  refine ⟨hat.mem x hx, h1, fun j oj hj hne ht => ?_, fun k hk => ?_, fun i hi e => ?_⟩
  · have := List.all_eq_true.1 h4 j (List.mem_range.2 (Array.getElem?_eq_some_iff.1 hj).1)
    rw [hj] at this
    have hc : (l.map (·.1)).contains j = false := by
      rw [List.append_nil] at hne
      cases hh : (l.map (·.1)).contains j
      · rfl
      · exact absurd (by simpa using hh) hne
    rw [hc, ht] at this
    simpa using this
  · have := List.all_eq_true.1 h3 k.d (List.mem_map.2 ⟨k, hk, rfl⟩)
    simpa using this
  · have := List.all_eq_true.1 h5 i hi
    simp [e] at this
theorem zchB_spec : ∀ {l : Zl} {pre : List Nat}, Zat ops l → zchB md ops pre (l.map (·.1)) = true → zchain md pre l
  | [], _, _, _ => trivial
  | x :: l, pre, ⟨h0, hl⟩, h => by
    simp only [List.map_cons, zchB, Bool.and_eq_true, h0] at h
    refine ⟨fun e he hb => ?_, fun y hy => ?_, zchB_spec hl h.2⟩
    · have := Array.all_eq_true_iff_forall_mem.1 h.1.1 e he
      simpa [hb] using this
    · have := List.all_eq_true.1 h.1.2 y.1 (List.mem_map.2 ⟨y, hy, rfl⟩)
      rw [Zat.mem hl y hy] at this
      obtain ⟨e, he, hb⟩ := List.any_eq_true.1 this
      simp only [Bool.and_eq_true, Bool.or_eq_true, beq_iff_eq, List.contains_iff_mem] at hb
      exact ⟨e, by simpa using he, hb⟩

theorem lexO_peel {kd : Nat → Kd} {ix M : List Nat} {tl : List Nat → Array Bool → Bool} : ∀ (p : List Nat) {o : List Nat} {done : Array Bool}, (∀ z ∈ p, kd z = .q) → lexO md ops kd ix M tl (p ++ o) done = true → lexO md ops kd ix M tl o (setA true done p) = true
  | [], _, _, _, h => h
  | z :: p, o, done, hk, h => by
    rw [List.cons_append, lexO, hk z (by simp)] at h
    simp only [Bool.and_eq_true] at h
    exact lexO_peel p (fun y hy => hk y (by simp [hy])) h.2
theorem lx_peel {kd : Nat → Kd} {S2 : List Nat} {ms2 : List Mk} {V2 : List (List Value)} {R : Act → St → Prop} {T : List Oper → Act → St → Prop} {L0 L' : List Blk} {w : World} {vs : List (Option Value)} (hC' : Cl w0 L' w) (hS : ∃ L2, Sim S L0 L2 ∧ Cl w0 L2 w) (hsel : ∀ (j : Nat) (o : Oper) cs b, ops[j]? = some o → o.op ≠ .select cs b) : ∀ (p : Zl) (o : List Nat) (a : Act), (∀ x ∈ p, ops[x.1]? = some x.2.1 ∧ x.2.1.guard = none ∧ ∀ k ∈ ms, k.d ∉ x.2.1.looksAt ops ∧ x.2.1.dst ≠ some k.d) → (∀ x ∈ p, kd x.1 = .q) →
    ZokL P w0 S L0 a p → lx P ops w0 S2 ms2 R T ((p.map (·.1) ++ o).map kd) (pickL ops (p.map (·.1) ++ o)) (puts a ms vs) (L', V2) → lx P ops w0 S2 ms2 R T (o.map kd) (pickL ops o) (puts (zput a p) ms vs) (L', V2)
  | [], _, _, _, _, _, h => h
  | x :: p, o, a, hx, hk, hZ, h => by
    obtain ⟨hat, hg, hds⟩ := hx x (by simp)
    have hpick : pickL ops ((x :: p).map (·.1) ++ o) = x.2.1 :: pickL ops (p.map (·.1) ++ o) := by simp only [List.map_cons, List.cons_append, pickL, hat]
    rw [hpick, List.map_cons, List.cons_append, List.map_cons, hk x (by simp)] at h
    obtain ⟨v, s2, ⟨hy, rfl⟩, h⟩ := h
    obtain ⟨L2, hS2, hC2⟩ := hS
    have hrun : (execOp (puts a ms vs).eval x.2.1).run P w = .ok (.value x.2.2) w := by
      rw [puts_exec (ops := ops) (hsel x.1 x.2.1 · · hat) ms vs a fun k hk => (hds k hk).1]; exact hZ.1 L2 w hS2 hC2
    have hvz : v = x.2.2 := by
      rcases hy L' (Sim.refl _ _) with ⟨_, hq⟩ | ⟨hw, _⟩
      · have := hq w hC'
        unfold Oper.quietAt at this
        rw [hrun] at this
        first | exact this.2.symm | exact this.2
      · simp [Region.wanted, hg] at hw
    subst hvz
    simp only [putK] at h
    rw [puts_put ms vs a fun k hk => (hds k hk).2] at h
    exact lx_peel hC' ⟨L2, hS2, hC2⟩ hsel p o _ (fun y hy => hx y (by simp [hy])) (fun y hy => hk y (by simp [hy])) hZ.2 h
theorem zput_size : ∀ (l : Zl) (a : Act), (zput a l).tmps.size = a.tmps.size
  | [], _ => rfl
  | x :: l, a => by rw [zput, zput_size l, put_size]

end
end Go.Proofs.YtoegpalacppllaaGreat

/- A region that draws its order, with a new variable that may be made at any time beside the rest. No function of the program is in sight here. -/
namespace Go.Proofs.YtoegpalacppllaaGreat
open Go.RowKit

section
variable {P : Program} {ops : Array Oper} {Q : Exit → Act → World → Prop} {a : Act} {w0 : Base} {W : World} {L : List Blk} {md : Region.Mode} {S : List Nat} {r : Option (Option Nat)} {m : Nat} {ms : List Mk} {bs : List Value} {us : List (Nat × Value)} {ds : List Deferred}

def noS : Kd → Bool
  | .s => false
  | _ => true
/-- more blocks behind those that are known -/
theorem StepK.more {k : Kd} {o : Oper} {s s' : St} {v : Value} (E : List Blk) (hk : noS k = true) (h : StepK P ops w0 S ms k o a s v s') : StepK P ops w0 S ms k o a (s.1 ++ E, s.2) v (s'.1 ++ E, s'.2) := by
  have hs : ∀ {L2}, Sim S (s.1 ++ E) L2 → Sim S s.1 L2 := fun h => (Sim.more S s.1 E).trans h
  cases k with
  | q => exact ⟨fun L2 hL => h.1 L2 (hs hL), by rw [h.2]⟩
  | r => exact ⟨fun N => by rw [List.append_assoc]; exact h.1 (E ++ N), by rw [h.2]⟩
  | s => cases hk
  | mk i =>
    obtain ⟨h1, h2, k, z, h3, h4, h5⟩ := h
    exact ⟨h1, by rw [h2], k, z, h3, h4, fun L2 hL => h5 L2 (hs hL)⟩
  | mkd i j =>
    obtain ⟨h1, h2, k, z, kj, zj, h3, h4, h5, h6, h7⟩ := h
    exact ⟨h1, by rw [h2], k, z, kj, zj, h3, h4, h5, h6, fun u Bs L2 hL hX => h7 u Bs L2 (hs hL) hX⟩
  | st i =>
    obtain ⟨h1, k, vs, h3, h4, h5⟩ := h
    exact ⟨h1, k, vs, h3, h4, by rw [h5]⟩
  | rd i =>
    obtain ⟨h1, k, z, h3, h4, h5⟩ := h
    exact ⟨by rw [h1], k, z, h3, h4, fun u Bs L2 hL hX => h5 u Bs L2 (hs hL) hX⟩
  | tail => exact h.elim
end
end Go.Proofs.YtoegpalacppllaaGreat

/- A query, by the reference. -/
namespace Go.Proofs.YtoegpalacppllaaGreat
open Go.RowKit Pl
open Tr Hn
/-- no box, as cells -/
theorem z31_no : (z31 : List Value) = boC noBo Sl.no := by kernel_rfl
end Go.Proofs.YtoegpalacppllaaGreat

/- A trace, by the reference, with its errors; the same finding, read twice. -/
namespace Go.Proofs.YtoegpalacppllaaGreat
open Go.RowKit Pl
open Tr Hn
theorem z38_no : (z38 : List Value) = fiC Sl.no ⟨none, 0, 0⟩ 0 0 := by kernel_rfl
set_option maxRecDepth 10000 in
/-- headend/headendref08.Trace -/
theorem g_rTrace (b : Bo) (t : Sl) (ra : Option Addr) (rn rc : Nat) (l : List (Int × Int)) (noise : Int) (hl : b.l.length ≤ 100) (hq : l.length ≤ 100) : GivesX Tryz.prog 24 [.agg (boC b t).toArray, .slice ra rn rc, .int .i64 noise].toArray (fun w => RdI w t b.l ∧ RdB w ⟨ra, rn, rc⟩ l) (fun v Bs => ∃ fv bv : List Value, v = .tuple #[.agg fv.toArray, .agg bv.toArray, .int .i64 (traceE b l noise)] ∧ foundX 64 (traceT b l noise) fv bv Bs) := by
 refine givesX_of Tryz.func24 rfl (bs := [.agg (boC b t).toArray, .slice ra rn rc, .int .i64 noise, undef, undef, undef, undef, undef, undef, undef, undef, undef, undef, undef, undef, undef, undef, undef, undef, undef, undef, undef, undef, undef, undef, undef, undef, undef, undef, undef, undef, undef, undef, undef, undef, undef, undef, undef, undef, undef, undef, undef, undef, undef, undef, undef, undef, undef, undef, undef, undef, undef, undef, undef, undef, undef, undef]) rfl ?_
 intro w hP hW
 refine c_seq (c_reg ?_)
 refine xB hW ?_
 intro g1 W hW
 refine l_alloc hW tyZ38 rfl rfl rfl ?_
 intro g2 W hW
 refine l_alloc hW tyZ31 rfl rfl rfl ?_
 intro g3 W hW
 refine bI ?_
 refine l_end (n_then (c_seq (c_seq (c_reg ?_))))
 refine dA hW 2 tyA31 ?_
 refine l_callR hW (g_rCheckBox b t hl) en74 (hP.1.past hW.below) rfl rfl rfl rfl ?_
 intro W hW
 refine bI ?_
 refine l_end (n_then (c_seq (c_reg ?_)))
 refine aI ?_
 refine l_val (r_neq rfl rfl rfl rfl) rfl rfl ?_
 refine l_split ?_ ?_
 ·intro hc1
  replace hc1 := of_decide_eq_true hc1
  refine l_end (n_then ?_)
  refine c_true rfl ?_
  refine c_seq (c_reg ?_)
  refine l_val (r_build (ps := []) (bld38_) rfl rfl) rfl rfl ?_
  refine l_val (r_build (ps := []) (bld31_) rfl rfl) rfl rfl ?_
  refine aI ?_
  refine sA hW 1 tyA38 ?_
  intro W hW
  refine sA hW 0 tyA31 ?_
  intro W hW
  refine bI ?_
  refine l_end (n_then (c_ret (r_then ?_)))
  refine ret_cell2_tmp hW 1 0 tyA38 tyA31 rfl rfl rfl rfl rfl (by first | rfl | exact kc_len _ | exact kcf_len _ | exact boC_len _ _ | (simp; done)) (by first | rfl | exact kc_len _ | exact kcf_len _ | exact boC_len _ _ | (simp; done)) rfl ?_
  have e : traceE b l noise = chkB b := trE_b hc1
  exact ⟨_, [], rfl, ⟨z38, z31, by rw [e]; rfl, by rw [traceT, if_neg (by rw [e]; exact hc1), z38_no, z31_no]; exact found_no 64⟩, hW.sub (List.nil_sublist _)⟩
 ·intro hc1
  replace hc1 := of_decide_eq_false hc1
  obtain ⟨hs, hu, hb1, hb2, hb3, hb4, hb5, hb6, hb7, hb8, hb9, hb10⟩ := chkB_ok hc1
  refine l_end (n_then ?_)
  refine c_false rfl ?_
  refine c_skip (n_then (c_seq (c_seq (c_reg ?_))))
  refine l_val (r_fieldAddr 0 Tryz.underlying31 rfl tyA26.size rfl rfl rfl) rfl rfl ?_
  refine l_loadP hW 2 tyA26 rfl rfl rfl rfl rfl (by first | rfl | omega | (simp; done) | (simp; omega)) rfl ?_
  refine aS ?_
  refine l_callR hW (g_rCheckParts b.s ra rn rc l hq) en75 (hP.2.past hW.below) rfl rfl rfl rfl ?_
  intro W hW
  refine bI ?_
  refine l_end (n_then (c_seq (c_reg ?_)))
  refine aI ?_
  refine l_val (r_neq rfl rfl rfl rfl) rfl rfl ?_
  refine l_split ?_ ?_
  ·intro hc2
   replace hc2 := of_decide_eq_true hc2
   refine l_end (n_then ?_)
   refine c_true rfl ?_
   refine c_seq (c_reg ?_)
   refine l_val (r_build (ps := []) (bld38_) rfl rfl) rfl rfl ?_
   refine l_val (r_build (ps := []) (bld31_) rfl rfl) rfl rfl ?_
   refine aI ?_
   refine sA hW 1 tyA38 ?_
   intro W hW
   refine sA hW 0 tyA31 ?_
   intro W hW
   refine bI ?_
   refine l_end (n_then (c_ret (r_then ?_)))
   refine ret_cell2_tmp hW 1 0 tyA38 tyA31 rfl rfl rfl rfl rfl (by first | rfl | exact kc_len _ | exact kcf_len _ | exact boC_len _ _ | (simp; done)) (by first | rfl | exact kc_len _ | exact kcf_len _ | exact boC_len _ _ | (simp; done)) rfl ?_
   have e : traceE b l noise = partsE b.s l := trE_p hc1 hc2
   exact ⟨_, [], rfl, ⟨z38, z31, by rw [e]; rfl, by rw [traceT, if_neg (by rw [e]; exact hc2), z38_no, z31_no]; exact found_no 64⟩, hW.sub (List.nil_sublist _)⟩
  ·intro hc2
   replace hc2 := of_decide_eq_false hc2
   obtain ⟨-, hpe, hnd⟩ := parts_ok hc2
   obtain ⟨hq2, hbb⟩ := subsE_ok (show ¬ subsE b.s l ≠ 0 by omega)
   refine l_end (n_then ?_)
   refine c_false rfl ?_
   refine c_skip (n_then (c_seq (c_seq (c_reg ?_))))
   refine aI ?_
   refine l_val (r_lss rfl rfl rfl rfl) rfl rfl ?_
   refine l_split ?_ ?_
   ·intro hc3
    replace hc3 := of_decide_eq_true hc3
    refine aB ?_
    refine lN ?_
    refine lN ?_
    refine kB ?_
    refine l_end (n_then ?_)
    refine c_true rfl ?_
    refine c_seq (c_reg ?_)
    refine l_val (r_build (ps := []) (bld38_) rfl rfl) rfl rfl ?_
    refine l_val (r_build (ps := []) (bld31_) rfl rfl) rfl rfl ?_
    refine sA hW 1 tyA38 ?_
    intro W hW
    refine sA hW 0 tyA31 ?_
    intro W hW
    refine bI ?_
    refine l_end (n_then (c_ret (r_then ?_)))
    refine ret_cell2_tmp hW 1 0 tyA38 tyA31 rfl rfl rfl rfl rfl (by first | rfl | exact kc_len _ | exact kcf_len _ | exact boC_len _ _ | (simp; done)) (by first | rfl | exact kc_len _ | exact kcf_len _ | exact boC_len _ _ | (simp; done)) rfl ?_
    have e : traceE b l noise = 2 := trE_n hc1 hc2 (by omega)
    exact ⟨_, [], rfl, ⟨z38, z31, by rw [e]; rfl, by rw [traceT, if_neg (by rw [e]; decide), z38_no, z31_no]; exact found_no 64⟩, hW.sub (List.nil_sublist _)⟩
   ·intro hc3
    replace hc3 := of_decide_eq_false hc3
    refine aB ?_
    refine gI ?_
    refine l_valG (r_gtr rfl rfl rfl rfl) (by kernel_rfl) rfl ?_
    refine l_split ?_ ?_
    ·intro hc4
     replace hc4 := of_decide_eq_true hc4
     refine kB ?_
     refine l_end (n_then ?_)
     refine c_true rfl ?_
     refine c_seq (c_reg ?_)
     refine l_val (r_build (ps := []) (bld38_) rfl rfl) rfl rfl ?_
     refine l_val (r_build (ps := []) (bld31_) rfl rfl) rfl rfl ?_
     refine sA hW 1 tyA38 ?_
     intro W hW
     refine sA hW 0 tyA31 ?_
     intro W hW
     refine bI ?_
     refine l_end (n_then (c_ret (r_then ?_)))
     refine ret_cell2_tmp hW 1 0 tyA38 tyA31 rfl rfl rfl rfl rfl (by first | rfl | exact kc_len _ | exact kcf_len _ | exact boC_len _ _ | (simp; done)) (by first | rfl | exact kc_len _ | exact kcf_len _ | exact boC_len _ _ | (simp; done)) rfl ?_
     have e : traceE b l noise = 2 := trE_n hc1 hc2 (by omega)
     exact ⟨_, [], rfl, ⟨z38, z31, by rw [e]; rfl, by rw [traceT, if_neg (by rw [e]; decide), z38_no, z31_no]; exact found_no 64⟩, hW.sub (List.nil_sublist _)⟩
    ·intro hc4
     replace hc4 := of_decide_eq_false hc4
     have hlb := lim_b (d := b.s.d) (n := noise) (by have := schB_iff.1 hs; omega) (by have := schB_iff.1 hs; omega) (by omega) (by omega)
     have hd0 := (schB_iff.1 hs).2.2.1
     refine kB ?_
     refine l_end (n_then ?_)
     refine c_false rfl ?_
     refine c_skip (n_then (c_seq (c_seq ?_)))
     refine c_regY hW [] [.q, .q, .q, .q, .q, .q, .q, .q] [0, 1, 0, 4, 0, 28, 63, 127] (by kernel_rfl) (by kernel_rfl) ?_
     refine y_val (r_fieldAddr 26 Tryz.underlying31 rfl tyC3.size rfl rfl rfl) rfl rfl ?_
     refine y_loadC 2 tyC3 rfl rfl rfl rfl rfl rfl (by decide) ?_
     refine y_val (r_fieldAddr 0 Tryz.underlying31 rfl tyA26.size rfl rfl rfl) rfl rfl ?_
     refine y_loadP 2 tyA26 rfl rfl rfl rfl rfl (by first | rfl | omega | (simp; done) | (simp; omega)) rfl (by decide) ?_
     refine yI ?_
     refine y_call (g_Limit _ _ hs (by omega) (by omega)) en76 rfl rfl rfl rfl ?_
     refine y_val (r_addZ rfl rfl rfl (by omega)) rfl rfl ?_
     refine y_val (r_gtr rfl rfl rfl rfl) rfl rfl ?_
     refine y_split ?_ ?_
     ·intro hc5
      replace hc5 := of_decide_eq_true hc5
      refine y_end ?_
      intro W hW
      refine n_then ?_
      refine c_true rfl ?_
      refine c_seq (c_reg ?_)
      refine l_val (r_build (ps := []) (bld38_) rfl rfl) rfl rfl ?_
      refine l_val (r_build (ps := []) (bld31_) rfl rfl) rfl rfl ?_
      refine sA hW 1 tyA38 ?_
      intro W hW
      refine sA hW 0 tyA31 ?_
      intro W hW
      refine bI ?_
      refine l_end (n_then (c_ret (r_then ?_)))
      refine ret_cell2_tmp hW 1 0 tyA38 tyA31 rfl rfl rfl rfl rfl (by first | rfl | exact kc_len _ | exact kcf_len _ | exact boC_len _ _ | (simp; done)) (by first | rfl | exact kc_len _ | exact kcf_len _ | exact boC_len _ _ | (simp; done)) rfl ?_
      have e : traceE b l noise = 9 := trE_f hc1 hc2 (by omega) hc5
      exact ⟨_, [], rfl, ⟨z38, z31, by rw [e]; rfl, by rw [traceT, if_neg (by rw [e]; decide), z38_no, z31_no]; exact found_no 64⟩, hW.sub (List.nil_sublist _)⟩
     ·intro hc5
      replace hc5 := of_decide_eq_false hc5
      obtain ⟨nn, rfl⟩ : ∃ nn : Nat, noise = nn := ⟨noise.toNat, by omega⟩
      have hln := lim_nat (d := b.s.d) (n := (nn : Int)) (by omega) (by omega)
      refine y_end ?_
      intro W hW
      refine n_then ?_
      refine c_false rfl ?_
      refine c_skip (n_then (c_seq (c_reg ?_)))
      refine dA hW 2 tyA31 ?_
      refine l_callX hW (g_TwinBox b t hl) en23 (hP.1.past hW.below) rfl rfl rfl rfl ?_
      rintro _ BT W ⟨s2, rfl, hN⟩ hW
      refine aS ?_
      refine aI ?_
      refine l_callX hW (g_rTraced b s2 ra rn rc l nn hs hu (by omega) (by omega) (by omega) (by omega) hl (by omega) hq2 hbb hnd (by rw [Int.toNat_natCast] at hln; omega)) en77 ⟨hN.rep.at hW (List.sublist_append_right _ BT), hP.2.past hW.below⟩ rfl rfl rfl rfl ?_
      rintro _ _ W ⟨_, _, rfl, n2, la, lc, s3, BN, BL, BB, rfl, rfl, rfl, h1, h2, h3⟩ hW
      obtain ⟨R, hR⟩ : ∃ R, R = traced (2 * nn + 1) ⟨b, l, [], 0⟩ := ⟨_, rfl⟩
      rw [← hR] at h1 h2 h3 ⊢
      refine l_val (r_move (v := .tuple _) rfl rfl) rfl rfl ?_
      refine l_val (r_extract (v := .agg _) rfl rfl rfl) rfl rfl ?_
      refine l_val (r_extract (v := .agg _) rfl rfl rfl) rfl rfl ?_
      refine l_alloc hW tyZ38 rfl rfl rfl ?_
      intro g4 W hW
      refine l_alloc hW tyZ31 rfl rfl rfl ?_
      intro g5 W hW
      refine sA hW 1 tyA38 ?_
      intro W hW
      refine sA hW 0 tyA31 ?_
      intro W hW
      refine l_end (n_then (c_seq ?_))
      refine c_regY hW [3, 2] [.q, .q, .s, .s, .q] [0, 0, 1, 7, 15] (by kernel_rfl) (by kernel_rfl) ?_
      refine y_loadA 1 tyA38 rfl rfl rfl rfl rfl (by first | rfl | exact kc_len _ | exact kcf_len _ | exact boC_len _ _ | (simp; done)) (by decide) ?_
      refine y_loadA 0 tyA31 rfl rfl rfl rfl rfl (by first | rfl | exact kc_len _ | exact kcf_len _ | exact boC_len _ _ | (simp; done)) (by decide) ?_
      refine y_storeA 3 tyA38 rfl rfl rfl rfl rfl rfl (by first | rfl | exact kc_len _ | exact kcf_len _ | exact boC_len _ _ | (simp; done)) (by first | rfl | exact kc_len _ | exact kcf_len _ | exact boC_len _ _ | (simp; done)) (by first | exact kc_one _ | exact kcf_one _ | exact boC_one _ _ | (simp [Value.oneCell']; done)) (by decide) ?_
      refine y_storeA 2 tyA31 rfl rfl rfl rfl rfl rfl (by first | rfl | exact kc_len _ | exact kcf_len _ | exact boC_len _ _ | (simp; done)) (by first | rfl | exact kc_len _ | exact kcf_len _ | exact boC_len _ _ | (simp; done)) (by first | exact kc_one _ | exact kcf_one _ | exact boC_one _ _ | (simp [Value.oneCell']; done)) (by decide) ?_
      refine y_val (r_assign (v := .int _ _) rfl rfl) rfl rfl ?_
      refine y_end ?_
      intro W hW
      refine n_then (c_ret ?_)
      refine ret_cell2_tmp hW 3 2 tyA38 tyA31 rfl rfl rfl rfl rfl (by first | rfl | exact kc_len _ | exact kcf_len _ | exact boC_len _ _ | (simp; done)) (by first | rfl | exact kc_len _ | exact kcf_len _ | exact boC_len _ _ | (simp; done)) rfl ?_
      have e : traceE b l nn = 0 := trE_0 hc1 hc2 (by omega) hc5
      exact ⟨_, (BN ++ BL) ++ BB, rfl, ⟨_, _, by rw [e]; rfl, by rw [traceT, if_pos e, Int.toNat_natCast, ← hR]; exact ⟨n2, la, lc, s3, BN, BL, BB, rfl, rfl, rfl, h1, h2, h3⟩⟩, (show Cl _ ([_, _] ++ (([_, _, _] ++ BT) ++ ((BN ++ BL) ++ BB))) _ from hW).sub ((List.sublist_append_right _ _).trans (List.sublist_append_right _ _))⟩

set_option maxRecDepth 10000 in
/-- headend/headendref08.SameFinding -/
theorem g_SameFinding (n m : Sl) (la lb : Option Addr) (ln lc kn kc : Nat) (nm : List Int) (l : List (Int × Int)) (a e : Nat) (hl : nm.length ≤ 4294967296) (hq : l.length ≤ 4294967296) : GivesR Tryz.prog 25 [.agg [.slice n.a n.n n.c, .slice la ln lc, .int .i64 (a : Int), .int .u8 (e : Int)].toArray, .agg [.slice m.a m.n m.c, .slice lb kn kc, .int .i64 (a : Int), .int .u8 (e : Int)].toArray].toArray (fun w => (RdI w n nm ∧ RdI w m nm) ∧ RdB w ⟨la, ln, lc⟩ l ∧ RdB w ⟨lb, kn, kc⟩ l) (.bool true) := by
 refine givesR_of Tryz.func25 rfl (bs := [.agg [.slice n.a n.n n.c, .slice la ln lc, .int .i64 (a : Int), .int .u8 (e : Int)].toArray, .agg [.slice m.a m.n m.c, .slice lb kn kc, .int .i64 (a : Int), .int .u8 (e : Int)].toArray, undef, undef, undef, undef, undef, undef, undef, undef, undef, undef, undef, undef, undef, undef, undef, undef, undef, undef, undef, undef, undef, undef, undef, undef, undef, undef, undef, undef, undef]) rfl ?_
 intro w hP hW
 refine c_seq (c_reg ?_)
 refine xB hW ?_
 intro g1 W hW
 refine xB hW ?_
 intro g2 W hW
 refine bB ?_
 refine l_end (n_then (c_seq (c_reg ?_)))
 refine l_val (r_fieldAddr 0 Tryz.underlying38 rfl tyC27.size rfl rfl rfl) rfl rfl ?_
 refine dC hW 1 tyC27 ?_
 refine l_val (r_fieldAddr 0 Tryz.underlying38 rfl tyC27.size rfl rfl rfl) rfl rfl ?_
 refine dC hW 0 tyC27 ?_
 refine l_callR hW (g_SameInts n.a n.n n.c nm m.a m.n m.c nm hl) en78 ⟨hP.1.1.past hW.below, hP.1.2.past hW.below⟩ rfl rfl rfl rfl ?_
 intro W hW
 rw [decide_eq_true rfl]
 refine aB ?_
 refine l_valG (r_fieldAddr 1 Tryz.underlying38 rfl tyC33.size rfl rfl rfl) (by kernel_rfl) rfl ?_
 refine dG hW 1 tyC33 ?_
 refine l_valG (r_fieldAddr 1 Tryz.underlying38 rfl tyC33.size rfl rfl rfl) (by kernel_rfl) rfl ?_
 refine dG hW 0 tyC33 ?_
 refine l_callRG hW (g_rSameSubsets la ln lc l lb kn kc l hq) en27 ⟨hP.2.1.past hW.below, hP.2.2.past hW.below⟩ (by kernel_rfl) rfl rfl rfl ?_
 intro W hW
 rw [decide_eq_true rfl]
 refine kB ?_
 refine aB ?_
 refine l_valG (r_fieldAddr 2 Tryz.underlying38 rfl tyC3.size rfl rfl rfl) (by kernel_rfl) rfl ?_
 refine dG hW 1 tyC3 ?_
 refine l_valG (r_fieldAddr 2 Tryz.underlying38 rfl tyC3.size rfl rfl rfl) (by kernel_rfl) rfl ?_
 refine dG hW 0 tyC3 ?_
 refine l_valG (r_eqlN (b := true) rfl rfl rfl (decide_eq_true rfl)) (by kernel_rfl) rfl ?_
 refine kB ?_
 refine aB ?_
 refine l_valG (r_fieldAddr 3 Tryz.underlying38 rfl tyC5.size rfl rfl rfl) (by kernel_rfl) rfl ?_
 refine dG hW 1 tyC5 ?_
 refine l_valG (r_fieldAddr 3 Tryz.underlying38 rfl tyC5.size rfl rfl rfl) (by kernel_rfl) rfl ?_
 refine dG hW 0 tyC5 ?_
 refine l_valG (r_eql (b := true) rfl rfl rfl (decide_eq_true rfl)) (by kernel_rfl) rfl ?_
 refine kB ?_
 refine bB ?_
 refine l_end (n_then (c_ret ?_))
 refine ret_tmp (v := .bool true) rfl ?_ ⟨rfl, hW.below⟩
 rfl

end Go.Proofs.YtoegpalacppllaaGreat

/-
  DERIVED: THE SHELF's CONTRACTS AT THIS DUMP, IN PLAIN WORDS (tools/lay-plain.mjs out of 'TryzShelf.lean', which tools/lay-shelf.mjs wrote): THE SAME DECLARATIONS UNDER THE SAME NAMES: 'import', 'namespace', 'open', 'def', 'theorem' AND NOTHING ELSE: no command of the shelf's: FOR A HAND-IN. Each laying: the table of numbers ('.._ren') and one theorem, a field a fact of the dump's own or the kernel's comparison; each contract: ONE APPLICATION.
-/
namespace Go.Proofs
open Go.Shelf
def Tryz.lays125_ren : Go.Shelf.Ren := ⟨fun | 125 => 104 | 128 => 146 | 129 => 147 | n => n, fun | 46 => 113 | 3 => 3 | 51 => 223 | 53 => 22 | 4 => 4 | 5 => 5 | 9 => 9 | n => n, fun | n => n⟩
theorem Tryz.lays125 : Go.Proofs.Lays.n125 Tryz.prog Tryz.lays125_ren := {
  mixed := by kernel_rfl
  f125 := Tryz.func104.trans (congrArg some (by kernel_rfl))
  f128 := Tryz.func146.trans (congrArg some (by kernel_rfl))
  f129 := Tryz.func147.trans (congrArg some (by kernel_rfl))
  t3 := Tryz.underlying3
  a3 := Tryz.isAgg3
  z3 := Tryz.sizeOf3
  v3 := Tryz.zeroValue3
  t4 := Tryz.underlying4
  a4 := Tryz.isAgg4
  z4 := Tryz.sizeOf4
  v4 := Tryz.zeroValue4
  t5 := Tryz.underlying5
  a5 := Tryz.isAgg5
  z5 := Tryz.sizeOf5
  v5 := Tryz.zeroValue5
  t9 := Tryz.underlying9
  a9 := Tryz.isAgg9
  z9 := Tryz.sizeOf9
  v9 := Tryz.zeroValue9
  t46 := Tryz.underlying113
  a46 := Tryz.isAgg113
  z46 := Tryz.sizeOf113
  v46 := Tryz.zeroValue113
  t51 := Tryz.underlying223
  a51 := Tryz.isAgg223
  z51 := Tryz.sizeOf223
  v51 := Tryz.zeroValue223
  t53 := Tryz.underlying22
  a53 := Tryz.isAgg22
  z53 := Tryz.sizeOf22
  v53 := Tryz.zeroValue22 }
/-- bits.Len: "Len returns the minimum number of bits required to represent x; the result is 0 for x == 0.": IT RETURNS 'Lib.bitLen x'; the world is as it was. (A uint has 64 bits in the model.) ITS CALLEE bits.Len64 IS MET BY ITS OWN CONTRACT OFF THE SHELF (lay that first). (LAID: no walk: one application.) -/
theorem Tryz.bits_Len (x : Int) (w : World) (h0 : 0 ≤ x) (h1 : x ≤ 18446744073709551615) :
    Calls Tryz.prog 104 #[.int .u64 x] w fun e w' => e = .returned (.int .i64 (Lib.bitLen x.toNat)) ∧ w' = w := Any.bits_Len Tryz.lays125 x w h0 h1
def Tryz.lays189_ren : Go.Shelf.Ren := ⟨fun | 189 => 162 | 125 => 104 | 257 => 185 | 128 => 146 | 129 => 147 | 294 => 195 | 295 => 196 | 296 => 197 | 297 => 198 | 298 => 199 | 299 => 200 | 216 => 169 | 300 => 201 | 301 => 202 | 328 => 205 | 329 => 172 | 330 => 173 | 331 => 206 | 332 => 207 | 215 => 186 | 343 => 215 | n => n, fun | 28 => 27 | 3 => 3 | 46 => 113 | 0 => 0 | 51 => 223 | 53 => 22 | 4 => 4 | 183 => 217 | 182 => 216 | 131 => 209 | 5 => 5 | 9 => 9 | 218 => 242 | 222 => 246 | 228 => 254 | 229 => 255 | n => n, fun | n => n⟩
theorem Tryz.lays189 : Go.Proofs.Lays.n189 Tryz.prog Tryz.lays189_ren := {
  mixed := by kernel_rfl
  f125 := Tryz.func104.trans (congrArg some (by kernel_rfl))
  f128 := Tryz.func146.trans (congrArg some (by kernel_rfl))
  f129 := Tryz.func147.trans (congrArg some (by kernel_rfl))
  f189 := Tryz.func162.trans (congrArg some (by kernel_rfl))
  f215 := Tryz.func186.trans (congrArg some (by kernel_rfl))
  f216 := Tryz.func169.trans (congrArg some (by kernel_rfl))
  f257 := Tryz.func185.trans (congrArg some (by kernel_rfl))
  f294 := Tryz.func195.trans (congrArg some (by kernel_rfl))
  f295 := Tryz.func196.trans (congrArg some (by kernel_rfl))
  f296 := Tryz.func197.trans (congrArg some (by kernel_rfl))
  f297 := Tryz.func198.trans (congrArg some (by kernel_rfl))
  f298 := Tryz.func199.trans (congrArg some (by kernel_rfl))
  f299 := Tryz.func200.trans (congrArg some (by kernel_rfl))
  f300 := Tryz.func201.trans (congrArg some (by kernel_rfl))
  f301 := Tryz.func202.trans (congrArg some (by kernel_rfl))
  f328 := Tryz.func205.trans (congrArg some (by kernel_rfl))
  f329 := Tryz.func172.trans (congrArg some (by kernel_rfl))
  f330 := Tryz.func173.trans (congrArg some (by kernel_rfl))
  f331 := Tryz.func206.trans (congrArg some (by kernel_rfl))
  f332 := Tryz.func207.trans (congrArg some (by kernel_rfl))
  f343 := Tryz.func215.trans (congrArg some (by kernel_rfl))
  t0 := Tryz.underlying0
  a0 := Tryz.isAgg0
  z0 := Tryz.sizeOf0
  v0 := Tryz.zeroValue0
  t3 := Tryz.underlying3
  a3 := Tryz.isAgg3
  z3 := Tryz.sizeOf3
  v3 := Tryz.zeroValue3
  t4 := Tryz.underlying4
  a4 := Tryz.isAgg4
  z4 := Tryz.sizeOf4
  v4 := Tryz.zeroValue4
  t5 := Tryz.underlying5
  a5 := Tryz.isAgg5
  z5 := Tryz.sizeOf5
  v5 := Tryz.zeroValue5
  t9 := Tryz.underlying9
  a9 := Tryz.isAgg9
  z9 := Tryz.sizeOf9
  v9 := Tryz.zeroValue9
  t28 := Tryz.underlying27
  a28 := Tryz.isAgg27
  z28 := Tryz.sizeOf27
  v28 := Tryz.zeroValue27
  t46 := Tryz.underlying113
  a46 := Tryz.isAgg113
  z46 := Tryz.sizeOf113
  v46 := Tryz.zeroValue113
  t51 := Tryz.underlying223
  a51 := Tryz.isAgg223
  z51 := Tryz.sizeOf223
  v51 := Tryz.zeroValue223
  t53 := Tryz.underlying22
  a53 := Tryz.isAgg22
  z53 := Tryz.sizeOf22
  v53 := Tryz.zeroValue22
  t131 := Tryz.underlying209
  a131 := Tryz.isAgg209
  z131 := Tryz.sizeOf209
  v131 := Tryz.zeroValue209
  t182 := Tryz.underlying216
  a182 := Tryz.isAgg216
  z182 := Tryz.sizeOf216
  v182 := Tryz.zeroValue216
  t183 := Tryz.underlying217
  a183 := Tryz.isAgg217
  z183 := Tryz.sizeOf217
  v183 := Tryz.zeroValue217
  t218 := Tryz.underlying242
  a218 := Tryz.isAgg242
  z218 := Tryz.sizeOf242
  v218 := Tryz.zeroValue242
  t222 := Tryz.underlying246
  a222 := Tryz.isAgg246
  z222 := Tryz.sizeOf246
  v222 := Tryz.zeroValue246
  t228 := Tryz.underlying254
  a228 := Tryz.isAgg254
  z228 := Tryz.sizeOf254
  v228 := Tryz.zeroValue254
  t229 := Tryz.underlying255
  a229 := Tryz.isAgg255
  z229 := Tryz.sizeOf255
  v229 := Tryz.zeroValue255 }
open Go.Sort Go.RowKit in
theorem Tryz.slices_Sort_int (blk off cap : Nat) (zs : List Int) (w : World) (hH : Holds (Value.int .i64) w blk off zs.toArray) (hblk : blk < w.heap.size) (hsz : zs.length < 4611686018427387904) :
    Calls Tryz.prog 162 #[.slice (some ⟨blk, off, none⟩) zs.length cap] w fun e w' =>
      e = .returned (.tuple #[]) ∧ ∃ n os, w' = grow (putRow (Value.int .i64) (Sort.ahead w n) blk off (zs.mergeSort fun x y => decide (x ≤ y)).toArray) os := Any.slices_Sort_int Tryz.lays189 blk off cap zs w hH hblk hsz
def Tryz.laysNm220_ren : Go.Shelf.Ren := ⟨fun | 20 => 86 | n => n, fun | 22 => 27 | 3 => 3 | 4 => 4 | 0 => 0 | n => n, fun | n => n⟩
theorem Tryz.laysNm220 : Go.Proofs.Lays2.n20 Tryz.prog Tryz.laysNm220_ren := {
  mixed := by kernel_rfl
  f20 := Tryz.func86.trans (congrArg some (by kernel_rfl))
  t0 := Tryz.underlying0
  a0 := Tryz.isAgg0
  z0 := Tryz.sizeOf0
  v0 := Tryz.zeroValue0
  t3 := Tryz.underlying3
  a3 := Tryz.isAgg3
  z3 := Tryz.sizeOf3
  v3 := Tryz.zeroValue3
  t4 := Tryz.underlying4
  a4 := Tryz.isAgg4
  z4 := Tryz.sizeOf4
  v4 := Tryz.zeroValue4
  t22 := Tryz.underlying27
  a22 := Tryz.isAgg27
  z22 := Tryz.sizeOf27
  v22 := Tryz.zeroValue27
  i3 := by kernel_rfl }
open Go.RowKit Go.Lib Go.Sort in
/-- slices.Compact at []int: "Compact replaces consecutive runs of equal elements with a single copy. This is like the uniq command found on Unix. Compact modifies the contents of the slice s and returns the modified slice, which may have a smaller length. Compact zeroes the elements between the new length and the original length. The result preserves the nilness of s.": IT RETURNS THE SLICE CUT TO 'Lib.compact zs'; ITS CELLS HOLD 'Lib.compact zs', THEN ZERO VALUES up to the old length; all else is as it was, but for the count of draws. IN THE WORDS OF slices.Sort's CONTRACT ('Holds', 'putRow'): so the everyday 'slices.Sort(xs); xs = slices.Compact(xs)' goes from the one contract to the other. It asks 'zs.length ≤ cap' (every slice's: the reslicing 's[:k]' looks at it). Length 0, nil: '.._empty'. (LAID: no walk: one application.) -/
theorem Tryz.slices_Compact_int (blk off cap : Nat) (zs : List Int) (w : World) (hH : Holds (Value.int .i64) w blk off zs.toArray) (hsz : zs.length ≤ 9223372036854775807) (hcap : zs.length ≤ cap) :
    Calls Tryz.prog 86 #[.slice (some ⟨blk, off, none⟩) zs.length cap] w fun e w' => e = .returned (.slice (some ⟨blk, off, none⟩) (Lib.compact zs).length cap) ∧ ∃ q, w' = putRow (Value.int .i64) (Sort.ahead w q) blk off (Lib.compact zs ++ List.replicate (zs.length - (Lib.compact zs).length) 0).toArray := Any.slices_Compact_int Tryz.laysNm220 blk off cap zs w hH hsz hcap
open Go.RowKit Go.Lib Go.Sort in
/-- The same at a slice of length 0, a nil one too: it comes back as it is. (LAID: no walk: one application.) -/
theorem Tryz.slices_Compact_int_empty (a : Option Addr) (cap : Nat) (w : World) :
    Calls Tryz.prog 86 #[.slice a 0 cap] w fun e w' => e = .returned (.slice a 0 cap) ∧ w' = w := Any.slices_Compact_int_empty Tryz.laysNm220 a cap w
def Tryz.laysNm225_ren : Go.Shelf.Ren := ⟨fun | 25 => 132 | 31 => 169 | 32 => 170 | 37 => 186 | n => n, fun | 22 => 27 | 3 => 3 | 4 => 4 | 40 => 113 | 0 => 0 | n => n, fun | n => n⟩
theorem Tryz.laysNm225 : Go.Proofs.Lays2.n25 Tryz.prog Tryz.laysNm225_ren := {
  mixed := by kernel_rfl
  f25 := Tryz.func132.trans (congrArg some (by kernel_rfl))
  f31 := Tryz.func169.trans (congrArg some (by kernel_rfl))
  f32 := Tryz.func170.trans (congrArg some (by kernel_rfl))
  f37 := Tryz.func186.trans (congrArg some (by kernel_rfl))
  t0 := Tryz.underlying0
  a0 := Tryz.isAgg0
  z0 := Tryz.sizeOf0
  v0 := Tryz.zeroValue0
  t3 := Tryz.underlying3
  a3 := Tryz.isAgg3
  z3 := Tryz.sizeOf3
  v3 := Tryz.zeroValue3
  t4 := Tryz.underlying4
  a4 := Tryz.isAgg4
  z4 := Tryz.sizeOf4
  v4 := Tryz.zeroValue4
  t22 := Tryz.underlying27
  a22 := Tryz.isAgg27
  z22 := Tryz.sizeOf27
  v22 := Tryz.zeroValue27
  t40 := Tryz.underlying113
  a40 := Tryz.isAgg113
  z40 := Tryz.sizeOf113
  v40 := Tryz.zeroValue113 }
open Go.RowKit Go.Lib in
/-- slices.BinarySearch at []int: "BinarySearch searches for target in a sorted slice and returns the earliest position where target is found, or the position where target would appear in the sort order; it also returns a bool saying whether the target is really found in the slice. The slice must be sorted in increasing order.": OF A SORTED SLICE IT RETURNS how many elements are less than the target, and whether the target is among the elements; the world is as it was but for the count of draws. 'zs': what the cells behind the slice's address hold; 'zs.take n': its elements. (Of a slice that is not sorted: no contract here.) (LAID: no walk: one application.) -/
theorem Tryz.slices_BinarySearch_int (b off n c : Nat) (zs : List Int) (x : Int) (w : World) (hz : n ≤ zs.length) (hbig : n < 4611686018427387904) (hc : ∀ j, j < zs.length → w.cell? ⟨b, off + j, none⟩ = some (.int .i64 (zs.getD j 0))) (hs : (zs.take n).Pairwise (· ≤ ·)) :
    Calls Tryz.prog 132 #[.slice (some ⟨b, off, none⟩) n c, .int .i64 x] w fun e w' => e = .returned (.tuple #[.int .i64 ((zs.take n).countP (· < x) : Nat), .bool ((zs.take n).contains x)]) ∧ ∃ q, w' = w.drewN q := Any.slices_BinarySearch_int Tryz.laysNm225 b off n c zs x w hz hbig hc hs
open Go.RowKit Go.Sort in
/-- .. and plain. (LAID: no walk: one application.) -/
theorem Tryz.slices_Sort_int_none (p : Option Addr) (cap : Nat) (w : World) :
    Calls Tryz.prog 162 #[.slice p 0 cap] w fun e w' => e = .returned (.tuple #[]) ∧ w' = w := Any.slices_Sort_int_none Tryz.lays189 p cap w
open Go.RowKit Go.Lib in
/-- slices.BinarySearch at []int of no element: position 0, not found; the world is as it was. (LAID: no walk: one application.) -/
theorem Tryz.slices_BinarySearch_int_empty (a : Option Addr) (c : Nat) (x : Int) (w : World) :
    Calls Tryz.prog 132 #[.slice a 0 c, .int .i64 x] w fun e w' => e = .returned (.tuple #[.int .i64 0, .bool false]) ∧ w' = w := Any.slices_BinarySearch_int_empty Tryz.laysNm225 a c x w
end Go.Proofs

/- Nodes and trees, by the program. -/
namespace Go.Proofs.YtoegpalacppllaaGreat
open Go.RowKit Pl
open Tr Hn
theorem bitLen_tab : (Tr.upto 128 fun v => Nat.ble v 0 || Nat.beq (Lib.bitLen v) (lev v + 1)) = true := by decide +kernel
theorem bitLen_lev {v : Nat} (h0 : 0 < v) (h : v < 128) : Lib.bitLen v = lev v + 1 := by
 have := Tr.upto_get bitLen_tab h
 simp only [Bool.or_eq_true, Nat.ble_eq] at this
 rcases this with h1 | h1
 ·omega
 ·exact Nat.eq_of_beq_eq_true h1
theorem g_Len (n : Nat) (h : n < 18446744073709551616) : Gives Tryz.prog 104 [.int .u64 (n : Int)].toArray (.int .i64 (Lib.bitLen n)) := fun w =>
 (Tryz.bits_Len n w (by omega) (by omega)).mono fun e w' ⟨he, hw⟩ => ⟨he, hw ▸ Below.refl _ _⟩
set_option maxRecDepth 10000 in
/-- (headend/cover.node).level -/
theorem g_plevel (v : Nat) (h0 : 0 < v) (h : v < 128) : Gives Tryz.prog 102 [.int .i64 (v : Int)].toArray (.int .i64 ((lev v) : Int)) := by
 refine gives_of Tryz.func102 rfl (bs := [.int .i64 (v : Int), undef, undef, undef, undef, undef, undef]) rfl ?_
 intro w hW
 have hb := bitLen_lev h0 h
 have hlv := lev_le h
 refine c_seq (c_reg ?_)
 refine bI ?_
 refine l_end (n_then (c_seq (c_reg ?_)))
 refine aI ?_
 refine l_val (r_conv_i64_u64 (n := v) Tryz.underlying111 Tryz.underlying113 rfl rfl) rfl rfl ?_
 rw [show (BitVec.ofNat 64 v).toNat = v by rw [BitVec.toNat_ofNat]; omega]
 refine l_call hW (g_Len v (by omega)) en104 rfl rfl rfl rfl ?_
 intro W hW
 rw [hb]
 refine l_val (r_subN (m := lev v + 1) (n := 1) rfl rfl rfl (by omega) (by omega)) rfl rfl ?_
 refine bI ?_
 refine l_end (n_then (c_ret ?_))
 refine ret_tmp (v := .int .i64 ((lev v) : Int)) rfl ?_ ⟨rfl, hW.below⟩
 rfl

set_option maxRecDepth 10000 in
/-- (headend/cover.tree).size -/
theorem g_psize (s : Sc) (h0 : 0 ≤ s.d) (h6 : s.d ≤ 6) : Gives Tryz.prog 99 [.agg [.int .u8 s.k, .int .i64 s.d, .int .i64 (strideN s.d : Int)].toArray].toArray (.int .i64 ((p2 s.d.toNat : Nat) : Int)) := by
 refine gives_of Tryz.func99 rfl (bs := [.agg [.int .u8 s.k, .int .i64 s.d, .int .i64 (strideN s.d : Int)].toArray, undef, undef, undef, undef, undef]) rfl ?_
 intro w hW
 have hp := p2_le (n := s.d.toNat) (by omega)
 refine c_seq (c_reg ?_)
 refine xB hW ?_
 intro g1 W hW
 refine bI ?_
 refine l_end (n_then (c_seq (c_reg ?_)))
 refine l_val (r_fieldAddr 1 Tryz.underlying106 rfl tyC3.size rfl rfl rfl) rfl rfl ?_
 refine dC hW 0 tyC3 ?_
 refine l_val (r_shlZ (m := 1) rfl rfl rfl (by omega) (by omega) (by omega)) rfl rfl ?_
 refine bI ?_
 refine l_end (n_then (c_ret ?_))
 refine ret_tmp (v := .int .i64 ((p2 s.d.toNat : Nat) : Int)) rfl ?_ ⟨rfl, hW.below⟩
 exact congrArg (fun n : Nat => Value.int .i64 (n : Int)) (Nat.one_mul _)

set_option maxRecDepth 10000 in
/-- (headend/cover.tree).leaf -/
theorem g_pleaf (s : Sc) (u : Nat) (h0 : 0 ≤ s.d) (h6 : s.d ≤ 6) (hu : u < p2 s.d.toNat) : Gives Tryz.prog 53 [.agg [.int .u8 s.k, .int .i64 s.d, .int .i64 (strideN s.d : Int)].toArray, .int .i64 (u : Int)].toArray (.int .i64 ((p2 s.d.toNat + u : Nat) : Int)) := by
 refine gives_of Tryz.func53 rfl (bs := [.agg [.int .u8 s.k, .int .i64 s.d, .int .i64 (strideN s.d : Int)].toArray, .int .i64 (u : Int), undef, undef, undef, undef, undef, undef, undef]) rfl ?_
 intro w hW
 have hp := p2_le (n := s.d.toNat) (by omega)
 refine c_seq (c_reg ?_)
 refine xB hW ?_
 intro g1 W hW
 refine bI ?_
 refine l_end (n_then (c_seq (c_reg ?_)))
 refine dA hW 0 tyA106 ?_
 refine l_call hW (g_psize s (by omega) (by omega)) en99 rfl rfl rfl rfl ?_
 intro W hW
 refine aI ?_
 refine l_val (r_addN rfl rfl rfl (by omega)) rfl rfl ?_
 refine bI ?_
 refine l_end (n_then (c_ret ?_))
 refine ret_tmp (v := .int .i64 ((p2 s.d.toNat + u : Nat) : Int)) rfl ?_ ⟨rfl, hW.below⟩
 rfl

set_option maxRecDepth 10000 in
/-- (headend/cover.tree).has -/
theorem g_phas (s : Sc) (v : Int) (h0 : 0 ≤ s.d) (h6 : s.d ≤ 6) : Gives Tryz.prog 113 [.agg [.int .u8 s.k, .int .i64 s.d, .int .i64 (strideN s.d : Int)].toArray, .int .i64 v].toArray (.bool (nodeB s.d v)) := by
 refine gives_of Tryz.func113 rfl (bs := [.agg [.int .u8 s.k, .int .i64 s.d, .int .i64 (strideN s.d : Int)].toArray, .int .i64 v, undef, undef, undef, undef, undef, undef, undef, undef, undef, undef, undef, undef]) rfl ?_
 intro w hW
 have hp := p2_le (n := s.d.toNat) (by omega)
 refine c_seq (c_reg ?_)
 refine xB hW ?_
 intro g1 W hW
 refine bB ?_
 refine l_end (n_then (c_seq (c_reg ?_)))
 refine aI ?_
 refine l_val (r_geq rfl rfl rfl rfl) rfl rfl ?_
 refine l_split ?_ ?_
 ·intro hc1
  replace hc1 := of_decide_eq_true hc1
  refine aB ?_
  refine gI ?_
  refine l_loadAG hW 0 tyA106 (by kernel_rfl) rfl rfl rfl rfl (by first | rfl | exact kc_len _ | exact kcf_len _ | exact boC_len _ _ | (simp; done)) ?_
  refine l_callG hW (g_psize s (by omega) (by omega)) en99 (by kernel_rfl) rfl rfl rfl ?_
  intro W hW
  refine l_valG (r_mulN (m := 2) rfl rfl rfl (by omega)) (by kernel_rfl) rfl ?_
  refine l_valG (r_lss rfl rfl rfl rfl) (by kernel_rfl) rfl ?_
  refine kB ?_
  refine bB ?_
  refine l_end (n_then (c_ret ?_))
  refine ret_tmp (v := .bool (nodeB s.d v)) rfl ?_ ⟨rfl, hW.below⟩
  exact congrArg Value.bool (decide_eq_decide.2 (by omega))
 ·intro hc1
  replace hc1 := of_decide_eq_false hc1
  refine aB ?_
  refine lN ?_
  refine lN ?_
  refine lN ?_
  refine lN ?_
  refine lN ?_
  refine kB ?_
  refine bB ?_
  refine l_end (n_then (c_ret ?_))
  refine ret_tmp (v := .bool (nodeB s.d v)) rfl ?_ ⟨rfl, hW.below⟩
  exact congrArg Value.bool (decide_eq_false (by omega)).symm

set_option maxRecDepth 10000 in
/-- (headend/cover.node).below -/
theorem g_pbelow (y v : Nat) (hy : 0 < y) (hy2 : y < 128) (hv : 0 < v) (hv2 : v < 128) : Gives Tryz.prog 114 [.int .i64 (y : Int), .int .i64 (v : Int)].toArray (.bool (belowN y v)) := by
 refine gives_of Tryz.func114 rfl (bs := [.int .i64 (y : Int), .int .i64 (v : Int), undef, undef, undef, undef, undef, undef, undef, undef, undef, undef, undef, undef, undef, undef, undef, undef, undef, undef, undef, undef, undef, undef, undef, undef, undef]) rfl ?_
 intro w hW
 have l1 := lev_le hy2
 have l2 := lev_le hv2
 refine c_seq (c_reg ?_)
 refine bB ?_
 refine l_end (n_then (c_seq (c_seq (c_reg ?_))))
 refine aI ?_
 refine l_val (r_lssN (n := 1) rfl rfl rfl rfl) rfl rfl ?_
 refine l_split ?_ ?_
 ·intro hc1
  replace hc1 := of_decide_eq_true hc1
  refine aB ?_
  refine lN ?_
  refine lN ?_
  refine kB ?_
  refine aB ?_
  refine lN ?_
  refine lN ?_
  refine lN ?_
  refine lN ?_
  refine lN ?_
  refine kB ?_
  refine l_end (n_then ?_)
  refine c_true rfl ?_
  refine c_seq (c_reg ?_)
  refine bB ?_
  refine l_end (n_then (c_ret (r_then ?_)))
  refine ret_tmp (v := .bool (belowN y v)) rfl ?_ ⟨rfl, hW.below⟩
  exact congrArg Value.bool (by rw [eq_comm, ← Bool.not_eq_true, below_iff]; omega)
 ·intro hc1
  replace hc1 := of_decide_eq_false hc1
  refine aB ?_
  refine gI ?_
  refine l_valG (r_lssN (n := 1) rfl rfl rfl rfl) (by kernel_rfl) rfl ?_
  refine l_split ?_ ?_
  ·intro hc2
   replace hc2 := of_decide_eq_true hc2
   refine kB ?_
   refine aB ?_
   refine lN ?_
   refine lN ?_
   refine lN ?_
   refine lN ?_
   refine lN ?_
   refine kB ?_
   refine l_end (n_then ?_)
   refine c_true rfl ?_
   refine c_seq (c_reg ?_)
   refine bB ?_
   refine l_end (n_then (c_ret (r_then ?_)))
   refine ret_tmp (v := .bool (belowN y v)) rfl ?_ ⟨rfl, hW.below⟩
   exact congrArg Value.bool (by rw [eq_comm, ← Bool.not_eq_true, below_iff]; omega)
  ·intro hc2
   replace hc2 := of_decide_eq_false hc2
   refine kB ?_
   refine aB ?_
   refine gI ?_
   refine l_callG hW (g_plevel _ (by omega) (by omega)) en102 (by kernel_rfl) rfl rfl rfl ?_
   intro W hW
   refine gI ?_
   refine l_callG hW (g_plevel _ (by omega) (by omega)) en102 (by kernel_rfl) rfl rfl rfl ?_
   intro W hW
   refine l_valG (r_lssN rfl rfl rfl rfl) (by kernel_rfl) rfl ?_
   refine l_split ?_ ?_
   ·intro hc3
    replace hc3 := of_decide_eq_true hc3
    refine kB ?_
    refine l_end (n_then ?_)
    refine c_true rfl ?_
    refine c_seq (c_reg ?_)
    refine bB ?_
    refine l_end (n_then (c_ret (r_then ?_)))
    refine ret_tmp (v := .bool (belowN y v)) rfl ?_ ⟨rfl, hW.below⟩
    exact congrArg Value.bool (by rw [eq_comm, ← Bool.not_eq_true, below_iff]; omega)
   ·intro hc3
    replace hc3 := of_decide_eq_false hc3
    refine kB ?_
    refine l_end (n_then ?_)
    refine c_false rfl ?_
    refine c_skip (n_then (c_seq (c_reg ?_)))
    refine aI ?_
    refine aI ?_
    refine l_call hW (g_plevel _ (by omega) (by omega)) en102 rfl rfl rfl rfl ?_
    intro W hW
    refine aI ?_
    refine l_call hW (g_plevel _ (by omega) (by omega)) en102 rfl rfl rfl rfl ?_
    intro W hW
    refine l_val (r_subN rfl rfl rfl (by omega) (by omega)) rfl rfl ?_
    refine l_val (r_shr_i64N (n := y) (s := lev y - lev v) rfl rfl rfl (by omega)) rfl rfl ?_
    refine aI ?_
    refine l_val (r_eqlN rfl rfl rfl rfl) rfl rfl ?_
    refine bB ?_
    refine l_end (n_then (c_ret ?_))
    refine ret_tmp (v := .bool (belowN y v)) rfl ?_ ⟨rfl, hW.below⟩
    exact congrArg Value.bool (by rw [Bool.eq_iff_iff]; simp only [decide_eq_true_eq, belowN, Bool.and_eq_true, Nat.ble_eq, Nat.beq_eq, sh_eq]; omega)

end Go.Proofs.YtoegpalacppllaaGreat

/- Members, by the program. -/
namespace Go.Proofs.YtoegpalacppllaaGreat
open Go.RowKit Pl
open Tr Hn
set_option maxRecDepth 10000 in
/-- (headend/cover.tree).special -/
theorem g_pspecial (s : Sc) (v : Nat) (hv : 0 < v) (hv2 : v < 128) : Gives Tryz.prog 57 [.agg [.int .u8 s.k, .int .i64 s.d, .int .i64 (strideN s.d : Int)].toArray, .int .i64 (v : Int)].toArray (.bool (specN s.d v)) := by
 refine gives_of Tryz.func57 rfl (bs := [.agg [.int .u8 s.k, .int .i64 s.d, .int .i64 (strideN s.d : Int)].toArray, .int .i64 (v : Int), undef, undef, undef, undef, undef, undef, undef, undef, undef]) rfl ?_
 intro w hW
 have hsp := stride_pos s.d
 refine c_seq (c_reg ?_)
 refine xB hW ?_
 intro g1 W hW
 refine bB ?_
 refine l_end (n_then (c_seq ?_))
 refine c_regY hW [] [.q, .q, .q, .q, .q, .q, .q] [0, 1, 0, 4, 15, 31, 63] (by kernel_rfl) (by kernel_rfl) ?_
 refine yI ?_
 refine y_call (g_plevel _ (by omega) (by omega)) en102 rfl rfl rfl rfl ?_
 refine y_val (r_fieldAddr 2 Tryz.underlying106 rfl tyC3.size rfl rfl rfl) rfl rfl ?_
 refine y_loadC 0 tyC3 rfl rfl rfl rfl rfl rfl (by decide) ?_
 refine y_val (r_remN rfl rfl rfl (by omega)) rfl rfl ?_
 refine y_val (r_eqlN (n := 0) rfl rfl rfl rfl) rfl rfl ?_
 refine y_val (r_assign (v := .bool _) rfl rfl) rfl rfl ?_
 refine y_end ?_
 intro W hW
 refine n_then (c_ret ?_)
 refine ret_tmp (v := .bool (specN s.d v)) rfl ?_ ⟨rfl, hW.below⟩
 exact congrArg Value.bool (by rw [Bool.eq_iff_iff]; simp only [decide_eq_true_eq, specN, Nat.beq_eq] <;> omega)

set_option maxRecDepth 10000 in
/-- (headend/cover.node).toward -/
theorem g_ptoward (v y : Nat) (hv : 0 < v) (hv2 : v < 128) (hy : 0 < y) (hy2 : y < 128) (h : lev v < lev y) : Gives Tryz.prog 110 [.int .i64 (v : Int), .int .i64 (y : Int)].toArray (.int .i64 ((sh y (lev y - lev v - 1) : Nat) : Int)) := by
 refine gives_of Tryz.func110 rfl (bs := [.int .i64 (v : Int), .int .i64 (y : Int), undef, undef, undef, undef, undef, undef, undef, undef, undef, undef, undef]) rfl ?_
 intro w hW
 have l1 := lev_le hy2
 refine c_seq (c_reg ?_)
 refine bI ?_
 refine l_end (n_then (c_seq (c_reg ?_)))
 refine aI ?_
 refine aI ?_
 refine l_call hW (g_plevel _ (by omega) (by omega)) en102 rfl rfl rfl rfl ?_
 intro W hW
 refine aI ?_
 refine l_call hW (g_plevel _ (by omega) (by omega)) en102 rfl rfl rfl rfl ?_
 intro W hW
 refine l_val (r_subN rfl rfl rfl (by omega) (by omega)) rfl rfl ?_
 refine l_val (r_subN (n := 1) rfl rfl rfl (by omega) (by omega)) rfl rfl ?_
 refine l_val (r_shr_i64N (n := y) (s := lev y - lev v - 1) rfl rfl rfl (by omega)) rfl rfl ?_
 refine bI ?_
 refine l_end (n_then (c_ret ?_))
 refine ret_tmp (v := .int .i64 ((sh y (lev y - lev v - 1) : Nat) : Int)) rfl ?_ ⟨rfl, hW.below⟩
 exact congrArg (fun n : Nat => Value.int .i64 (n : Int)) (sh_eq _ _).symm

set_option maxRecDepth 10000 in
/-- (headend/cover.node).below -/
theorem g_pbelow0 (y : Nat) (hy : 0 < y) : Gives Tryz.prog 114 [.int .i64 (y : Int), .int .i64 0].toArray (.bool false) := by
 refine gives_of Tryz.func114 rfl (bs := [.int .i64 (y : Int), .int .i64 0, undef, undef, undef, undef, undef, undef, undef, undef, undef, undef, undef, undef, undef, undef, undef, undef, undef, undef, undef, undef, undef, undef, undef, undef, undef]) rfl ?_
 intro w hW
 refine c_seq (c_reg ?_)
 refine bB ?_
 refine l_end (n_then (c_seq (c_seq (c_reg ?_))))
 refine aI ?_
 refine l_val (r_lssN (n := 1) rfl rfl rfl rfl) rfl rfl ?_
 refine l_split ?_ ?_
 ·intro hc1
  replace hc1 := of_decide_eq_true hc1
  omega
 ·intro hc1
  replace hc1 := of_decide_eq_false hc1
  refine aB ?_
  refine gI ?_
  refine l_valG (r_lss (b := true) rfl rfl rfl (by decide)) (by kernel_rfl) rfl ?_
  refine kB ?_
  refine aB ?_
  refine lN ?_
  refine lN ?_
  refine lN ?_
  refine lN ?_
  refine lN ?_
  refine kB ?_
  refine l_end (n_then ?_)
  refine c_true rfl ?_
  refine c_seq (c_reg ?_)
  refine bB ?_
  refine l_end (n_then (c_ret (r_then ?_)))
  refine ret_tmp (v := .bool false) rfl ?_ ⟨rfl, hW.below⟩
  rfl

/-- below, of whole numbers -/
theorem g_pbelowZ (y : Nat) (v : Int) (hy : 0 < y) (hy2 : y < 128) (hv : 0 ≤ v) (hv2 : v < 128) : Gives Tryz.prog 114 [.int .i64 (y : Int), .int .i64 v].toArray (.bool (!decide (v = 0) && belowN y v.toNat)) := by
 by_cases h : v = 0
 ·subst h
  exact g_pbelow0 y hy
 ·obtain ⟨v', rfl⟩ : ∃ n : Nat, v = n := ⟨v.toNat, by omega⟩
  rw [decide_eq_false h]
  exact g_pbelow y v' hy hy2 (by omega) (by omega)
set_option maxRecDepth 10000 in
/-- (headend/cover.tree).member -/
theorem g_pmember (s : Sc) (v x : Int) (u : Nat) (h0 : 0 ≤ s.d) (h6 : s.d ≤ 6) (hv : 1 ≤ v) (hv2 : v < 128) (hx0 : 0 ≤ x) (hx2 : x < 128) (hu : u < p2 s.d.toNat) : Gives Tryz.prog 133 [.agg [.int .u8 s.k, .int .i64 s.d, .int .i64 (strideN s.d : Int)].toArray, .agg [.int .i64 v, .int .i64 x].toArray, .int .i64 (u : Int)].toArray (.bool (memB s v x u)) := by
 refine gives_of Tryz.func133 rfl (bs := [.agg [.int .u8 s.k, .int .i64 s.d, .int .i64 (strideN s.d : Int)].toArray, .agg [.int .i64 v, .int .i64 x].toArray, .int .i64 (u : Int), undef, undef, undef, undef, undef, undef, undef, undef, undef, undef, undef, undef, undef, undef, undef, undef, undef, undef, undef]) rfl ?_
 intro w hW
 have hp := p2_le (n := s.d.toNat) (by omega)
 have hp0 := p2_pos s.d.toNat
 refine c_seq (c_reg ?_)
 refine xB hW ?_
 intro g1 W hW
 refine xB hW ?_
 intro g2 W hW
 refine bB ?_
 refine l_end (n_then (c_seq (c_reg ?_)))
 refine dA hW 1 tyA106 ?_
 refine aI ?_
 refine l_call hW (g_pleaf s u (by omega) (by omega) (by omega)) en53 rfl rfl rfl rfl ?_
 intro W hW
 refine bI ?_
 refine l_end (n_then (c_seq (c_reg ?_)))
 refine aI ?_
 refine l_val (r_fieldAddr 0 Tryz.underlying64 rfl tyC3.size rfl rfl rfl) rfl rfl ?_
 refine dC hW 0 tyC3 ?_
 refine l_call hW (g_pbelowZ (p2 s.d.toNat + u) v (by omega) (by omega) (by omega) (by omega)) en114 rfl rfl rfl rfl ?_
 intro W hW
 refine l_split ?_ ?_
 ·intro hc1
  refine aB ?_
  refine gI ?_
  refine l_valG (r_fieldAddr 1 Tryz.underlying64 rfl tyC3.size rfl rfl rfl) (by kernel_rfl) rfl ?_
  refine dG hW 0 tyC3 ?_
  refine l_callG hW (g_pbelowZ (p2 s.d.toNat + u) x (by omega) (by omega) (by omega) (by omega)) en114 (by kernel_rfl) rfl rfl rfl ?_
  intro W hW
  refine l_valG (r_not rfl rfl) (by kernel_rfl) rfl ?_
  refine kB ?_
  refine bB ?_
  refine l_end (n_then (c_ret ?_))
  refine ret_tmp (v := .bool (memB s v x u)) rfl ?_ ⟨rfl, hW.below⟩
  rw [decide_eq_false (show ¬ v = 0 by omega)] at hc1
  exact congrArg Value.bool (by rw [memB, show belowN (p2 s.d.toNat + u) v.toNat = true from hc1]; cases decide (x = 0) <;> simp)
 ·intro hc1
  refine aB ?_
  refine lN ?_
  refine lN ?_
  refine lN ?_
  refine lN ?_
  refine lN ?_
  refine kB ?_
  refine bB ?_
  refine l_end (n_then (c_ret ?_))
  refine ret_tmp (v := .bool (memB s v x u)) rfl ?_ ⟨rfl, hW.below⟩
  rw [decide_eq_false (show ¬ v = 0 by omega)] at hc1
  exact congrArg Value.bool (by rw [memB, show belowN (p2 s.d.toNat + u) v.toNat = false from hc1]; rfl)

set_option maxRecDepth 10000 in
/-- (headend/cover.tree).members -/
theorem g_pmembers (s : Sc) (v x : Int) (h0 : 0 ≤ s.d) (h6 : s.d ≤ 6) (hv : 1 ≤ v) (hv2 : v < 128) (hx0 : 0 ≤ x) (hx2 : x < 128) : GivesX Tryz.prog 89 [.agg [.int .u8 s.k, .int .i64 s.d, .int .i64 (strideN s.d : Int)].toArray, .agg [.int .i64 v, .int .i64 x].toArray].toArray (fun _ => True) (NewSl 3 1 (membersN s v x (p2 s.d.toNat)).length (il (membersN s v x (p2 s.d.toNat)))) := by
 refine givesX_of Tryz.func89 rfl (bs := [.agg [.int .u8 s.k, .int .i64 s.d, .int .i64 (strideN s.d : Int)].toArray, .agg [.int .i64 v, .int .i64 x].toArray, undef, undef, undef, undef, undef, undef, undef, undef, undef, undef, undef, undef, undef, undef, undef, undef, undef, undef, undef, undef]) rfl ?_
 intro w hP hW
 have hp := p2_le (n := s.d.toNat) (by omega)
 refine c_seq (c_reg ?_)
 refine xB hW ?_
 intro g1 W hW
 refine xB hW ?_
 intro g2 W hW
 refine bS ?_
 refine l_end (n_then (c_seq (c_reg ?_)))
 refine bS ?_
 refine l_end (n_then (c_seq (c_seq (c_reg ?_))))
 refine dA hW 1 tyA106 ?_
 refine l_call hW (g_psize s (by omega) (by omega)) en99 rfl rfl rfl rfl ?_
 intro W hW
 refine aI ?_
 refine l_end (n_then (c_block ?_))
 refine c_loop (fun (z : Nat × Option Addr × Nat × List Blk × Nat) (j : Nat → Value) => [.agg [.int .u8 s.k, .int .i64 s.d, .int .i64 (strideN s.d : Int)].toArray, .agg [.int .i64 v, .int .i64 x].toArray, .pointer (some ⟨g1, 0, none⟩), .pointer (some ⟨g2, 0, none⟩), j 4, .slice z.2.1 z.2.2.2.2 z.2.2.1, j 6, .agg ([.int .u8 s.k, .int .i64 s.d, .int .i64 (strideN s.d : Int)]).toArray, .int .i64 ((p2 s.d.toNat : Nat) : Int), .int .i64 (z.1 : Int), j 10, j 11, j 12, j 13, j 14, j 15, j 16, j 17, j 18, j 19, j 20, j 21]) (fun (z : Nat × Option Addr × Nat × List Blk × Nat) => [⟨g2, [.int .i64 v, .int .i64 x], 64⟩, ⟨g1, [.int .u8 s.k, .int .i64 s.d, .int .i64 (strideN s.d : Int)], 106⟩] ++ z.2.2.2.1) (fun (z : Nat × Option Addr × Nat × List Blk × Nat) => z.1 ≤ p2 s.d.toNat ∧ z.2.2.2.2 = (membersN s v x z.1).length ∧ OwnSl 3 1 z.2.1 z.2.2.2.2 z.2.2.1 (il (membersN s v x z.1)) z.2.2.2.1) (fun (z : Nat × Option Addr × Nat × List Blk × Nat) => p2 s.d.toNat - z.1) (0, none, 0, [], 0) (by kernel_rfl) (by simpa using hW) ⟨Nat.zero_le _, rfl, OwnSl.nil 3 1⟩ ?_
 intro z j W hx hW
 obtain ⟨hz, hzn, hO⟩ := hx
 refine c_seq (c_reg ?_)
 refine l_val (r_lssN rfl rfl rfl rfl) rfl rfl ?_
 refine l_split ?_ ?_
 ·intro hc1
  replace hc1 := of_decide_eq_true hc1
  refine l_end (n_then (c_seq ?_))
  refine c_true rfl ?_
  refine c_skip (n_then (c_seq (c_block (c_seq (c_reg ?_)))))
  refine aI ?_
  refine bI ?_
  refine l_end (n_then (c_seq (c_reg ?_)))
  refine dA hW 1 tyA106 ?_
  refine dA hW 0 tyA64 ?_
  refine aI ?_
  refine l_call hW (g_pmember s v x z.1 h0 h6 hv hv2 hx0 hx2 (by omega)) en133 rfl rfl rfl rfl ?_
  intro W hW
  refine l_split ?_ ?_
  ·intro hc2
   have hmx := mem_yes hc2
   have hyes := hc2
   have hml := mem_len s v x (z.1 + 1)
   refine l_end (n_then ?_)
   refine c_true rfl ?_
   refine c_reg ?_
   refine aS ?_
   refine aI ?_
   refine l_buildSliceF hW (bsl27_1_0 _) rfl rfl rfl rfl ?_
   intro gb W hW
   refine l_appendB tyE27 (L := [_, _, _]) hO hW 0 (N := (membersN s v x (z.1 + 1)).length) (by rw [mem_yes hyes, List.length_append]; simp only [List.length_cons, List.length_nil]; omega) rfl rfl rfl rfl rfl rfl rfl (by simp [Value.oneCell']) (by unfold maxLen; omega) (by omega) ?_
   intro a1 c1 Bs1 W hO1 hW
   replace hO1 := hO1.castx rfl (xs' := il (membersN s v x (z.1 + 1))) (by rw [mem_yes hyes, il_append]; rfl)
   refine bS ?_
   refine l_end (n_block (n_then (c_reg ?_)))
   refine l_val (r_addN (n := 1) rfl rfl rfl (by omega)) rfl rfl ?_
   refine aI ?_
   refine l_end (n_then ?_)
   exact loop_next (z.1 + 1, a1, c1, Bs1, (membersN s v x (z.1 + 1)).length) (by kernel_rfl) (hW.drop 1) ⟨by simp only; omega, rfl, hO1⟩ (by simp only; omega)
  ·intro hc2
   have hmx := mem_no hc2
   refine l_end (n_then ?_)
   refine c_false rfl ?_
   refine c_skip (n_block (n_then (c_reg ?_)))
   refine l_val (r_addN (n := 1) rfl rfl rfl (by omega)) rfl rfl ?_
   refine aI ?_
   refine l_end (n_then ?_)
   exact loop_next (z.1 + 1, z.2.1, z.2.2.1, z.2.2.2.1, z.2.2.2.2) (by kernel_rfl) hW ⟨by simp only; omega, by simp only [hmx]; exact hzn, by simp only [hmx]; exact hO⟩ (by simp only; omega)
 ·intro hc1
  replace hc1 := of_decide_eq_false hc1
  refine l_end (n_then (c_seq ?_))
  refine c_false rfl ?_
  refine c_exit (x_then (x_then ?_))
  refine x_hit ?_
  refine n_then (c_seq (c_reg ?_))
  refine aS ?_
  refine bS ?_
  refine l_end (n_then (c_ret ?_))
  refine ret_tmp (v := .slice _ _ _) rfl rfl ?_
  have e : z.1 = p2 s.d.toNat := by omega
  rw [← e, ← hzn]
  exact ⟨_, _, rfl, ⟨_, _, rfl, hO⟩, hW.sub (List.sublist_append_right _ _)⟩

end Go.Proofs.YtoegpalacppllaaGreat

/- Paths, by the program. -/
namespace Go.Proofs.YtoegpalacppllaaGreat
open Go.RowKit Pl
open Tr Hn
/-- the first special node of a path -/
theorem bet_first (d : Int) (w : Nat) : ∀ n, ∃ k, k ≤ n ∧ (∀ i, i < k → specN d (sh w (n - i)) = false) ∧ (k < n → specN d (sh w (n - k)) = true) ∧ bet d w n = if k < n then sh w (n - k) else 0
 | 0 => ⟨0, Nat.le_refl _, fun i hi => by omega, fun h => by omega, rfl⟩
 | n + 1 => by
  cases h : specN d (sh w (n + 1)) with
  | true => exact ⟨0, Nat.zero_le _, fun i hi => by omega, fun _ => h, by rw [bet, if_pos h, if_pos (by omega)]; rfl⟩
  | false =>
   obtain ⟨k, h1, h2, h3, h4⟩ := bet_first d w n
   refine ⟨k + 1, by omega, fun i hi => ?_, fun hk => ?_, ?_⟩
   ·cases i with
    | zero => exact h
    | succ i => rw [show n + 1 - (i + 1) = n - i by omega]; exact h2 i (by omega)
   ·rw [show n + 1 - (k + 1) = n - k by omega]; exact h3 (by omega)
   ·rw [bet, if_neg (by rw [h]; decide), h4, show n + 1 - (k + 1) = n - k by omega]
    by_cases hk : k < n
    ·rw [if_pos hk, if_pos (by omega)]
    ·rw [if_neg hk, if_neg (by omega)]
set_option maxRecDepth 10000 in
/-- headend/cover.path$1 -/
theorem j_path {w : World} (y n gf gt : Nat) (h0 : 0 < y) (hy : y < 128) (hn : n ≤ lev y) (hP : w.cell? ⟨gf, 0, none⟩ = some (.int .i64 ((sh y n : Nat) : Int)) ∧ w.cell? ⟨gt, 0, none⟩ = some (.int .i64 (y : Int))) : IterS Tryz.prog w 137 #[.pointer (some ⟨gf, 0, none⟩), .pointer (some ⟨gt, 0, none⟩)] n (fun i => #[.int .i64 ((sh y (n - (i + 1)) : Nat) : Int)]) := by
 refine iterS_of (lb := [.pointer (some ⟨gf, 0, none⟩), .pointer (some ⟨gt, 0, none⟩)]) (F := fun l => [.func (.yield l) #[] #[], .pointer (some ⟨gf, 0, none⟩), .pointer (some ⟨gt, 0, none⟩), undef, undef, undef, undef, undef, undef, undef, undef, undef, undef, undef, undef, undef]) Tryz.func137 rfl (fun l => rfl) ?_
 intro r l k J Z L0 W hk hY hZ hJ hW
 refine c_seq (c_reg ?_)
 refine l_loadF hW tyC111 (v := .int .i64 ((sh y n : Nat) : Int)) hP.1 rfl rfl rfl rfl ?_
 refine bI ?_
 refine l_end (n_then (c_block ?_))
 refine c_loop (fun (x : Nat × List Blk) (j : Nat → Value) => [.func (.yield l) #[] #[], .pointer (some ⟨gf, 0, none⟩), .pointer (some ⟨gt, 0, none⟩), j 3, .int .i64 ((sh y (n - x.1) : Nat) : Int), .int .i64 ((sh y n : Nat) : Int), j 6, j 7, j 8, j 9, j 10, j 11, j 12, j 13, j 14, j 15]) (fun (x : Nat × List Blk) => [] ++ x.2) (fun (x : Nat × List Blk) => x.1 ≤ k ∧ J x.1 x.2) (fun (x : Nat × List Blk) => k - x.1) (0, L0) (by kernel_rfl) hW ⟨Nat.zero_le _, hJ⟩ ?_
 intro x j W hx hW
 obtain ⟨hx, hJx⟩ := hx
 have hlv := sh_lev hy (i := n - x.1) (by omega)
 have hle := sh_le y (n - x.1)
 have hpos : 0 < sh y (n - x.1) := sh_pos h0 hy (by omega)
 refine c_seq (c_seq (c_reg ?_))
 refine aI ?_
 refine l_loadF hW tyC111 (v := .int .i64 (y : Int)) hP.2 rfl rfl rfl rfl ?_
 refine l_val (r_neqN rfl rfl rfl rfl) rfl rfl ?_
 refine l_split ?_ ?_
 ·intro hc1
  replace hc1 := of_decide_eq_true hc1
  have hlt : x.1 < n := Nat.lt_of_le_of_ne (by omega) fun e => hc1 (by rw [e, Nat.sub_self]; rfl)
  refine l_end (n_then ?_)
  refine c_true rfl ?_
  refine c_skip (n_then (c_block (c_seq (c_reg ?_))))
  refine aI ?_
  refine l_loadF hW tyC111 (v := .int .i64 (y : Int)) hP.2 rfl rfl rfl rfl ?_
  refine l_call hW (g_ptoward (sh y (n - x.1)) y hpos (by omega) h0 hy (by omega)) en110 rfl rfl rfl rfl ?_
  intro W hW
  rw [show lev y - lev (sh y (n - x.1)) - 1 = n - (x.1 + 1) by omega]
  refine bI ?_
  refine l_end (n_then (c_seq (c_reg ?_)))
  refine l_val (r_move (v := .func _ _ _) rfl rfl) rfl rfl ?_
  refine aI ?_
  have hYY : YieldAt Fence.wide 0 Tryz.prog l #[.int .i64 ((sh y (n - (x.1 + 1)) : Nat) : Int)] W (fun e W' => e = .returned (.bool (decide (x.1 < k))) ∧ ((x.1 < k ∧ ∃ Lc', J (x.1 + 1) Lc' ∧ Cl ⟨w, r⟩ Lc' W') ∨ (¬ x.1 < k ∧ Z W'))) := by
   by_cases hlk : x.1 < k
   ·obtain ⟨f1, f2, f3, f4, f5, f6⟩ := hY x.1 x.2 W hlk hJx hW
    exact ⟨f1, f2, f3, f4, f5, f6.mono fun e W' ⟨h1, h2⟩ => ⟨by rw [h1, decide_eq_true hlk], .inl ⟨hlk, h2⟩⟩⟩
   ·obtain rfl : x.1 = k := by omega
    obtain ⟨f1, f2, f3, f4, f5, f6⟩ := hZ x.2 W hlt hJx hW
    exact ⟨f1, f2, f3, f4, f5, f6.mono fun e W' ⟨h1, h2⟩ => ⟨by rw [h1, decide_eq_false hlk], .inr ⟨hlk, h2⟩⟩⟩
  refine l_yieldS hYY rfl rfl rfl rfl rfl ?_
  intro W hR
  refine l_split ?_ ?_
  ·intro hc2
   have hlk : x.1 < k := of_decide_eq_true hc2
   obtain ⟨Lc1, hJ1, hW⟩ : ∃ Lc', J (x.1 + 1) Lc' ∧ Cl ⟨w, r⟩ Lc' W := by
    rcases hR with ⟨-, h⟩ | ⟨h, -⟩
    ·exact h
    ·omega
   refine l_val (r_not rfl rfl) rfl rfl ?_
   refine l_end (n_then ?_)
   refine c_false rfl ?_
   refine c_skip (n_block (n_then ?_))
   exact loop_next (x.1 + 1, Lc1) (by kernel_rfl) hW ⟨by simp only; omega, hJ1⟩ (by simp only; omega)
  ·intro hc2
   have hlk : ¬ x.1 < k := of_decide_eq_false hc2
   have hZ1 : Z W := by
    rcases hR with ⟨h, -⟩ | ⟨-, h⟩
    ·omega
    ·exact h
   refine l_val (r_not rfl rfl) rfl rfl ?_
   refine l_end (n_then ?_)
   refine c_true rfl ?_
   refine c_ret (r_block (r_then (r_block ?_)))
   refine postM_of ?_
   refine ret_none rfl ?_
   exact ⟨⟨_, rfl⟩, .inr ⟨by omega, hZ1⟩⟩
 ·intro hc1
  replace hc1 := of_decide_eq_false hc1
  have hxn : x.1 = n := Classical.byContradiction fun hne => by rw [show sh y (n - x.1) = y by omega] at hlv; omega
  refine l_end (n_then ?_)
  refine c_false rfl ?_
  refine c_exit (x_then (x_then ?_))
  refine x_hit ?_
  refine postM_of ?_
  refine end_none rfl ?_
  exact ⟨⟨_, rfl⟩, .inl ⟨by omega, x.2, hxn ▸ hJx, hW⟩⟩

end Go.Proofs.YtoegpalacppllaaGreat

/- Cuts, by the program. -/
namespace Go.Proofs.YtoegpalacppllaaGreat
open Go.RowKit Pl
open Tr Hn
set_option maxRecDepth 10000 in
/-- headend/cover.path -/
theorem g_ppath (v y : Nat) : GivesX Tryz.prog 101 [.int .i64 (v : Int), .int .i64 (y : Int)].toArray (fun _ => True) (fun u Bs => ∃ g1 g2, u = .func (.func 137) #[] #[.pointer (some ⟨g1, 0, none⟩), .pointer (some ⟨g2, 0, none⟩)] ∧ Bs = [⟨g2, [.int .i64 (y : Int)], 111⟩, ⟨g1, [.int .i64 (v : Int)], 111⟩]) := by
 refine givesX_of Tryz.func101 rfl (bs := [.int .i64 (v : Int), .int .i64 (y : Int), undef, undef, undef, undef]) rfl ?_
 intro w hP hW
 refine c_seq (c_reg ?_)
 refine l_boxC hW (v := .int _ _) rfl rfl rfl rfl rfl ?_
 intro g1 W hW
 refine l_boxC hW (v := .int _ _) rfl rfl rfl rfl rfl ?_
 intro g2 W hW
 refine l_val (r_assign (v := .nilFunc) rfl rfl) rfl rfl ?_
 refine l_end (n_then (c_seq (c_reg ?_)))
 refine l_val (r_closure (vs := [.pointer (some ⟨g1, 0, none⟩), .pointer (some ⟨g2, 0, none⟩)]) rfl rfl) rfl rfl ?_
 refine l_val (r_assign (v := .func _ _ _) rfl rfl) rfl rfl ?_
 refine l_end (n_then (c_ret ?_))
 refine ret_tmp (v := .func _ _ _) rfl rfl ?_
 exact ⟨_, _, rfl, ⟨_, _, rfl, rfl⟩, hW⟩

set_option maxRecDepth 10000 in
/-- headend/cover.first -/
theorem g_pfirstX (s : Sc) (z n gf gt : Nat) (z0 : 1 < z) (zz : z < 128) (hn : n ≤ lev (sh z 1)) : GivesX Tryz.prog 100 [.func (.func 137) #[] #[.pointer (some ⟨gf, 0, none⟩), .pointer (some ⟨gt, 0, none⟩)], .func (.func 57) #[.agg [.int .u8 s.k, .int .i64 s.d, .int .i64 (strideN s.d : Int)].toArray] #[]].toArray (fun w => w.cell? ⟨gf, 0, none⟩ = some (.int .i64 ((sh (sh z 1) n : Nat) : Int)) ∧ w.cell? ⟨gt, 0, none⟩ = some (.int .i64 ((sh z 1 : Nat) : Int))) (fun v Bs => v = .int .i64 ((bet s.d z n : Nat) : Int) ∧ Bs = []) := by
 refine givesXM_of Tryz.func100 rfl (bs := [.func (.func 137) #[] #[.pointer (some ⟨gf, 0, none⟩), .pointer (some ⟨gt, 0, none⟩)], .func (.func 57) #[.agg [.int .u8 s.k, .int .i64 s.d, .int .i64 (strideN s.d : Int)].toArray] #[], undef, undef, undef, undef, undef, undef, undef, undef, undef, undef]) rfl ?_
 intro w hP hW
 obtain ⟨k, hkn0, hk1, hk2, hk3⟩ := bet_first s.d z n
 have hz1 : 0 < sh z 1 := by show 0 < z / 2; omega
 have hz2 : sh z 1 < 128 := by show z / 2 < 128; omega
 have hnd : ∀ i, i < n → sh z (n - i) = sh (sh z 1) (n - (i + 1)) := fun i hi => by rw [sh_add]; congr 1; omega
 refine c_seq (c_reg ?_)
 refine l_boxC hW (v := .func _ _ _) rfl rfl rfl rfl rfl ?_
 intro g1 W hW
 refine l_allocC hW tyZ111 rfl rfl rfl rfl ?_
 intro g2 W hW
 refine l_end (n_then (c_seq (c_seq (c_reg ?_))))
 refine l_val (r_move (v := .func _ _ _) rfl rfl) rfl rfl ?_
 refine l_end (n_then (c_block ?_))
 refine c_rangeS (j_path (sh z 1) n gf gt hz1 hz2 hn hP) hkn0 en137 rfl (fun _ => rfl) (fun _ Lc => Lc = [⟨g2, [z111], 111⟩, ⟨g1, [.func (.func 57) #[.agg [.int .u8 s.k, .int .i64 s.d, .int .i64 (strideN s.d : Int)].toArray] #[]], 117⟩]) (fun Lc => Lc = [⟨g2, [.int .i64 ((sh (sh z 1) (n - (k + 1)) : Nat) : Int)], 111⟩, ⟨g1, [.func (.func 57) #[.agg [.int .u8 s.k, .int .i64 s.d, .int .i64 (strideN s.d : Int)].toArray] #[]], 117⟩]) rfl hW (fun (i : Nat) => fr [.func (.func 137) #[] #[.pointer (some ⟨gf, 0, none⟩), .pointer (some ⟨gt, 0, none⟩)], .func (.func 57) #[.agg [.int .u8 s.k, .int .i64 s.d, .int .i64 (strideN s.d : Int)].toArray] #[], undef, .pointer (some ⟨g1, 0, none⟩), .pointer (some ⟨g2, 0, none⟩), .int .i64 ((sh (sh z 1) (n - (i + 1)) : Nat) : Int), .func (.func 137) #[] #[.pointer (some ⟨gf, 0, none⟩), .pointer (some ⟨gt, 0, none⟩)], .int .i64 ((sh (sh z 1) (n - (i + 1)) : Nat) : Int), undef, undef, undef, undef] [] []) (fun (i : Nat) => [.func (.func 137) #[] #[.pointer (some ⟨gf, 0, none⟩), .pointer (some ⟨gt, 0, none⟩)], .func (.func 57) #[.agg [.int .u8 s.k, .int .i64 s.d, .int .i64 (strideN s.d : Int)].toArray] #[], undef, .pointer (some ⟨g1, 0, none⟩), .pointer (some ⟨g2, 0, none⟩), undef, .func (.func 137) #[] #[.pointer (some ⟨gf, 0, none⟩), .pointer (some ⟨gt, 0, none⟩)], .int .i64 ((sh (sh z 1) (n - (i + 1)) : Nat) : Int), undef, undef, undef, undef]) (fun _ => by kernel_rfl) ?_ ?_ ?_ ?_ ?_
 ·intro lq i W
  refine c_reg ?_
  refine bI ?_
  refine l_end ?_
  refine n_then ⟨?_, rfl⟩
  exact congrArg (fun x => (fr x [] [] : Act)) (by kernel_rfl)
 ·intro l r i Lc W hi hJ hW
  subst hJ
  refine c_block (c_seq (c_reg ?_))
  refine dC hW 1 tyC117 ?_
  refine aI ?_
  refine l_callB hW (bnd := [.agg [.int .u8 s.k, .int .i64 s.d, .int .i64 (strideN s.d : Int)].toArray]) (args := [.int .i64 ((sh (sh z 1) (n - (i + 1)) : Nat) : Int)]) (g_pspecial s (sh (sh z 1) (n - (i + 1))) (sh_pos hz1 hz2 (by omega)) (Nat.lt_of_le_of_lt (sh_le _ _) hz2)) en57 rfl rfl rfl rfl rfl ?_
  intro W hW
  rw [show specN s.d (sh (sh z 1) (n - (i + 1))) = false from (hnd i (by omega)) ▸ hk1 i (by omega)]
  refine l_end (n_then ?_)
  refine c_false rfl ?_
  refine c_skip (n_block ?_)
  exact ⟨rfl, _, rfl, hW⟩
 ·intro l r Lc W hi hJ hW
  subst hJ
  refine c_block (c_seq (c_reg ?_))
  refine dC hW 1 tyC117 ?_
  refine aI ?_
  refine l_callB hW (bnd := [.agg [.int .u8 s.k, .int .i64 s.d, .int .i64 (strideN s.d : Int)].toArray]) (args := [.int .i64 ((sh (sh z 1) (n - (k + 1)) : Nat) : Int)]) (g_pspecial s (sh (sh z 1) (n - (k + 1))) (sh_pos hz1 hz2 (by omega)) (Nat.lt_of_le_of_lt (sh_le _ _) hz2)) en57 rfl rfl rfl rfl rfl ?_
  intro W hW
  rw [show specN s.d (sh (sh z 1) (n - (k + 1))) = true from (hnd k (by omega)) ▸ hk2 (by omega)]
  refine l_end (n_then ?_)
  refine c_true rfl ?_
  refine c_seq (c_reg ?_)
  refine aI ?_
  refine l_storeC hW 0 tyC111 (v := .int _ _) rfl rfl rfl rfl rfl rfl (by first | rfl | omega | (simp; done) | (simp; omega)) rfl ?_
  intro W hW
  refine l_end (n_then (c_ret (r_block ?_)))
  exact ⟨rfl, _, rfl, hW⟩
 ·intro D r Lc W hkn hDb hJ hW hD
  subst hJ
  refine n_block (n_then (c_seq (c_reg ?_)))
  refine l_storeC hW 0 tyC111 (v := .int _ _) rfl rfl rfl rfl rfl rfl (by first | rfl | omega | (simp; done) | (simp; omega)) rfl ?_
  intro W hW
  refine l_end (n_then (c_ret ?_))
  refine r_mark hW hDb hD ?_
  intro r W hW
  refine ret_cellC hW 0 tyC111 rfl rfl rfl ?_
  exact ⟨_, [], rfl, ⟨by rw [hk3, if_neg (by omega)]; rfl, rfl⟩, (hW.tobase).sub (List.nil_sublist _)⟩
 ·intro D r Lc W hkn hDb hJ hW hD
  subst hJ
  refine r_block (r_then ?_)
  refine r_mark hW hDb hD ?_
  intro r W hW
  refine ret_cellC hW 0 tyC111 rfl rfl rfl ?_
  exact ⟨_, [], rfl, ⟨by rw [hk3, if_pos hkn, hnd k hkn], rfl⟩, (hW.tobase).sub (List.nil_sublist _)⟩

theorem g_pfirst (s : Sc) (z n gf gt : Nat) (z0 : 1 < z) (zz : z < 128) (hn : n ≤ lev (sh z 1)) : GivesR Tryz.prog 100 [.func (.func 137) #[] #[.pointer (some ⟨gf, 0, none⟩), .pointer (some ⟨gt, 0, none⟩)], .func (.func 57) #[.agg [.int .u8 s.k, .int .i64 s.d, .int .i64 (strideN s.d : Int)].toArray] #[]].toArray (fun w => w.cell? ⟨gf, 0, none⟩ = some (.int .i64 ((sh (sh z 1) n : Nat) : Int)) ∧ w.cell? ⟨gt, 0, none⟩ = some (.int .i64 ((sh z 1 : Nat) : Int))) (.int .i64 ((bet s.d z n : Nat) : Int)) := fun w hp =>
 (g_pfirstX s z n gf gt z0 zz hn w hp).mono fun e w' ⟨v, Bs, he, ⟨hv, hb⟩, hC⟩ => ⟨by rw [he, hv], hC.below⟩
set_option maxRecDepth 10000 in
/-- (headend/cover.tree).cut -/
theorem g_pcut (s : Sc) (v z : Nat) (hz : 1 < z) (hz2 : z < 128) (hb : belowN z v = true) (hne : lev v < lev z) : Gives Tryz.prog 56 [.agg [.int .u8 s.k, .int .i64 s.d, .int .i64 (strideN s.d : Int)].toArray, .int .i64 (v : Int), .int .i64 (z : Int)].toArray (.int .i64 ((bet s.d z (lev z - lev v - 1) : Nat) : Int)) := by
 refine gives_of Tryz.func56 rfl (bs := [.agg [.int .u8 s.k, .int .i64 s.d, .int .i64 (strideN s.d : Int)].toArray, .int .i64 (v : Int), .int .i64 (z : Int), undef, undef, undef, undef, undef, undef, undef, undef, undef, undef, undef]) rfl ?_
 intro w hW
 have hb2 := (below_iff.1 hb).2
 have hlz : lev (sh z 1) = lev z - 1 := sh_lev hz2 (by omega)
 have hvs : v = sh (sh z 1) (lev z - lev v - 1) := by rw [sh_add, show 1 + (lev z - lev v - 1) = lev z - lev v by omega]; exact hb2.symm
 refine c_seq (c_reg ?_)
 refine xB hW ?_
 intro g1 W hW
 refine bI ?_
 refine l_end (n_then (c_seq ?_))
 refine c_regM hW [] [.q, .q, .q, .mk 0, .q, .q, .rd 0, .q] [⟨10, fun _ u Bs => ∃ g1 g2, u = .func (.func 137) #[] #[.pointer (some ⟨g1, 0, none⟩), .pointer (some ⟨g2, 0, none⟩)] ∧ Bs = [⟨g2, [.int .i64 ((z / 2 ^ 1 : Nat) : Int)], 111⟩, ⟨g1, [.int .i64 (v : Int)], 111⟩]⟩] [[]] [3] [0, 0, 2, 7, 0, 16, 63, 127] (by kernel_rfl) (by kernel_rfl) rfl (by kernel_rfl) ?_
 refine yI ?_
 refine yI ?_
 refine y_val (r_shr_i64N (n := z) (s := 1) rfl rfl rfl (by omega)) rfl rfl ?_
 refine y_callX 0 (g_ppath v (z / 2 ^ 1)) en101 rfl rfl (fun _ _ _ _ => trivial) rfl rfl ?_
 refine y_loadA 0 tyA106 rfl rfl rfl rfl rfl (by first | rfl | exact kc_len _ | exact kcf_len _ | exact boC_len _ _ | (simp; done)) (by decide) ?_
 refine y_val (r_bound (vs := [.agg [.int .u8 s.k, .int .i64 s.d, .int .i64 (strideN s.d : Int)].toArray]) rfl rfl) rfl rfl ?_
 refine y_callRd (v := .int .i64 ((bet s.d z (lev z - lev v - 1) : Nat) : Int)) 0 rfl rfl ?_ en100 rfl rfl rfl ?_
 ·rintro _ Bs ⟨ga, gb, rfl, rfl⟩
  exact ⟨_, _, g_pfirst s z (lev z - lev v - 1) ga gb hz hz2 (by omega), fun M w hC => ⟨(cell_at ((hC.sub (List.sublist_append_right M _)).holds ⟨ga, [.int .i64 (v : Int)], 111⟩ (by simp)) 0).trans (by rw [← hvs]; rfl), (cell_at ((hC.sub (List.sublist_append_right M _)).holds ⟨gb, [.int .i64 ((z / 2 ^ 1 : Nat) : Int)], 111⟩ (by simp)) 0).trans rfl⟩, rfl⟩
 refine y_val (r_assign (v := .int _ _) rfl rfl) rfl rfl ?_
 refine y_end ?_
 refine y_made ?_
 rintro _ Bs1 -
 intro W hW
 refine n_then (c_ret ?_)
 refine ret_tmp (v := .int .i64 ((bet s.d z (lev z - lev v - 1) : Nat) : Int)) rfl ?_ ⟨rfl, hW.below⟩
 rfl

end Go.Proofs.YtoegpalacppllaaGreat

/- Subsets, by the program. -/
namespace Go.Proofs.YtoegpalacppllaaGreat
open Go.RowKit Pl
open Tr Hn
theorem g_pbelowZZ (y : Int) (v : Int) (hy : 0 < y) (hy2 : y < 128) (hv : 0 < v) (hv2 : v < 128) : Gives Tryz.prog 114 [.int .i64 y, .int .i64 v].toArray (.bool (belowN y.toNat v.toNat)) := by
 obtain ⟨y', rfl⟩ : ∃ n : Nat, y = n := ⟨y.toNat, by omega⟩
 obtain ⟨v', rfl⟩ : ∃ n : Nat, v = n := ⟨v.toNat, by omega⟩
 exact g_pbelow y' v' (by omega) (by omega) (by omega) (by omega)
theorem g_pspecialZ (s : Sc) (v : Int) (hv : 0 < v) (hv2 : v < 128) : Gives Tryz.prog 57 [.agg [.int .u8 s.k, .int .i64 s.d, .int .i64 (strideN s.d : Int)].toArray, .int .i64 v].toArray (.bool (specN s.d v.toNat)) := by
 obtain ⟨v', rfl⟩ : ∃ n : Nat, v = n := ⟨v.toNat, by omega⟩
 exact g_pspecial s v' (by omega) (by omega)
theorem g_pcutZ (s : Sc) (v : Int) (z : Int) (hv : 0 < v) (hz : 0 < z) (hz2 : z < 128) (hb : belowN z.toNat v.toNat = true) (hne : z ≠ v) : Gives Tryz.prog 56 [.agg [.int .u8 s.k, .int .i64 s.d, .int .i64 (strideN s.d : Int)].toArray, .int .i64 v, .int .i64 z].toArray (.int .i64 ((bet s.d z.toNat (lev z.toNat - lev v.toNat - 1) : Nat) : Int)) := by
 obtain ⟨v', rfl⟩ : ∃ n : Nat, v = n := ⟨v.toNat, by omega⟩
 obtain ⟨z', rfl⟩ : ∃ n : Nat, z = n := ⟨z.toNat, by omega⟩
 have hlt : lev v' < lev z' := Nat.lt_of_le_of_ne (below_iff.1 (by simpa using hb)).1 fun e => by
  have h1 := (below_iff.1 (show belowN z' v' = true by simpa using hb)).2
  rw [e, Nat.sub_self] at h1
  exact hne (by rw [show z' = v' from h1])
 exact g_pcut s v' z' (by rcases Nat.lt_or_ge 1 z' with h | h; exact h; rw [lev_one h] at hlt; omega) (by omega) (by simpa using hb) hlt
set_option maxRecDepth 10000 in
/-- (headend/cover.tree).subset -/
theorem g_psubset (s : Sc) (v x : Int) (d0 : 0 ≤ s.d) (d6 : s.d ≤ 6) : Gives Tryz.prog 71 [.agg [.int .u8 s.k, .int .i64 s.d, .int .i64 (strideN s.d : Int)].toArray, .agg [.int .i64 v, .int .i64 x].toArray].toArray (.bool (subB s v x)) := by
 refine gives_of Tryz.func71 rfl (bs := [.agg [.int .u8 s.k, .int .i64 s.d, .int .i64 (strideN s.d : Int)].toArray, .agg [.int .i64 v, .int .i64 x].toArray, undef, undef, undef, undef, undef, undef, undef, undef, undef, undef, undef, undef, undef, undef, undef, undef, undef, undef, undef, undef, undef, undef, undef, undef, undef, undef, undef, undef, undef, undef, undef, undef, undef, undef, undef, undef, undef, undef, undef, undef, undef, undef, undef, undef, undef, undef, undef, undef, undef, undef, undef, undef, undef, undef, undef, undef, undef, undef, undef, undef, undef, undef, undef, undef, undef, undef]) rfl ?_
 intro w hW
 refine c_seq (c_reg ?_)
 refine xB hW ?_
 intro g1 W hW
 refine xB hW ?_
 intro g2 W hW
 refine bB ?_
 refine l_end (n_then (c_seq ?_))
 refine c_regY hW [] [.q, .q, .q, .q, .q, .q] [0, 1, 0, 4, 3, 31] (by kernel_rfl) (by kernel_rfl) ?_
 refine y_val (r_fieldAddr 0 Tryz.underlying64 rfl tyC3.size rfl rfl rfl) rfl rfl ?_
 refine y_loadC 0 tyC3 rfl rfl rfl rfl rfl rfl (by decide) ?_
 refine y_val (r_fieldAddr 1 Tryz.underlying64 rfl tyC3.size rfl rfl rfl) rfl rfl ?_
 refine y_loadC 0 tyC3 rfl rfl rfl rfl rfl rfl (by decide) ?_
 refine y_val (r_assign (v := .int _ _) rfl rfl) rfl rfl ?_
 refine y_val (r_assign (v := .int _ _) rfl rfl) rfl rfl ?_
 refine y_end ?_
 intro W hW
 refine n_then (c_seq (c_block (c_seq (c_reg ?_))))
 refine dA hW 1 tyA106 ?_
 refine l_val (r_fieldAddr 0 Tryz.underlying64 rfl tyC3.size rfl rfl rfl) rfl rfl ?_
 refine dC hW 0 tyC3 ?_
 refine l_call hW (g_phas s _ (by omega) (by omega)) en113 rfl rfl rfl rfl ?_
 intro W hW
 refine l_split ?_ ?_
 ·intro hc1
  have hv := node_lt hc1 d6
  refine l_val (r_not rfl rfl) rfl rfl ?_
  refine bB ?_
  refine l_end (n_then ?_)
  refine c_false rfl ?_
  refine c_seq (c_reg ?_)
  refine l_val (r_fieldAddr 0 Tryz.underlying106 rfl tyC5.size rfl rfl rfl) rfl rfl ?_
  refine dC hW 1 tyC5 ?_
  refine l_val (r_eql rfl rfl rfl rfl) rfl rfl ?_
  refine l_split ?_ ?_
  ·intro hc2
   replace hc2 := of_decide_eq_true hc2
   refine aB ?_
   refine lN ?_
   refine lN ?_
   refine kB ?_
   refine bB ?_
   refine l_end (n_then ?_)
   refine c_true rfl ?_
   refine c_seq (c_reg ?_)
   refine aI ?_
   refine l_val (r_eql rfl rfl rfl rfl) rfl rfl ?_
   refine l_split ?_ ?_
   ·intro hc3
    replace hc3 := of_decide_eq_true hc3
    refine aB ?_
    refine l_valG (r_fieldAddr 0 Tryz.underlying106 rfl tyC5.size rfl rfl rfl) (by kernel_rfl) rfl ?_
    refine dG hW 1 tyC5 ?_
    refine l_valG (r_eql rfl rfl rfl rfl) (by kernel_rfl) rfl ?_
    refine l_split ?_ ?_
    ·intro hc4
     replace hc4 := of_decide_eq_true hc4
     refine l_valG (r_move (v := .bool _) rfl rfl) (by kernel_rfl) rfl ?_
     refine lN ?_
     refine lN ?_
     refine l_valG (r_pick (v := .bool _) rfl rfl rfl) (by kernel_rfl) rfl ?_
     refine kB ?_
     refine bB ?_
     refine l_end (n_then (c_ret (r_block (r_then ?_))))
     refine ret_tmp (v := .bool (subB s v x)) rfl ?_ ⟨rfl, hW.below⟩
     exact congrArg Value.bool (by rw [sub_k1 hc1 (by omega), decide_eq_true (by omega)])
    ·intro hc4
     replace hc4 := of_decide_eq_false hc4
     refine l_valG (r_move (v := .bool _) rfl rfl) (by kernel_rfl) rfl ?_
     refine gI ?_
     refine l_valG (r_eql rfl rfl rfl rfl) (by kernel_rfl) rfl ?_
     refine l_valG (r_pick (v := .bool _) rfl rfl rfl) (by kernel_rfl) rfl ?_
     refine kB ?_
     refine bB ?_
     refine l_end (n_then (c_ret (r_block (r_then ?_))))
     refine ret_tmp (v := .bool (subB s v x)) rfl ?_ ⟨rfl, hW.below⟩
     exfalso; omega
   ·intro hc3
    replace hc3 := of_decide_eq_false hc3
    refine aB ?_
    refine lN ?_
    refine lN ?_
    refine lN ?_
    refine lN ?_
    refine lN ?_
    refine lN ?_
    refine lN ?_
    refine kB ?_
    refine bB ?_
    refine l_end (n_then (c_ret (r_block (r_then ?_))))
    refine ret_tmp (v := .bool (subB s v x)) rfl ?_ ⟨rfl, hW.below⟩
    exact congrArg Value.bool (by rw [sub_k1 hc1 (by omega), decide_eq_false (by omega)])
  ·intro hc2
   replace hc2 := of_decide_eq_false hc2
   refine aB ?_
   refine gI ?_
   refine l_valG (r_eql rfl rfl rfl rfl) (by kernel_rfl) rfl ?_
   refine l_split ?_ ?_
   ·intro hc5
    replace hc5 := of_decide_eq_true hc5
    refine kB ?_
    refine bB ?_
    refine l_end (n_then ?_)
    refine c_true rfl ?_
    refine c_seq (c_reg ?_)
    refine aI ?_
    refine l_val (r_eql rfl rfl rfl rfl) rfl rfl ?_
    refine l_split ?_ ?_
    ·intro hc6
     replace hc6 := of_decide_eq_true hc6
     refine aB ?_
     refine l_valG (r_fieldAddr 0 Tryz.underlying106 rfl tyC5.size rfl rfl rfl) (by kernel_rfl) rfl ?_
     refine dG hW 1 tyC5 ?_
     refine l_valG (r_eql rfl rfl rfl rfl) (by kernel_rfl) rfl ?_
     refine l_split ?_ ?_
     ·intro hc7
      replace hc7 := of_decide_eq_true hc7
      refine l_valG (r_move (v := .bool _) rfl rfl) (by kernel_rfl) rfl ?_
      refine lN ?_
      refine lN ?_
      refine l_valG (r_pick (v := .bool _) rfl rfl rfl) (by kernel_rfl) rfl ?_
      refine kB ?_
      refine bB ?_
      refine l_end (n_then (c_ret (r_block (r_then ?_))))
      refine ret_tmp (v := .bool (subB s v x)) rfl ?_ ⟨rfl, hW.below⟩
      exfalso; omega
     ·intro hc7
      replace hc7 := of_decide_eq_false hc7
      refine l_valG (r_move (v := .bool _) rfl rfl) (by kernel_rfl) rfl ?_
      refine gI ?_
      refine l_valG (r_eql rfl rfl rfl rfl) (by kernel_rfl) rfl ?_
      refine l_valG (r_pick (v := .bool _) rfl rfl rfl) (by kernel_rfl) rfl ?_
      refine kB ?_
      refine bB ?_
      refine l_end (n_then (c_ret (r_block (r_then ?_))))
      refine ret_tmp (v := .bool (subB s v x)) rfl ?_ ⟨rfl, hW.below⟩
      exact congrArg Value.bool (sub_w0 hc1 (by omega) (by omega)).symm
    ·intro hc6
     replace hc6 := of_decide_eq_false hc6
     refine aB ?_
     refine lN ?_
     refine lN ?_
     refine lN ?_
     refine lN ?_
     refine lN ?_
     refine lN ?_
     refine lN ?_
     refine kB ?_
     refine bB ?_
     refine l_end (n_then (c_ret (r_block (r_then ?_))))
     refine ret_tmp (v := .bool (subB s v x)) rfl ?_ ⟨rfl, hW.below⟩
     exfalso; omega
   ·intro hc5
    replace hc5 := of_decide_eq_false hc5
    refine kB ?_
    refine bB ?_
    refine l_end (n_then ?_)
    refine c_false rfl ?_
    refine c_seq (c_reg ?_)
    refine dA hW 1 tyA106 ?_
    refine l_val (r_fieldAddr 1 Tryz.underlying64 rfl tyC3.size rfl rfl rfl) rfl rfl ?_
    refine dC hW 0 tyC3 ?_
    refine l_call hW (g_phas s _ (by omega) (by omega)) en113 rfl rfl rfl rfl ?_
    intro W hW
    refine l_split ?_ ?_
    ·intro hc8
     have hx := node_lt hc8 d6
     refine l_val (r_not rfl rfl) rfl rfl ?_
     refine aB ?_
     refine gI ?_
     refine gI ?_
     refine l_valG (r_eql rfl rfl rfl rfl) (by kernel_rfl) rfl ?_
     refine l_split ?_ ?_
     ·intro hc9
      replace hc9 := of_decide_eq_true hc9
      refine kB ?_
      refine aB ?_
      refine lN ?_
      refine lN ?_
      refine lN ?_
      refine lN ?_
      refine kB ?_
      refine bB ?_
      refine l_end (n_then ?_)
      refine c_true rfl ?_
      refine c_seq (c_reg ?_)
      refine bB ?_
      refine l_end (n_then (c_ret (r_block (r_then ?_))))
      refine ret_tmp (v := .bool (subB s v x)) rfl ?_ ⟨rfl, hW.below⟩
      exact congrArg Value.bool (sub_no hc1 (by omega) (by omega) (.inr (.inl (by omega)))).symm
     ·intro hc9
      replace hc9 := of_decide_eq_false hc9
      refine kB ?_
      refine aB ?_
      refine gI ?_
      refine gI ?_
      refine l_callG hW (g_pbelowZZ x v (by omega) (by omega) (by omega) (by omega)) en114 (by kernel_rfl) rfl rfl rfl ?_
      intro W hW
      refine l_split ?_ ?_
      ·intro hc10
       refine l_valG (r_not rfl rfl) (by kernel_rfl) rfl ?_
       refine kB ?_
       refine bB ?_
       refine l_end (n_then ?_)
       refine c_false rfl ?_
       refine c_skip (n_block (n_then (c_seq (c_reg ?_))))
       refine l_val (r_fieldAddr 0 Tryz.underlying106 rfl tyC5.size rfl rfl rfl) rfl rfl ?_
       refine dC hW 1 tyC5 ?_
       refine l_val (r_eql rfl rfl rfl rfl) rfl rfl ?_
       refine l_split ?_ ?_
       ·intro hc11
        replace hc11 := of_decide_eq_true hc11
        refine aB ?_
        refine lN ?_
        refine lN ?_
        refine lN ?_
        refine kB ?_
        refine aB ?_
        refine lN ?_
        refine lN ?_
        refine lN ?_
        refine lN ?_
        refine lN ?_
        refine kB ?_
        refine bB ?_
        refine l_end (n_then (c_ret ?_))
        refine ret_tmp (v := .bool (subB s v x)) rfl ?_ ⟨rfl, hW.below⟩
        rw [sub_end hc1 (by omega) (by omega) hc8 (by omega) hc10]
        rw [decide_eq_true (show s.k = 2 by omega)]; rfl
       ·intro hc11
        replace hc11 := of_decide_eq_false hc11
        refine aB ?_
        refine l_loadAG hW 1 tyA106 (by kernel_rfl) rfl rfl rfl rfl (by first | rfl | exact kc_len _ | exact kcf_len _ | exact boC_len _ _ | (simp; done)) ?_
        refine gI ?_
        refine l_callG hW (g_pspecialZ s v (by omega) (by omega)) en57 (by kernel_rfl) rfl rfl rfl ?_
        intro W hW
        refine l_split ?_ ?_
        ·intro hc12
         refine kB ?_
         refine aB ?_
         refine lN ?_
         refine lN ?_
         refine lN ?_
         refine lN ?_
         refine lN ?_
         refine kB ?_
         refine bB ?_
         refine l_end (n_then (c_ret ?_))
         refine ret_tmp (v := .bool (subB s v x)) rfl ?_ ⟨rfl, hW.below⟩
         rw [sub_end hc1 (by omega) (by omega) hc8 (by omega) hc10]
         rw [hc12, Bool.or_true]; rfl
        ·intro hc12
         refine kB ?_
         refine aB ?_
         refine l_loadAG hW 1 tyA106 (by kernel_rfl) rfl rfl rfl rfl (by first | rfl | exact kc_len _ | exact kcf_len _ | exact boC_len _ _ | (simp; done)) ?_
         refine gI ?_
         refine gI ?_
         refine l_callG hW (g_pcutZ s v x (by omega) (by omega) (by omega) hc10 (by omega)) en56 (by kernel_rfl) rfl rfl rfl ?_
         intro W hW
         refine l_valG (r_eqlN (n := 0) rfl rfl rfl rfl) (by kernel_rfl) rfl ?_
         refine kB ?_
         refine bB ?_
         refine l_end (n_then (c_ret ?_))
         refine ret_tmp (v := .bool (subB s v x)) rfl ?_ ⟨rfl, hW.below⟩
         rw [sub_end hc1 (by omega) (by omega) hc8 (by omega) hc10]
         rw [decide_eq_false (show ¬ s.k = 2 by omega), hc12]
         exact congrArg Value.bool (by rw [Bool.eq_iff_iff]; simp)
      ·intro hc10
       refine l_valG (r_not rfl rfl) (by kernel_rfl) rfl ?_
       refine kB ?_
       refine bB ?_
       refine l_end (n_then ?_)
       refine c_true rfl ?_
       refine c_seq (c_reg ?_)
       refine bB ?_
       refine l_end (n_then (c_ret (r_block (r_then ?_))))
       refine ret_tmp (v := .bool (subB s v x)) rfl ?_ ⟨rfl, hW.below⟩
       exact congrArg Value.bool (sub_no hc1 (by omega) (by omega) (.inr (.inr hc10))).symm
    ·intro hc8
     refine l_val (r_not rfl rfl) rfl rfl ?_
     refine aB ?_
     refine lN ?_
     refine lN ?_
     refine lN ?_
     refine kB ?_
     refine aB ?_
     refine lN ?_
     refine lN ?_
     refine lN ?_
     refine lN ?_
     refine kB ?_
     refine bB ?_
     refine l_end (n_then ?_)
     refine c_true rfl ?_
     refine c_seq (c_reg ?_)
     refine bB ?_
     refine l_end (n_then (c_ret (r_block (r_then ?_))))
     refine ret_tmp (v := .bool (subB s v x)) rfl ?_ ⟨rfl, hW.below⟩
     exact congrArg Value.bool (sub_no hc1 (by omega) (by omega) (.inl hc8)).symm
 ·intro hc1
  refine l_val (r_not rfl rfl) rfl rfl ?_
  refine bB ?_
  refine l_end (n_then ?_)
  refine c_true rfl ?_
  refine c_seq (c_reg ?_)
  refine bB ?_
  refine l_end (n_then (c_ret (r_block (r_then ?_))))
  refine ret_tmp (v := .bool (subB s v x)) rfl ?_ ⟨rfl, hW.below⟩
  exact congrArg Value.bool (sub_no1 hc1).symm

end Go.Proofs.YtoegpalacppllaaGreat

/- Members of subsets, by the program. -/
namespace Go.Proofs.YtoegpalacppllaaGreat
open Go.RowKit Pl
open Tr Hn
set_option maxRecDepth 10000 in
/-- headend/cover.enter -/
theorem g_enter (s : Sc) (ra : Option Addr) (rn rc : Nat) (l : List (Int × Int)) (hs : schB s = true) (hq : l.length ≤ 100) : GivesR Tryz.prog 51 [.agg [.int .u8 s.k, .int .i64 s.d, .int .i64 s.g, .int .u64 s.p, .int .u64 s.q, .int .u64 s.r].toArray, .slice ra rn rc].toArray (fun w => RdB w ⟨ra, rn, rc⟩ l) (.tuple #[.agg (entT s l).toArray, .int .i64 (entE s l)]) := by
 refine givesR_of Tryz.func51 rfl (bs := [.agg [.int .u8 s.k, .int .i64 s.d, .int .i64 s.g, .int .u64 s.p, .int .u64 s.q, .int .u64 s.r].toArray, .slice ra rn rc, undef, undef, undef, undef, undef, undef, undef, undef, undef, undef, undef, undef, undef, undef, undef, undef, undef, undef, undef, undef, undef, undef, undef, undef, undef, undef, undef, undef, undef]) rfl ?_
 intro w hP hW
 obtain ⟨k1, k3, d0, d6, -⟩ := schB_iff.1 hs
 have hn : rn = l.length := hP.len
 refine c_seq (c_reg ?_)
 refine xB hW ?_
 intro g1 W hW
 refine l_alloc hW tyZ106 rfl rfl rfl ?_
 intro g2 W hW
 refine bI ?_
 refine l_end (n_then (c_seq (c_reg ?_)))
 refine dA hW 1 tyA26 ?_
 refine l_call hW (g_treeOf s) en98 rfl rfl rfl rfl ?_
 intro W hW
 rw [treeC_yes hs rfl, hs]
 refine l_val (r_move (v := .tuple _) rfl rfl) rfl rfl ?_
 refine l_val (r_extract (v := .agg _) rfl rfl rfl) rfl rfl ?_
 refine l_val (r_extract (v := .bool _) rfl rfl rfl) rfl rfl ?_
 refine l_alloc hW tyZ106 rfl rfl rfl ?_
 intro g3 W hW
 refine sA hW 0 tyA106 ?_
 intro W hW
 refine bB ?_
 refine l_end (n_then (c_seq (c_seq (c_reg ?_))))
 refine aB ?_
 refine l_val (r_not rfl rfl) rfl rfl ?_
 refine l_end (n_then ?_)
 refine c_false rfl ?_
 refine c_skip (n_then (c_seq (c_seq (c_reg ?_))))
 refine aS ?_
 refine l_val (r_lenSlice Tryz.underlying33 rfl rfl) rfl rfl ?_
 refine aI ?_
 refine l_end (n_then (c_block ?_))
 refine c_loop (fun (i : Nat) (j : Nat → Value) => [.agg [.int .u8 s.k, .int .i64 s.d, .int .i64 s.g, .int .u64 s.p, .int .u64 s.q, .int .u64 s.r].toArray, .slice ra rn rc, .pointer (some ⟨g1, 0, none⟩), j 3, .pointer (some ⟨g2, 0, none⟩), j 5, .pointer (some ⟨g3, 0, none⟩), .bool true, j 8, j 9, .tuple #[.agg [.int .u8 s.k, .int .i64 s.d, .int .i64 (strideN s.d : Int)].toArray, .bool true], .agg ([.int .u8 s.k, .int .i64 s.d, .int .i64 s.g, .int .u64 s.p, .int .u64 s.q, .int .u64 s.r]).toArray, .tuple #[.agg [.int .u8 s.k, .int .i64 s.d, .int .i64 (strideN s.d : Int)].toArray, .bool true], .agg [.int .u8 s.k, .int .i64 s.d, .int .i64 (strideN s.d : Int)].toArray, .bool true, .bool true, .bool false, j 17, .slice ra rn rc, .int .i64 (rn : Int), .int .i64 (i : Int), j 21, j 22, j 23, j 24, j 25, j 26, j 27, j 28, j 29, j 30]) (fun (i : Nat) => [⟨g3, [.int .u8 s.k, .int .i64 s.d, .int .i64 (strideN s.d : Int)], 106⟩, ⟨g2, z106, 106⟩, ⟨g1, [.int .u8 s.k, .int .i64 s.d, .int .i64 s.g, .int .u64 s.p, .int .u64 s.q, .int .u64 s.r], 26⟩]) (fun (i : Nat) => i ≤ rn ∧ ∀ k, k < i → subB s (qn l k) (qm l k) = true) (fun (i : Nat) => rn - i) 0 (by kernel_rfl) hW ⟨by omega, all_zero⟩ ?_
 intro i j W hx hW
 obtain ⟨hi0, hib⟩ := hx
 refine c_seq (c_reg ?_)
 refine l_val (r_lssN rfl rfl rfl rfl) rfl rfl ?_
 refine l_split ?_ ?_
 ·intro hc1
  replace hc1 := of_decide_eq_true hc1
  obtain ⟨b0, o0, ha, hc⟩ := hP.ptr (by omega)
  simp only at ha
  subst ha
  refine l_end (n_then (c_seq ?_))
  refine c_true rfl ?_
  refine c_skip (n_then (c_seq (c_block (c_seq (c_reg ?_)))))
  refine l_val (r_indexAddrSlB (n := i) Tryz.underlying33 tyA64.size rfl rfl rfl (by omega)) rfl rfl ?_
  refine l_loadF2 hW tyA64 (hc i (by omega)).1 (hc i (by omega)).2 rfl rfl rfl rfl ?_
  refine l_alloc hW tyZ64 rfl rfl rfl ?_
  intro g4 W hW
  refine sA hW 0 tyA64 ?_
  intro W hW
  refine l_end (n_then (c_seq (c_reg ?_)))
  refine dA hW 1 tyA106 ?_
  refine dA hW 0 tyA64 ?_
  refine l_call hW (g_psubset s _ _ d0 d6) en71 rfl rfl rfl rfl ?_
  intro W hW
  refine l_split ?_ ?_
  ·intro hc2
   refine l_val (r_not rfl rfl) rfl rfl ?_
   refine l_end (n_then ?_)
   refine c_false rfl ?_
   refine c_skip (n_block (n_then (c_reg ?_)))
   refine l_val (r_addN (n := 1) rfl rfl rfl (by omega)) rfl rfl ?_
   refine aI ?_
   refine l_end (n_then ?_)
   exact loop_next (i + 1) (by kernel_rfl) (hW.drop 1) ⟨by omega, all_upto hib hc2⟩ (by omega)
  ·intro hc2
   refine l_val (r_not rfl rfl) rfl rfl ?_
   refine l_end (n_then ?_)
   refine c_true rfl ?_
   refine c_seq (c_reg ?_)
   refine l_val (r_build (ps := []) (bld106_) rfl rfl) rfl rfl ?_
   refine sA hW 2 tyA106 ?_
   intro W hW
   refine bI ?_
   refine l_end (n_then (c_ret (r_block (r_then (r_then (r_block (r_then ?_)))))))
   refine rT hW 2 tyA106 ?_
   exact ⟨by rw [entE_no (i := i) (by omega) hc2, entT_no (entE_no (i := i) (by omega) hc2)]; rfl, hW.below⟩
 ·intro hc1
  replace hc1 := of_decide_eq_false hc1
  refine l_end (n_then (c_seq ?_))
  refine c_false rfl ?_
  refine c_exit (x_then (x_then ?_))
  refine x_hit ?_
  refine n_then (c_seq (c_reg ?_))
  refine dA hW 0 tyA106 ?_
  refine sA hW 1 tyA106 ?_
  intro W hW
  refine bI ?_
  refine l_end (n_then (c_ret ?_))
  refine rT hW 1 tyA106 ?_
  have hall := entE_yes (s := s) (l := l) fun k hk => hib k (by omega)
  exact ⟨by rw [hall, entT_yes hall]; rfl, hW.below⟩

set_option maxRecDepth 10000 in
/-- headend/cover.Members -/
theorem g_Members (s : Sc) (v x : Int) (hs : schB s = true) : GivesX Tryz.prog 43 [.agg [.int .u8 s.k, .int .i64 s.d, .int .i64 s.g, .int .u64 s.p, .int .u64 s.q, .int .u64 s.r].toArray, .agg [.int .i64 v, .int .i64 x].toArray].toArray (fun _ => True) (fun u Bs => ∃ t : Sl, u = .tuple #[t.v, .int .i64 (if subB s v x then 0 else 31)] ∧ (subB s v x = true → NewI t (membersN s v x (p2 s.d.toNat)) Bs)) := by
 refine givesX_of Tryz.func43 rfl (bs := [.agg [.int .u8 s.k, .int .i64 s.d, .int .i64 s.g, .int .u64 s.p, .int .u64 s.q, .int .u64 s.r].toArray, .agg [.int .i64 v, .int .i64 x].toArray, undef, undef, undef, undef, undef, undef, undef, undef, undef, undef, undef, undef, undef, undef, undef, undef, undef, undef, undef]) rfl ?_
 intro w hP hW
 obtain ⟨k1, k3, d0, d6, -⟩ := schB_iff.1 hs
 refine c_seq (c_reg ?_)
 refine xB hW ?_
 intro g1 W hW
 refine xB hW ?_
 intro g2 W hW
 refine bS ?_
 refine bI ?_
 refine l_end (n_then (c_seq (c_reg ?_)))
 refine dA hW 1 tyA26 ?_
 refine dA hW 0 tyA64 ?_
 refine l_buildSliceF hW (bsl33_1_0 _ _) rfl rfl rfl rfl ?_
 intro gb W hW
 refine l_callR hW (g_enter s (some ⟨gb, 0, none⟩) 1 1 [(v, x)] hs (by simp)) en51 (RdB.one hW 0 rfl) rfl rfl rfl rfl ?_
 intro W hW
 obtain ⟨ee, hee⟩ : ∃ ee, ee = entE s [(v, x)] := ⟨_, rfl⟩
 have heo := hee.trans (entE_one s v x)
 have he0 : subB s v x = true → ee = 0 := fun h => heo.trans (by rw [h]; rfl)
 have he1 : subB s v x = false → ee = 31 := fun h => heo.trans (by rw [h]; rfl)
 rw [← hee]
 refine l_val (r_move (v := .tuple _) rfl rfl) rfl rfl ?_
 refine l_val (r_extract (v := .agg _) rfl rfl rfl) rfl rfl ?_
 refine l_val (r_extract (v := .int _ _) rfl rfl rfl) rfl rfl ?_
 refine l_alloc hW tyZ106 rfl rfl rfl ?_
 intro g3 W hW
 refine l_storeA hW 0 tyA106 rfl rfl rfl rfl rfl rfl rfl (entT_len _ _) (entT_one _ _) ?_
 intro W hW
 refine bI ?_
 refine l_end (n_then (c_seq (c_seq (c_reg ?_))))
 refine aI ?_
 refine l_val (r_neq rfl rfl rfl rfl) rfl rfl ?_
 refine l_split ?_ ?_
 ·intro hc1
  replace hc1 := of_decide_eq_true hc1
  have hb : subB s v x = false := by
   cases hb : subB s v x with
   | true => exact absurd (he0 hb) hc1
   | false => rfl
  refine l_end (n_then ?_)
  refine c_true rfl ?_
  refine c_seq (c_reg ?_)
  refine aI ?_
  refine bS ?_
  refine bI ?_
  refine l_end (n_then (c_ret (r_then ?_)))
  refine ret_tmp2 rfl rfl rfl ?_
  exact ⟨_, [], rfl, ⟨Sl.no, by rw [hb, he1 hb]; rfl, fun h => by rw [hb] at h; cases h⟩, hW.sub (List.nil_sublist _)⟩
 ·intro hc1
  replace hc1 := of_decide_eq_false hc1
  have hb : subB s v x = true := by
   cases hb : subB s v x with
   | false => have := he1 hb; omega
   | true => rfl
  have htt : entT s [(v, x)] = [.int .u8 s.k, .int .i64 s.d, .int .i64 (strideN s.d : Int)] := entT_yes (by rw [← hee]; omega)
  obtain ⟨hx1, hx2, hx3, hx4⟩ := sub_x d6 hb
  replace hW := (show Cl _ (⟨_, entT s [(v, x)], _⟩ :: _) _ from hW)
  rw [htt] at hW
  refine l_end (n_then ?_)
  refine c_false rfl ?_
  refine c_skip (n_then (c_seq (c_reg ?_)))
  refine dA hW 0 tyA106 ?_
  refine dA hW 2 tyA64 ?_
  refine l_callX hW (g_pmembers s v x d0 d6 hx1 hx2 hx3 hx4) en89 trivial rfl rfl rfl rfl ?_
  rintro _ Bs W ⟨am, cm, rfl, hO⟩ hW
  refine bS ?_
  refine bI ?_
  refine l_end (n_then (c_ret ?_))
  refine ret_tmp2 rfl rfl rfl ?_
  exact ⟨_, Bs, rfl, ⟨⟨am, _, cm⟩, by rw [hb]; rfl, fun _ => hO.newI⟩, hW.sub (List.sublist_append_right _ _)⟩

end Go.Proofs.YtoegpalacppllaaGreat

