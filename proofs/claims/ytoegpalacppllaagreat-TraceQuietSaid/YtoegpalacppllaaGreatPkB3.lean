/- Part 3 of 5: what the law of this claim leans on -/
import Derived.Test.YtoegpalacppllaaGreatPkB2
import Derived.Lib.SlicesCompact
import Derived.Lib.RowBridge
import Derived.Shelf.Small.Bits
import Derived.Shelf.Strconv.Itoa0
import Derived.Shelf.Sort.Plain
import Derived.Ground.Names2Prog
import Derived.Shelf.Slices.CompactI
import Derived.Shelf.Slices.SearchI
import Derived.Shelf.Slices.Cells
import Derived.Shelf.Slices.In.SortNone
import Derived.Shelf.Slices.Empties
import Derived.Test.YtoegpalacppllaaGreatProg
import Derived.MapKept
/- Whether a box is valid. -/
namespace Go.Proofs.YtoegpalacppllaaGreat
open Go.RowKit Pl
open Tr Hn
set_option maxRecDepth 10000 in
/-- headend/trace.CheckBox -/
theorem g_CheckBox (b : Bo) (t : Sl) (hl : b.l.length ≤ 100) : GivesR Tryz.prog 36 [.agg (boC b t).toArray].toArray (fun w => RdI w t b.l) (.int .i64 (chkB b)) := by
 refine givesR_of Tryz.func36 rfl (bs := [.agg (boC b t).toArray, undef, undef, undef, undef, undef, undef, undef, undef, undef, undef, undef, undef, undef, undef, undef, undef, undef, undef, undef, undef, undef, undef, undef, undef, undef, undef, undef, undef, undef, undef, undef, undef, undef, undef, undef, undef, undef, undef, undef, undef, undef, undef, undef, undef, undef, undef, undef, undef, undef, undef, undef, undef, undef, undef, undef, undef, undef, undef, undef, undef, undef, undef, undef, undef, undef, undef, undef, undef, undef, undef, undef, undef, undef, undef, undef, undef, undef, undef, undef, undef, undef, undef, undef, undef]) rfl ?_
 intro w hP hW
 have hn := hP.len
 refine c_seq (c_reg ?_)
 refine xB hW ?_
 intro g1 W hW
 refine bI ?_
 refine l_end (n_then (c_seq (c_seq (c_reg ?_))))
 refine l_val (r_fieldAddr 0 Tryz.underlying31 rfl tyA26.size rfl rfl rfl) rfl rfl ?_
 refine l_loadP hW 0 tyA26 rfl rfl rfl rfl rfl (by first | rfl | omega | (simp; done) | (simp; omega)) rfl ?_
 refine l_call hW (g_Check _) en68 rfl rfl rfl rfl ?_
 intro W hW
 refine bI ?_
 refine l_end (n_then (c_seq (c_reg ?_)))
 refine aI ?_
 refine l_val (r_neq rfl rfl rfl rfl) rfl rfl ?_
 refine l_split ?_ ?_
 ·intro hc1
  replace hc1 := of_decide_eq_true hc1
  have hs := chk_bad hc1
  refine l_end (n_then ?_)
  refine c_true rfl ?_
  refine c_seq (c_reg ?_)
  refine aI ?_
  refine bI ?_
  refine l_end (n_then (c_ret (r_then ?_)))
  refine ret_tmp (v := .int .i64 (chkB b)) rfl ?_ ⟨rfl, hW.below⟩
  exact congrArg (Value.int .i64) ((chk_no hs).trans (chkB_s hs).symm)
 ·intro hc1
  replace hc1 := of_decide_eq_false hc1
  have hs := chk_zero hc1
  obtain ⟨k1, k3, d0, d6, -⟩ := schB_iff.1 hs
  have hp := p2_le (n := b.s.d.toNat) (by omega)
  refine l_end (n_then ?_)
  refine c_false rfl ?_
  refine c_skip (n_then (c_seq (c_seq (c_reg ?_))))
  refine l_val (r_fieldAddr 6 Tryz.underlying31 rfl tyC27.size rfl rfl rfl) rfl rfl ?_
  refine dC hW 0 tyC27 ?_
  refine l_val (r_lenSlice Tryz.underlying27 rfl rfl) rfl rfl ?_
  refine aI ?_
  refine l_end (n_then (c_block ?_))
  refine c_loop (fun (i : Nat) (j : Nat → Value) => [.agg (boC b t).toArray, .pointer (some ⟨g1, 0, none⟩), j 2, .int .i64 (chk b.s), j 4, j 5, .pointer (some ⟨g1, 0, none⟩), .agg [.int .u8 b.s.k, .int .i64 b.s.d, .int .i64 b.s.g, .int .u64 b.s.p, .int .u64 b.s.q, .int .u64 b.s.r].toArray, .int .i64 (chk b.s), .int .i64 (chk b.s), .bool false, j 11, .pointer (some ⟨g1, 6, none⟩), .slice t.a t.n t.c, .int .i64 (t.n : Int), .int .i64 (i : Int), j 16, j 17, j 18, j 19, j 20, j 21, j 22, j 23, j 24, j 25, j 26, j 27, j 28, j 29, j 30, j 31, j 32, j 33, j 34, j 35, j 36, j 37, j 38, j 39, j 40, j 41, j 42, j 43, j 44, j 45, j 46, j 47, j 48, j 49, j 50, j 51, j 52, j 53, j 54, j 55, j 56, j 57, j 58, j 59, j 60, j 61, j 62, j 63, j 64, j 65, j 66, j 67, j 68, j 69, j 70, j 71, j 72, j 73, j 74, j 75, j 76, j 77, j 78, j 79, j 80, j 81, j 82, j 83, j 84]) (fun (i : Nat) => [⟨g1, (boC b t), 31⟩]) (fun (i : Nat) => i ≤ t.n ∧ ∀ k, k < i → 0 ≤ at_ b.l k ∧ at_ b.l k < ((p2 b.s.d.toNat : Nat) : Int) ∧ (k = 0 ∨ at_ b.l (k - 1) < at_ b.l k)) (fun (i : Nat) => t.n - i) 0 (by kernel_rfl) hW ⟨by omega, all_zero⟩ ?_
  intro i j W hx hW
  refine c_seq (c_reg ?_)
  refine l_val (r_lssN rfl rfl rfl rfl) rfl rfl ?_
  refine l_split ?_ ?_
  ·intro hc2
   replace hc2 := of_decide_eq_true hc2
   obtain ⟨b0, o0, ha, hc⟩ := hP.ptr (by omega)
   refine l_end (n_then (c_seq ?_))
   refine c_true rfl ?_
   refine c_skip (n_then (c_seq (c_block (c_seq (c_reg ?_)))))
   refine aI ?_
   refine l_val (r_indexAddrSl2 (n := i) Tryz.underlying27 tyC3.size rfl ((show _ = Value.slice t.a t.n t.c from rfl).trans (by rw [ha])) rfl (by omega)) rfl rfl ?_
   refine l_loadF hW tyC3 (v := .int .i64 (at_ b.l (i))) (hc (i) (by omega)) rfl rfl rfl rfl ?_
   refine bI ?_
   refine bI ?_
   refine l_end (n_then (c_seq (c_reg ?_)))
   refine aI ?_
   refine l_val (r_lss rfl rfl rfl rfl) rfl rfl ?_
   refine l_split ?_ ?_
   ·intro hc3
    replace hc3 := of_decide_eq_true hc3
    refine aB ?_
    refine lN ?_
    refine lN ?_
    refine lN ?_
    refine lN ?_
    refine lN ?_
    refine lN ?_
    refine kB ?_
    refine aB ?_
    refine lN ?_
    refine lN ?_
    refine lN ?_
    refine lN ?_
    refine lN ?_
    refine lN ?_
    refine lN ?_
    refine lN ?_
    refine lN ?_
    refine lN ?_
    refine lN ?_
    refine lN ?_
    refine kB ?_
    refine l_end (n_then ?_)
    refine c_true rfl ?_
    refine c_seq (c_reg ?_)
    refine bI ?_
    refine l_end (n_then (c_ret (r_block (r_then (r_then (r_block (r_then ?_)))))))
    refine ret_tmp (v := .int .i64 (chkB b)) rfl ?_ ⟨rfl, hW.below⟩
    rw [chkB_l hs (users_no (i := i) (by omega) (by omega))]; rfl
   ·intro hc3
    replace hc3 := of_decide_eq_false hc3
    refine aB ?_
    refine gI ?_
    refine l_valG (r_fieldAddr 0 Tryz.underlying31 rfl tyA26.size rfl rfl rfl) (by kernel_rfl) rfl ?_
    refine l_valG (r_fieldAddr 1 Tryz.underlying26 rfl tyC3.size rfl rfl rfl) (by kernel_rfl) rfl ?_
    refine dG hW 0 tyC3 ?_
    refine l_valG (r_shlZ (m := 1) rfl rfl rfl (by omega) (by omega) (by omega)) (by kernel_rfl) rfl ?_
    refine l_valG (r_geq rfl rfl rfl rfl) (by kernel_rfl) rfl ?_
    refine l_split ?_ ?_
    ·intro hc4
     replace hc4 := of_decide_eq_true hc4
     refine kB ?_
     refine aB ?_
     refine lN ?_
     refine lN ?_
     refine lN ?_
     refine lN ?_
     refine lN ?_
     refine lN ?_
     refine lN ?_
     refine lN ?_
     refine lN ?_
     refine lN ?_
     refine lN ?_
     refine lN ?_
     refine kB ?_
     refine l_end (n_then ?_)
     refine c_true rfl ?_
     refine c_seq (c_reg ?_)
     refine bI ?_
     refine l_end (n_then (c_ret (r_block (r_then (r_then (r_block (r_then ?_)))))))
     refine ret_tmp (v := .int .i64 (chkB b)) rfl ?_ ⟨rfl, hW.below⟩
     rw [chkB_l hs (users_no (i := i) (by omega) (by omega))]; rfl
    ·intro hc4
     replace hc4 := of_decide_eq_false hc4
     refine kB ?_
     refine aB ?_
     refine gI ?_
     refine l_valG (r_gtrN (n := 0) rfl rfl rfl rfl) (by kernel_rfl) rfl ?_
     refine l_split ?_ ?_
     ·intro hc5
      replace hc5 := of_decide_eq_true hc5
      refine l_valG (r_move (v := .bool _) rfl rfl) (by kernel_rfl) rfl ?_
      refine gI ?_
      refine l_valG (r_fieldAddr 6 Tryz.underlying31 rfl tyC27.size rfl rfl rfl) (by kernel_rfl) rfl ?_
      refine dG hW 0 tyC27 ?_
      refine gI ?_
      refine l_valG (r_subN (n := 1) rfl rfl rfl (by omega) (by omega)) (by kernel_rfl) rfl ?_
      refine l_valG (r_indexAddrSl2 (n := i - 1) Tryz.underlying27 tyC3.size rfl ((show _ = Value.slice t.a t.n t.c from rfl).trans (by rw [ha])) rfl (by omega)) (by kernel_rfl) rfl ?_
      refine l_loadFG hW tyC3 (v := .int .i64 (at_ b.l (i - 1))) (hc (i - 1) (by omega)) (by kernel_rfl) rfl rfl rfl ?_
      refine l_valG (r_leq rfl rfl rfl rfl) (by kernel_rfl) rfl ?_
      refine l_split ?_ ?_
      ·intro hc6
       replace hc6 := of_decide_eq_true hc6
       refine l_valG (r_pick (v := .bool _) rfl rfl rfl) (by kernel_rfl) rfl ?_
       refine kB ?_
       refine l_end (n_then ?_)
       refine c_true rfl ?_
       refine c_seq (c_reg ?_)
       refine bI ?_
       refine l_end (n_then (c_ret (r_block (r_then (r_then (r_block (r_then ?_)))))))
       refine ret_tmp (v := .int .i64 (chkB b)) rfl ?_ ⟨rfl, hW.below⟩
       rw [chkB_l hs (users_no (i := i) (by omega) (by omega))]; rfl
      ·intro hc6
       replace hc6 := of_decide_eq_false hc6
       refine l_valG (r_pick (v := .bool _) rfl rfl rfl) (by kernel_rfl) rfl ?_
       refine kB ?_
       refine l_end (n_then ?_)
       refine c_false rfl ?_
       refine c_skip (n_block (n_then (c_reg ?_)))
       refine l_val (r_addN (n := 1) rfl rfl rfl (by omega)) rfl rfl ?_
       refine aI ?_
       refine l_end (n_then ?_)
       exact loop_next (i + 1) (by kernel_rfl) hW ⟨by omega, all_step hx.2 (by omega)⟩ (by omega)
     ·intro hc5
      replace hc5 := of_decide_eq_false hc5
      refine l_valG (r_move (v := .bool _) rfl rfl) (by kernel_rfl) rfl ?_
      refine lN ?_
      refine lN ?_
      refine lN ?_
      refine lN ?_
      refine lN ?_
      refine lN ?_
      refine lN ?_
      refine lN ?_
      refine l_valG (r_pick (v := .bool _) rfl rfl rfl) (by kernel_rfl) rfl ?_
      refine kB ?_
      refine l_end (n_then ?_)
      refine c_false rfl ?_
      refine c_skip (n_block (n_then (c_reg ?_)))
      refine l_val (r_addN (n := 1) rfl rfl rfl (by omega)) rfl rfl ?_
      refine aI ?_
      refine l_end (n_then ?_)
      exact loop_next (i + 1) (by kernel_rfl) hW ⟨by omega, all_step hx.2 (by omega)⟩ (by omega)
  ·intro hc2
   replace hc2 := of_decide_eq_false hc2
   refine l_end (n_then (c_seq ?_))
   refine c_false rfl ?_
   refine c_exit (x_then (x_then ?_))
   refine x_hit ?_
   refine n_then (c_seq (c_seq (c_reg ?_)))
   refine l_val (r_fieldAddr 7 Tryz.underlying31 rfl tyC5.size rfl rfl rfl) rfl rfl ?_
   refine dC hW 0 tyC5 ?_
   refine l_val (r_lss rfl rfl rfl rfl) rfl rfl ?_
   refine l_split ?_ ?_
   ·intro hc7
    replace hc7 := of_decide_eq_true hc7
    refine aB ?_
    refine lN ?_
    refine lN ?_
    refine lN ?_
    refine kB ?_
    refine aB ?_
    refine lN ?_
    refine lN ?_
    refine lN ?_
    refine lN ?_
    refine lN ?_
    refine lN ?_
    refine lN ?_
    refine lN ?_
    refine lN ?_
    refine lN ?_
    refine kB ?_
    refine aB ?_
    refine lN ?_
    refine lN ?_
    refine lN ?_
    refine lN ?_
    refine lN ?_
    refine lN ?_
    refine kB ?_
    refine aB ?_
    refine lN ?_
    refine lN ?_
    refine lN ?_
    refine kB ?_
    refine aB ?_
    refine lN ?_
    refine lN ?_
    refine lN ?_
    refine lN ?_
    refine lN ?_
    refine kB ?_
    refine l_end (n_then ?_)
    refine c_true rfl ?_
    refine c_seq (c_reg ?_)
    refine bI ?_
    refine l_end (n_then (c_ret (r_then ?_)))
    refine ret_tmp (v := .int .i64 (chkB b)) rfl ?_ ⟨rfl, hW.below⟩
    rw [chkB_n hs (by omega)]; rfl
   ·intro hc7
    replace hc7 := of_decide_eq_false hc7
    refine aB ?_
    refine l_valG (r_fieldAddr 7 Tryz.underlying31 rfl tyC5.size rfl rfl rfl) (by kernel_rfl) rfl ?_
    refine dG hW 0 tyC5 ?_
    refine l_valG (r_gtr rfl rfl rfl rfl) (by kernel_rfl) rfl ?_
    refine l_split ?_ ?_
    ·intro hc8
     replace hc8 := of_decide_eq_true hc8
     refine kB ?_
     refine aB ?_
     refine lN ?_
     refine lN ?_
     refine lN ?_
     refine lN ?_
     refine lN ?_
     refine lN ?_
     refine lN ?_
     refine lN ?_
     refine lN ?_
     refine lN ?_
     refine kB ?_
     refine aB ?_
     refine lN ?_
     refine lN ?_
     refine lN ?_
     refine lN ?_
     refine lN ?_
     refine lN ?_
     refine kB ?_
     refine aB ?_
     refine lN ?_
     refine lN ?_
     refine lN ?_
     refine kB ?_
     refine aB ?_
     refine lN ?_
     refine lN ?_
     refine lN ?_
     refine lN ?_
     refine lN ?_
     refine kB ?_
     refine l_end (n_then ?_)
     refine c_true rfl ?_
     refine c_seq (c_reg ?_)
     refine bI ?_
     refine l_end (n_then (c_ret (r_then ?_)))
     refine ret_tmp (v := .int .i64 (chkB b)) rfl ?_ ⟨rfl, hW.below⟩
     rw [chkB_n hs (by omega)]; rfl
    ·intro hc8
     replace hc8 := of_decide_eq_false hc8
     refine kB ?_
     refine aB ?_
     refine l_valG (r_fieldAddr 8 Tryz.underlying31 rfl tyC3.size rfl rfl rfl) (by kernel_rfl) rfl ?_
     refine dG hW 0 tyC3 ?_
     refine l_valG (r_fieldAddr 9 Tryz.underlying31 rfl tyC3.size rfl rfl rfl) (by kernel_rfl) rfl ?_
     refine dG hW 0 tyC3 ?_
     refine l_valG (r_fieldAddr 26 Tryz.underlying31 rfl tyC3.size rfl rfl rfl) (by kernel_rfl) rfl ?_
     refine dG hW 0 tyC3 ?_
     refine l_valG (r_fieldAddr 27 Tryz.underlying31 rfl tyC3.size rfl rfl rfl) (by kernel_rfl) rfl ?_
     refine dG hW 0 tyC3 ?_
     refine l_valG (r_min4 rfl rfl rfl rfl rfl) (by kernel_rfl) rfl ?_
     refine l_valG (r_lss rfl rfl rfl rfl) (by kernel_rfl) rfl ?_
     refine l_split ?_ ?_
     ·intro hc9
      replace hc9 := of_decide_eq_true hc9
      refine kB ?_
      refine aB ?_
      refine lN ?_
      refine lN ?_
      refine lN ?_
      refine lN ?_
      refine lN ?_
      refine lN ?_
      refine kB ?_
      refine aB ?_
      refine lN ?_
      refine lN ?_
      refine lN ?_
      refine kB ?_
      refine aB ?_
      refine lN ?_
      refine lN ?_
      refine lN ?_
      refine lN ?_
      refine lN ?_
      refine kB ?_
      refine l_end (n_then ?_)
      refine c_true rfl ?_
      refine c_seq (c_reg ?_)
      refine bI ?_
      refine l_end (n_then (c_ret (r_then ?_)))
      refine ret_tmp (v := .int .i64 (chkB b)) rfl ?_ ⟨rfl, hW.below⟩
      rw [chkB_n hs (by omega)]; rfl
     ·intro hc9
      replace hc9 := of_decide_eq_false hc9
      refine kB ?_
      refine aB ?_
      refine l_valG (r_fieldAddr 8 Tryz.underlying31 rfl tyC3.size rfl rfl rfl) (by kernel_rfl) rfl ?_
      refine dG hW 0 tyC3 ?_
      refine l_valG (r_fieldAddr 9 Tryz.underlying31 rfl tyC3.size rfl rfl rfl) (by kernel_rfl) rfl ?_
      refine dG hW 0 tyC3 ?_
      refine l_valG (r_max2 rfl rfl rfl) (by kernel_rfl) rfl ?_
      refine l_valG (r_gtr rfl rfl rfl rfl) (by kernel_rfl) rfl ?_
      refine l_split ?_ ?_
      ·intro hc10
       replace hc10 := of_decide_eq_true hc10
       refine kB ?_
       refine aB ?_
       refine lN ?_
       refine lN ?_
       refine lN ?_
       refine kB ?_
       refine aB ?_
       refine lN ?_
       refine lN ?_
       refine lN ?_
       refine lN ?_
       refine lN ?_
       refine kB ?_
       refine l_end (n_then ?_)
       refine c_true rfl ?_
       refine c_seq (c_reg ?_)
       refine bI ?_
       refine l_end (n_then (c_ret (r_then ?_)))
       refine ret_tmp (v := .int .i64 (chkB b)) rfl ?_ ⟨rfl, hW.below⟩
       rw [chkB_n hs (by omega)]; rfl
      ·intro hc10
       replace hc10 := of_decide_eq_false hc10
       refine kB ?_
       refine aB ?_
       refine l_valG (r_fieldAddr 26 Tryz.underlying31 rfl tyC3.size rfl rfl rfl) (by kernel_rfl) rfl ?_
       refine dG hW 0 tyC3 ?_
       refine l_valG (r_gtr rfl rfl rfl rfl) (by kernel_rfl) rfl ?_
       refine l_split ?_ ?_
       ·intro hc11
        replace hc11 := of_decide_eq_true hc11
        refine kB ?_
        refine aB ?_
        refine lN ?_
        refine lN ?_
        refine lN ?_
        refine lN ?_
        refine lN ?_
        refine kB ?_
        refine l_end (n_then ?_)
        refine c_true rfl ?_
        refine c_seq (c_reg ?_)
        refine bI ?_
        refine l_end (n_then (c_ret (r_then ?_)))
        refine ret_tmp (v := .int .i64 (chkB b)) rfl ?_ ⟨rfl, hW.below⟩
        rw [chkB_n hs (by omega)]; rfl
       ·intro hc11
        replace hc11 := of_decide_eq_false hc11
        refine kB ?_
        refine aB ?_
        refine l_valG (r_fieldAddr 27 Tryz.underlying31 rfl tyC3.size rfl rfl rfl) (by kernel_rfl) rfl ?_
        refine dG hW 0 tyC3 ?_
        refine l_valG (r_fieldAddr 26 Tryz.underlying31 rfl tyC3.size rfl rfl rfl) (by kernel_rfl) rfl ?_
        refine dG hW 0 tyC3 ?_
        refine l_valG (r_gtr rfl rfl rfl rfl) (by kernel_rfl) rfl ?_
        refine l_split ?_ ?_
        ·intro hc12
         replace hc12 := of_decide_eq_true hc12
         refine kB ?_
         refine l_end (n_then ?_)
         refine c_true rfl ?_
         refine c_seq (c_reg ?_)
         refine bI ?_
         refine l_end (n_then (c_ret (r_then ?_)))
         refine ret_tmp (v := .int .i64 (chkB b)) rfl ?_ ⟨rfl, hW.below⟩
         rw [chkB_n hs (by omega)]; rfl
        ·intro hc12
         replace hc12 := of_decide_eq_false hc12
         refine kB ?_
         refine l_end (n_then ?_)
         refine c_false rfl ?_
         refine c_skip (n_then (c_seq (c_reg ?_)))
         refine bI ?_
         refine l_end (n_then (c_ret ?_))
         refine ret_tmp (v := .int .i64 (chkB b)) rfl ?_ ⟨rfl, hW.below⟩
         rw [chkB_y hs (users_yes hn fun k hk => hx.2 k (by omega)) (by omega)]; rfl

end Go.Proofs.YtoegpalacppllaaGreat

/- Lists of numbers. -/
namespace Go.Proofs.YtoegpalacppllaaGreat
open Go.RowKit Pl
open Tr Hn
set_option maxRecDepth 10000 in
/-- headend/headendref03.SameInts -/
theorem g_SameInts (aa : Option Addr) (an ac : Nat) (l : List Int) (ba : Option Addr) (bn bc : Nat) (m : List Int) (hl : l.length ≤ 4294967296) : GivesR Tryz.prog 78 [.slice aa an ac, .slice ba bn bc].toArray (fun w => RdI w ⟨aa, an, ac⟩ l ∧ RdI w ⟨ba, bn, bc⟩ m) (.bool (decide (l = m))) := by
 refine givesR_of Tryz.func78 rfl (bs := [.slice aa an ac, .slice ba bn bc, undef, undef, undef, undef, undef, undef, undef, undef, undef, undef, undef, undef, undef, undef, undef, undef, undef, undef, undef, undef, undef, undef, undef, undef]) rfl ?_
 intro w hP hW
 have hn : an = l.length := hP.1.len
 have hm : bn = m.length := hP.2.len
 refine c_seq (c_reg ?_)
 refine bB ?_
 refine l_end (n_then (c_seq (c_seq (c_reg ?_))))
 refine aS ?_
 refine l_val (r_lenSlice Tryz.underlying27 rfl rfl) rfl rfl ?_
 refine aS ?_
 refine l_val (r_lenSlice Tryz.underlying27 rfl rfl) rfl rfl ?_
 refine l_val (r_neqN rfl rfl rfl rfl) rfl rfl ?_
 refine l_split ?_ ?_
 ·intro hc1
  replace hc1 := of_decide_eq_true hc1
  refine l_end (n_then ?_)
  refine c_true rfl ?_
  refine c_seq (c_reg ?_)
  refine bB ?_
  refine l_end (n_then (c_ret (r_then ?_)))
  refine ret_tmp (v := .bool (decide (l = m))) rfl ?_ ⟨rfl, hW.below⟩
  rw [same_len (by omega)]; rfl
 ·intro hc1
  replace hc1 := of_decide_eq_false hc1
  refine l_end (n_then ?_)
  refine c_false rfl ?_
  refine c_skip (n_then (c_seq (c_seq (c_reg ?_))))
  refine bI ?_
  refine l_end (n_then (c_block ?_))
  refine c_loop (fun (i : Nat) (j : Nat → Value) => [.slice aa an ac, .slice ba bn bc, j 2, j 3, j 4, .int .i64 (i : Int), .slice aa an ac, j 7, .slice ba bn bc, j 9, .bool false, j 11, j 12, j 13, j 14, j 15, j 16, j 17, j 18, j 19, j 20, j 21, j 22, j 23, j 24, j 25]) (fun (i : Nat) => []) (fun (i : Nat) => i ≤ an ∧ ∀ k, k < i → at_ l k = at_ m k) (fun (i : Nat) => an - i) 0 (by kernel_rfl) hW ⟨by omega, all_zero⟩ ?_
  intro i j W hx hW
  refine c_seq (c_seq (c_reg ?_))
  refine aI ?_
  refine aS ?_
  refine l_val (r_lenSlice Tryz.underlying27 rfl rfl) rfl rfl ?_
  refine l_val (r_lssN rfl rfl rfl rfl) rfl rfl ?_
  refine l_split ?_ ?_
  ·intro hc2
   replace hc2 := of_decide_eq_true hc2
   obtain ⟨b0, o0, ha, hc⟩ := hP.1.ptr (by omega)
   simp only at ha
   subst ha
   obtain ⟨b1, o1, ha, hd⟩ := hP.2.ptr (by omega)
   simp only at ha
   subst ha
   refine l_end (n_then ?_)
   refine c_true rfl ?_
   refine c_skip (n_then (c_seq (c_block (c_seq ?_))))
   refine c_regY hW [] [.q, .q, .q, .q, .q, .q, .q, .q, .q] [0, 0, 3, 7, 0, 0, 48, 112, 255] (by kernel_rfl) (by kernel_rfl) ?_
   refine yS ?_
   refine yI ?_
   refine y_val (r_indexAddrSl2 (n := i) Tryz.underlying27 tyC3.size rfl rfl rfl (by omega)) rfl rfl ?_
   refine y_loadF tyC3 (v := .int .i64 (at_ l (i))) (hc (i) (by omega)) (by kernel_rfl) rfl rfl rfl ?_
   refine yS ?_
   refine yI ?_
   refine y_val (r_indexAddrSl2 (n := i) Tryz.underlying27 tyC3.size rfl rfl rfl (by omega)) rfl rfl ?_
   refine y_loadF tyC3 (v := .int .i64 (at_ m (i))) (hd (i) (by omega)) (by kernel_rfl) rfl rfl rfl ?_
   refine y_val (r_neq rfl rfl rfl rfl) rfl rfl ?_
   refine y_split ?_ ?_
   ·intro hc3
    replace hc3 := of_decide_eq_true hc3
    refine y_end ?_
    intro W hW
    refine n_then ?_
    refine c_true rfl ?_
    refine c_seq (c_reg ?_)
    refine bB ?_
    refine l_end (n_then (c_ret (r_block (r_then (r_then (r_block (r_then ?_)))))))
    refine ret_tmp (v := .bool (decide (l = m))) rfl ?_ ⟨rfl, hW.below⟩
    rw [same_no (i := i) (by omega)]; rfl
   ·intro hc3
    replace hc3 := of_decide_eq_false hc3
    refine y_end ?_
    intro W hW
    refine n_then ?_
    refine c_false rfl ?_
    refine c_skip (n_block (n_then (c_reg ?_)))
    refine aI ?_
    refine l_val (r_addN (n := 1) rfl rfl rfl (by omega)) rfl rfl ?_
    refine bI ?_
    refine l_end (n_then ?_)
    exact loop_next (i + 1) (by kernel_rfl) hW ⟨by omega, all_step hx.2 (by omega)⟩ (by omega)
  ·intro hc2
   replace hc2 := of_decide_eq_false hc2
   refine l_end (n_then ?_)
   refine c_false rfl ?_
   refine c_exit (x_then (x_then ?_))
   refine x_hit ?_
   refine n_then (c_seq (c_reg ?_))
   refine bB ?_
   refine l_end (n_then (c_ret ?_))
   refine ret_tmp (v := .bool (decide (l = m))) rfl ?_ ⟨rfl, hW.below⟩
   rw [same_yes (by omega) fun k hk => hx.2 k (by omega)]; rfl

end Go.Proofs.YtoegpalacppllaaGreat

/- Which lists have an element of another one. No function of the program is in sight here. -/
namespace Go.Proofs.YtoegpalacppllaaGreat.Tr
open Hn
/-- the first index at which something holds, or -1 -/
def findI (n : Nat) (p : Nat → Bool) : Int := match (List.range n).find? p with
  | some i => (i : Int)
  | none => -1
theorem find_yes {n : Nat} {p : Nat → Bool} {i : Nat} (hi : i < n) (h : p i = true) (hb : ∀ k, k < i → p k = false) : findI n p = (i : Int) := by
  have : (List.range n).find? p = some i := List.find?_range_eq_some.2 ⟨h, List.mem_range.2 hi, fun j hj => by rw [hb j hj]; rfl⟩
  rw [findI, this]
theorem find_no {n : Nat} {p : Nat → Bool} (hb : ∀ k, k < n → p k = false) : findI n p = -1 := by
  have : (List.range n).find? p = none := List.find?_eq_none.2 fun j hj => by rw [hb j (List.mem_range.1 hj)]; decide
  rw [findI, this]
theorem find_any (n : Nat) (p : Nat → Bool) : decide (findI n p ≥ 0) = (List.range n).any p := by
  unfold findI
  cases hf : (List.range n).find? p with
  | some i => rw [decide_eq_true (by simp only; omega)]; exact (List.any_eq_true.2 ⟨i, List.mem_of_find?_eq_some hf, List.find?_some hf⟩).symm
  | none =>
    rw [decide_eq_false (by simp only; omega)]
    refine (Bool.eq_false_iff.2 fun h => ?_).symm
    obtain ⟨i, hi, hp⟩ := List.any_eq_true.1 h
    exact List.find?_eq_none.1 hf i hi hp
theorem mem_at {l : List Int} {x : Int} : x ∈ l ↔ ∃ i, i < l.length ∧ at_ l i = x := by
  rw [List.mem_iff_getElem]
  constructor
  · rintro ⟨i, hi, e⟩; exact ⟨i, hi, by simp [at_, List.getD_eq_getElem?_getD, hi, e]⟩
  · rintro ⟨i, hi, e⟩; exact ⟨i, hi, by simpa [at_, List.getD_eq_getElem?_getD, hi] using e⟩
/-- whether a list has an element of a coalition -/
def hasP (c m : List Int) : Bool := (List.range m.length).any fun k => c.contains (at_ m k)
theorem hasP_opn {s : Sc} {c : List Int} {v x : Int} (hc : usersB c ((p2 s.d.toNat : Nat) : Int) = true) : hasP c (membersN s v x (p2 s.d.toNat)) = opnB s c v x := by
  rw [Bool.eq_iff_iff, hasP, opnB, List.any_eq_true, List.any_eq_true]
  constructor
  · rintro ⟨k, hk, h⟩
    have hm := mem_at.2 ⟨k, List.mem_range.1 hk, rfl⟩
    obtain ⟨u, hu, e⟩ := List.mem_map.1 hm
    obtain ⟨i, hi, e2⟩ := mem_at.1 (List.contains_iff_mem.1 h)
    refine ⟨i, List.mem_range.2 hi, ?_⟩
    rw [e2, ← e, Int.toNat_natCast]
    exact (List.mem_filter.1 hu).2
  · rintro ⟨i, hi, h⟩
    have hi := List.mem_range.1 hi
    have hb := users_at hc hi
    have hm : at_ c i ∈ membersN s v x (p2 s.d.toNat) := List.mem_map.2 ⟨(at_ c i).toNat, List.mem_filter.2 ⟨List.mem_range.2 (by omega), h⟩, by omega⟩
    obtain ⟨k, hk, e⟩ := mem_at.1 hm
    exact ⟨k, List.mem_range.2 hk, by rw [e]; exact List.contains_iff_mem.2 (mem_at.2 ⟨i, hi, rfl⟩)⟩
theorem users_pair {l : List Int} {m : Int} (h : usersB l m = true) : l.Pairwise (· ≤ ·) := by
  rw [List.pairwise_iff_getElem]
  intro i j hi hj hij
  have := users_lt h i j hij hj
  simp only [at_, List.getD_eq_getElem?_getD, hi, hj, List.getElem?_eq_getElem, Option.getD_some] at this
  omega
/-- which of some lists are open to a coalition -/
def opl (c : List Int) (gs : List (List Int)) (n : Nat) : List Bool := (List.range n).map fun i => hasP c (gs.getD i [])
theorem opl_succ (c : List Int) (gs : List (List Int)) (n : Nat) : opl c gs (n + 1) = opl c gs n ++ [hasP c (gs.getD n [])] := by simp [opl, List.range_succ]
theorem opl_opens {b : Bo} {l : List (Int × Int)} (hc : usersB b.l ((p2 b.s.d.toNat : Nat) : Int) = true) : opl b.l (mems b.s l) l.length = opens b l l.length := by
  refine List.map_congr_left fun i hi => ?_
  have hi := List.mem_range.1 hi
  rw [List.getD_eq_getElem?_getD, mems_get hi]
  exact hasP_opn hc
end Go.Proofs.YtoegpalacppllaaGreat.Tr

/- What a subset is divided into, looked up for all subsets of all valid schemes. No program is in sight here. -/
namespace Go.Proofs.YtoegpalacppllaaGreat.Tr
open Hn

/-- what a subset of two members or more is divided into -/
def splitV (s : Sc) (v w : Int) : List (Int × Int) :=
  if s.k = 1 then [(2 * v, 0), (2 * v + 1, 0)]
  else if w = 0 then [(1, 2), (1, 3)]
  else if sh w.toNat (lev w.toNat - lev v.toNat - 1) = w.toNat then [(((sib w.toNat : Nat) : Int), 2 * ((sib w.toNat : Nat) : Int)), (((sib w.toNat : Nat) : Int), 2 * ((sib w.toNat : Nat) : Int) + 1)]
  else if subB s ((sh w.toNat (lev w.toNat - lev v.toNat - 1) : Nat) : Int) w then [(v, ((sh w.toNat (lev w.toNat - lev v.toNat - 1) : Nat) : Int)), (((sh w.toNat (lev w.toNat - lev v.toNat - 1) : Nat) : Int), w)]
  else [(v, ((bet s.d w.toNat (lev w.toNat - lev v.toNat - 1) : Nat) : Int)), (((bet s.d w.toNat (lev w.toNat - lev v.toNat - 1) : Nat) : Int), w)]
/-- membership, of leaves at a depth -/
def memF (d v w y : Nat) : Bool := Nat.ble (lev v) d && Nat.beq (y / 2 ^ (d - lev v)) v && (Nat.beq w 0 || !(Nat.ble (lev w) d && Nat.beq (y / 2 ^ (d - lev w)) w))
theorem belowF {d u v : Nat} (hu : u < p2 d) : belowN (p2 d + u) v = (Nat.ble (lev v) d && Nat.beq ((p2 d + u) / 2 ^ (d - lev v)) v) := by
  rw [belowN, leaf_lev hu, sh_eq]
theorem memF_eq {s : Sc} {v w : Int} {u : Nat} (h0 : 0 ≤ w) (hu : u < p2 s.d.toNat) : memB s v w u = memF s.d.toNat v.toNat w.toNat (p2 s.d.toNat + u) := by
  rw [memB, belowF hu, belowF hu, memF]
  congr 2
  rw [Bool.eq_iff_iff]; simp; omega
def cntF (d v w : Nat) : Nat := ((List.range (p2 d)).filter fun u => memF d v w (p2 d + u)).length
def spOK (k d v w : Nat) : Bool :=
  !subB ⟨k, d, 0, 0, 0, 0⟩ v w || (!Nat.beq (cntF d v w) 0 && (Nat.beq (cntF d v w) 1 ||
    match splitV ⟨k, d, 0, 0, 0, 0⟩ v w with
    | [a, b] => subB ⟨k, d, 0, 0, 0, 0⟩ a.1 a.2 && subB ⟨k, d, 0, 0, 0, 0⟩ b.1 b.2 && upto (p2 d) fun u => (memF d v w (p2 d + u) == (memF d a.1.toNat a.2.toNat (p2 d + u) || memF d b.1.toNat b.2.toNat (p2 d + u))) && !(memF d a.1.toNat a.2.toNat (p2 d + u) && memF d b.1.toNat b.2.toNat (p2 d + u))
    | _ => false))
theorem sp_tab1 : (upto 7 fun d => upto 128 fun v => spOK 1 d v 0) = true := by decide +kernel
theorem sp_tab2 : (upto 7 fun d => upto 2 fun k => spOK (k + 2) d 1 0 && upto 128 fun w => upto 6 fun i => Nat.ble (sh w (i + 1)) 0 || spOK (k + 2) d (sh w (i + 1)) w) = true := by decide +kernel
end Go.Proofs.YtoegpalacppllaaGreat.Tr

/- Plain laws of subsets that are split, and of partitions. No program is in sight here. -/
namespace Go.Proofs.YtoegpalacppllaaGreat.Tr
open Hn

theorem sp_all {s : Sc} {v w : Int} (hs : schB s = true) (hx : subB s v w = true) : ∃ k d v' w' : Nat, s = ⟨k, d, 0, 0, 0, 0⟩ ∧ v = v' ∧ w = w' ∧ spOK k d v' w' = true := by
  obtain ⟨k1, k3, d0, d6, hg, hp, hq, hr⟩ := schB_iff.1 hs
  obtain ⟨hx1, hx2, hx3, hx4⟩ := sub_x d6 hx
  obtain ⟨p1, p2', p3, p4⟩ := sub_parts hx
  obtain ⟨k, d, g, p, q, r⟩ := s
  simp only at *
  subst hg hp hq hr
  obtain ⟨k, rfl⟩ : ∃ n : Nat, k = n := ⟨k.toNat, by omega⟩
  obtain ⟨d, rfl⟩ : ∃ n : Nat, d = n := ⟨d.toNat, by omega⟩
  obtain ⟨v, rfl⟩ : ∃ n : Nat, v = n := ⟨v.toNat, by omega⟩
  obtain ⟨w, rfl⟩ : ∃ n : Nat, w = n := ⟨w.toNat, by omega⟩
  refine ⟨k, d, v, w, rfl, rfl, rfl, ?_⟩
  by_cases hk : k = 1
  · subst hk
    have hw := p2' rfl
    obtain rfl : w = 0 := by omega
    exact upto_get (upto_get sp_tab1 (show d < 7 by omega)) (show v < 128 by omega)
  · obtain ⟨k, rfl⟩ : ∃ j, k = j + 2 := ⟨k - 2, by omega⟩
    have h2 := upto_get (upto_get sp_tab2 (show d < 7 by omega)) (show k < 2 by omega)
    rw [Bool.and_eq_true] at h2
    by_cases hw : w = 0
    · subst hw
      have hv := p3 (by omega) rfl
      obtain rfl : v = 1 := by omega
      exact h2.1
    · obtain ⟨-, hne, hb, -⟩ := p4 (by omega) (by omega)
      simp only [Int.toNat_natCast] at hb
      obtain ⟨hl, he⟩ := below_iff.1 hb
      have hlw := lev_le (v := w) (by omega)
      have hlt : lev v < lev w := Nat.lt_of_le_of_ne hl fun e => by
        rw [e, Nat.sub_self] at he
        exact hne (by rw [show w = v from he])
      have h3 := upto_get (upto_get h2.2 (show w < 128 by omega)) (show lev w - lev v - 1 < 6 by omega)
      rw [show lev w - lev v - 1 + 1 = lev w - lev v by omega, he, Bool.or_eq_true, Nat.ble_eq] at h3
      rcases h3 with h3 | h3
      · omega
      · exact h3
theorem members_cnt {k d v w : Nat} : (membersN ⟨k, d, 0, 0, 0, 0⟩ v w (p2 d)).length = cntF d v w := by
  rw [membersN, List.length_map, cntF]
  refine congrArg List.length (List.filter_congr fun u hu => ?_)
  have := memF_eq (s := ⟨k, d, 0, 0, 0, 0⟩) (v := v) (w := w) (u := u) (by omega) (List.mem_range.1 hu)
  simpa using this
theorem members_pos {s : Sc} {v w : Int} (hs : schB s = true) (hx : subB s v w = true) : 0 < (membersN s v w (p2 s.d.toNat)).length := by
  obtain ⟨k, d, v, w, rfl, rfl, rfl, h⟩ := sp_all hs hx
  rw [spOK, hx, Bool.not_true, Bool.false_or, Bool.and_eq_true, Bool.not_eq_true'] at h
  rw [show (Sc.d ⟨(k : Int), (d : Int), 0, 0, 0, 0⟩).toNat = d from rfl, members_cnt]
  have := h.1
  rw [← Bool.not_eq_true, Nat.beq_eq] at this
  omega
theorem split_law {s : Sc} {v w : Int} (hs : schB s = true) (hx : subB s v w = true) (h1 : (membersN s v w (p2 s.d.toNat)).length ≠ 1) : ∃ a b : Int × Int, splitV s v w = [a, b] ∧ subB s a.1 a.2 = true ∧ subB s b.1 b.2 = true ∧
    ∀ u, u < p2 s.d.toNat → memB s v w u = (memB s a.1 a.2 u || memB s b.1 b.2 u) ∧ (memB s a.1 a.2 u && memB s b.1 b.2 u) = false := by
  obtain ⟨k, d, v, w, rfl, rfl, rfl, h⟩ := sp_all hs hx
  obtain ⟨-, -, -, d6, -⟩ := schB_iff.1 hs
  rw [show (Sc.d ⟨(k : Int), (d : Int), 0, 0, 0, 0⟩).toNat = d from rfl, members_cnt] at h1
  rw [spOK, hx, Bool.not_true, Bool.false_or, Bool.and_eq_true, Bool.or_eq_true, Nat.beq_eq] at h
  have h := h.2.resolve_left h1
  generalize hsp : splitV ⟨(k : Int), (d : Int), 0, 0, 0, 0⟩ v w = l at h
  match l, hsp, h with
  | [a, b], hsp, h =>
    simp only [Bool.and_eq_true] at h
    obtain ⟨⟨ha, hb⟩, h⟩ := h
    refine ⟨a, b, rfl, ha, hb, fun u hu => ?_⟩
    have h := upto_get h hu
    have hxa := sub_x d6 ha
    have hxb := sub_x d6 hb
    rw [memF_eq (by omega) hu, memF_eq (by omega) hu, memF_eq (by omega) hu]
    simp only [Bool.and_eq_true, beq_iff_eq, Bool.not_eq_true'] at h
    exact h
theorem members_lt {s : Sc} {v w x : Int} {n : Nat} (h : x ∈ membersN s v w n) : 0 ≤ x ∧ x < n ∧ memB s v w x.toNat = true := by
  obtain ⟨u, hu, rfl⟩ := List.mem_map.1 h
  obtain ⟨h1, h2⟩ := List.mem_filter.1 hu
  have := List.mem_range.1 h1
  exact ⟨by omega, by omega, h2⟩
theorem filter_or {α : Type} {l : List α} {p q r : α → Bool} (h : ∀ x ∈ l, p x = (q x || r x) ∧ (q x && r x) = false) : (l.filter p).Perm (l.filter q ++ l.filter r) := by
  induction l with
  | nil => exact List.Perm.refl _
  | cons x l ih =>
    have ih := ih fun y hy => h y (List.mem_cons_of_mem _ hy)
    obtain ⟨h1, h2⟩ := h x List.mem_cons_self
    cases hq : q x with
    | true =>
      have hr : r x = false := by rw [hq, Bool.true_and] at h2; exact h2
      rw [List.filter_cons_of_pos (by rw [h1, hq]; rfl), List.filter_cons_of_pos hq, List.filter_cons_of_neg (by rw [hr]; decide)]
      exact List.Perm.cons _ ih
    | false =>
      cases hr : r x with
      | true =>
        rw [List.filter_cons_of_pos (by rw [h1, hr, Bool.or_true]), List.filter_cons_of_neg (by rw [hq]; decide), List.filter_cons_of_pos hr]
        exact (List.Perm.cons _ ih).trans List.perm_middle.symm
      | false =>
        rw [List.filter_cons_of_neg (by rw [h1, hq, hr]; decide), List.filter_cons_of_neg (by rw [hq]; decide), List.filter_cons_of_neg (by rw [hr]; decide)]
        exact ih
/-- the members of all of some subsets -/
def allm (s : Sc) (l : List (Int × Int)) : List Int := (mems s l).flatten
theorem allm_append (s : Sc) (l m : List (Int × Int)) : allm s (l ++ m) = allm s l ++ allm s m := by simp [allm, mems]
theorem allm_cons (s : Sc) (x : Int × Int) (l : List (Int × Int)) : allm s (x :: l) = membersN s x.1 x.2 (p2 s.d.toNat) ++ allm s l := by simp [allm, mems]
theorem split_perm {s : Sc} {v w : Int} (hs : schB s = true) (hx : subB s v w = true) (h1 : (membersN s v w (p2 s.d.toNat)).length ≠ 1) : (allm s (splitV s v w)).Perm (membersN s v w (p2 s.d.toNat)) ∧ (splitV s v w).length = 2 ∧ ∀ x ∈ splitV s v w, subB s x.1 x.2 = true := by
  obtain ⟨a, b, e, ha, hb, h⟩ := split_law hs hx h1
  rw [e]
  refine ⟨?_, rfl, fun x hx => ?_⟩
  · rw [allm_cons, allm_cons, show allm s [] = [] from rfl, List.append_nil, membersN, membersN, membersN, ← List.map_append]
    exact ((filter_or fun u hu => h u (List.mem_range.1 hu)).map _).symm
  · simp only [List.mem_cons, List.not_mem_nil, or_false] at hx
    rcases hx with rfl | rfl
    · exact ha
    · exact hb
/-- the subset with an index is taken out of a partition: what it is divided into is put in its place -/
def taken (s : Sc) (l : List (Int × Int)) (i : Nat) : List (Int × Int) := l.take i ++ ((if (membersN s (qn l i) (qm l i) (p2 s.d.toNat)).length = 1 then [] else splitV s (qn l i) (qm l i)) ++ l.drop (i + 1))
def takenM (s : Sc) (l : List (Int × Int)) (nm : List Int) (i : Nat) : List Int := if (membersN s (qn l i) (qm l i) (p2 s.d.toNat)).length = 1 then merged nm (membersN s (qn l i) (qm l i) (p2 s.d.toNat)) else nm
/-- what a trace keeps: subsets are valid; the members of all and the named ones are those that there were -/
structure Part (s : Sc) (tot : List Int) (l : List (Int × Int)) (nm : List Int) : Prop where
  sub : ∀ x ∈ l, subB s x.1 x.2 = true
  perm : (allm s l ++ nm).Perm tot
theorem cut_at {l : List (Int × Int)} {i : Nat} (hi : i < l.length) : l = l.take i ++ ((qn l i, qm l i) :: l.drop (i + 1)) := by
  have e : (qn l i, qm l i) = l[i] := by simp [qn, qm, List.getD_eq_getElem?_getD, hi]
  rw [e, List.getElem_cons_drop, List.take_append_drop]
theorem all_lt {s : Sc} {l : List (Int × Int)} {x : Int} (h : x ∈ allm s l) : 0 ≤ x ∧ x < (p2 s.d.toNat : Nat) := by
  obtain ⟨m, hm, hx⟩ := List.mem_flatten.1 h
  obtain ⟨y, -, rfl⟩ := List.mem_map.1 hm
  have := members_lt hx
  exact ⟨this.1, this.2.1⟩
/-- how far a trace can go on -/
def pot (s : Sc) (l : List (Int × Int)) : Nat := 2 * (allm s l).length - l.length
theorem allm_ge {s : Sc} (hs : schB s = true) : ∀ {l : List (Int × Int)}, (∀ x ∈ l, subB s x.1 x.2 = true) → l.length ≤ (allm s l).length
  | [], _ => Nat.zero_le _
  | x :: l, h => by
    have h1 := members_pos hs (h x List.mem_cons_self)
    have h2 := allm_ge hs (l := l) fun y hy => h y (List.mem_cons_of_mem _ hy)
    rw [allm_cons, List.length_append, List.length_cons]; omega
theorem Part.step {s : Sc} {tot nm : List Int} {l : List (Int × Int)} (hs : schB s = true) (ht : tot.Nodup) (hr : ∀ x ∈ tot, 0 ≤ x ∧ x < 64) (k : Part s tot l nm) {i : Nat} (hi : i < l.length) : Part s tot (taken s l i) (takenM s l nm i) ∧ pot s (taken s l i) < pot s l ∧ sortI (nm ++ membersN s (qn l i) (qm l i) (p2 s.d.toNat)) = merged nm (membersN s (qn l i) (qm l i) (p2 s.d.toNat)) := by
  have hc := cut_at hi
  have hsub : subB s (qn l i) (qm l i) = true := k.sub (qn l i, qm l i) (q_mem.2 ⟨i, hi, rfl⟩)
  have hge := allm_ge hs (l := taken s l i)
  have hge0 := allm_ge hs k.sub
  have hall : allm s l = allm s (l.take i) ++ (membersN s (qn l i) (qm l i) (p2 s.d.toNat) ++ allm s (l.drop (i + 1))) := by
    conv => lhs; rw [hc]
    rw [allm_append, allm_cons]
  have hll : l.length = (l.take i).length + (1 + (l.drop (i + 1)).length) := by
    conv => lhs; rw [hc]
    simp only [List.length_append, List.length_cons]; omega
  obtain ⟨m, hm⟩ : ∃ m, m = membersN s (qn l i) (qm l i) (p2 s.d.toNat) := ⟨_, rfl⟩
  have hnd : (allm s l ++ nm).Nodup := (k.perm.nodup_iff).2 ht
  have hsubm : (nm ++ m).Nodup ∧ ∀ x ∈ nm ++ m, 0 ≤ x ∧ x < 64 := by
    have hp : (allm s l ++ nm).Perm ((allm s (l.take i) ++ allm s (l.drop (i + 1))) ++ (nm ++ m)) := by
      rw [hall, ← hm, List.perm_iff_count]
      intro x
      simp only [List.count_append]; omega
    refine ⟨(List.nodup_append.1 ((hp.nodup_iff).1 hnd)).2.1, fun x hx => hr x (k.perm.subset (hp.symm.subset (List.mem_append_right _ hx)))⟩
  have hmrg : sortI (nm ++ m) = merged nm m := merged_sort hsubm.1 hsubm.2
  rw [hm] at hmrg
  by_cases h1 : (membersN s (qn l i) (qm l i) (p2 s.d.toNat)).length = 1
  · have e1 : taken s l i = l.take i ++ l.drop (i + 1) := by rw [taken, if_pos h1]; rfl
    have e2 : takenM s l nm i = merged nm (membersN s (qn l i) (qm l i) (p2 s.d.toNat)) := if_pos h1
    have hsb : ∀ x ∈ taken s l i, subB s x.1 x.2 = true := fun x hx => by
      rw [e1] at hx
      refine k.sub x ?_
      rw [hc]
      rcases List.mem_append.1 hx with hx | hx
      · exact List.mem_append_left _ hx
      · exact List.mem_append_right _ (List.mem_cons_of_mem _ hx)
    refine ⟨⟨hsb, ?_⟩, ?_, hmrg⟩
    · refine List.Perm.trans ?_ k.perm
      rw [e1, e2, allm_append, hall, ← hm]
      rw [← hm] at hmrg
      rw [← hmrg]
      have := sortI_perm (nm ++ m)
      rw [List.perm_iff_count] at *
      intro x
      have := this x
      simp only [List.count_append] at *; omega
    · have hge := hge hsb
      have hal : (allm s (taken s l i)).length + 1 = (allm s l).length := by
        rw [e1, allm_append, hall, List.length_append, List.length_append, List.length_append, h1]; omega
      have hln : (taken s l i).length + 1 = l.length := by rw [e1, hll, List.length_append]; omega
      unfold pot; omega
  · have e1 : taken s l i = l.take i ++ (splitV s (qn l i) (qm l i) ++ l.drop (i + 1)) := by rw [taken, if_neg h1]
    have e2 : takenM s l nm i = nm := if_neg h1
    obtain ⟨q1, q2, q3⟩ := split_perm hs hsub h1
    have hsb : ∀ x ∈ taken s l i, subB s x.1 x.2 = true := fun x hx => by
      rw [e1] at hx
      rcases List.mem_append.1 hx with hx | hx
      · exact k.sub x (by rw [hc]; exact List.mem_append_left _ hx)
      · rcases List.mem_append.1 hx with hx | hx
        · exact q3 x hx
        · exact k.sub x (by rw [hc]; exact List.mem_append_right _ (List.mem_cons_of_mem _ hx))
    refine ⟨⟨hsb, ?_⟩, ?_, hmrg⟩
    · refine List.Perm.trans ?_ k.perm
      rw [e1, e2, allm_append, allm_append, hall, List.perm_iff_count]
      rw [List.perm_iff_count] at q1
      intro x
      have := q1 x
      simp only [List.count_append] at *; omega
    · have hge := hge hsb
      have hal : (allm s (taken s l i)).length = (allm s l).length := by
        rw [e1, allm_append, allm_append, hall]
        simp only [List.length_append, q1.length_eq]
      have hln : (taken s l i).length = l.length + 1 := by rw [e1, hll]; simp only [List.length_append, q2]; omega
      unfold pot; omega
end Go.Proofs.YtoegpalacppllaaGreat.Tr

/- A trace: queries up to the first that is played, the search, rounds. No program is in sight here. -/
namespace Go.Proofs.YtoegpalacppllaaGreat.Tr
open Hn

/-- queries with a number of fakes, at most so many, up to the first that is played: the box, whether there was one, and how many queries there were, beside those before -/
def seenN (o : List Bool) (f : Int) : Nat → Bo → Nat → Bo × Bool × Nat
  | 0, b, n => (b, false, n)
  | k + 1, b, n => if plays b o f then (askd b o f, true, n + 1) else seenN o f k (askd b o f) (n + 1)
theorem seenN_zero (o : List Bool) (f : Int) (b : Bo) (n : Nat) : seenN o f 0 b n = (b, false, n) := rfl
theorem seenN_yes {o : List Bool} {f : Int} {k : Nat} {b : Bo} {n : Nat} (h : plays b o f = true) : seenN o f (k + 1) b n = (askd b o f, true, n + 1) := by rw [seenN, if_pos h]
theorem seenN_no {o : List Bool} {f : Int} {k : Nat} {b : Bo} {n : Nat} (h : plays b o f = false) : seenN o f (k + 1) b n = seenN o f k (askd b o f) (n + 1) := by rw [seenN, if_neg (by rw [h]; decide)]
/-- a box after so many queries -/
structure Askd (b0 b : Bo) (c : Nat) : Prop where
  s : b.s = b0.s
  l : b.l = b0.l
  m : b.m = b0.m
  n : b.n = b0.n
  v : b.v = b0.v
  k : b.k = b0.k
  a : b.a = b0.a + (c : Int)
  x0 : 0 ≤ b.x
  x1 : b.x ≤ b.a
  x2 : b0.x ≤ b.x
theorem Askd.refl {b : Bo} (h0 : 0 ≤ b.x) (h1 : b.x ≤ b.a) : Askd b b 0 := ⟨rfl, rfl, rfl, rfl, rfl, rfl, by simp, h0, h1, Int.le_refl _⟩
theorem Askd.ask {b0 b : Bo} {c : Nat} (h : Askd b0 b c) (o : List Bool) (f : Int) : Askd b0 (askd b o f) (c + 1) := by
  unfold askd after
  have := h.a
  have := h.x0
  have := h.x1
  have := h.x2
  split
  · exact ⟨h.s, h.l, h.m, h.n, h.v, h.k, by simp only; omega, by simp only; omega, by simp only; omega, by simp only; omega⟩
  · exact ⟨h.s, h.l, h.m, h.n, h.v, h.k, by simp only; omega, by simp only; omega, by simp only; omega, by simp only; omega⟩
theorem Askd.trans {b0 b1 b2 : Bo} {c d : Nat} (h : Askd b0 b1 c) (k : Askd b1 b2 d) : Askd b0 b2 (c + d) :=
  ⟨k.s.trans h.s, k.l.trans h.l, k.m.trans h.m, k.n.trans h.n, k.v.trans h.v, k.k.trans h.k, by rw [k.a, h.a]; omega, k.x0, k.x1, Int.le_trans h.x2 k.x2⟩
theorem seenN_run {b0 : Bo} (o : List Bool) (f : Int) : ∀ (k : Nat) {b : Bo} {c : Nat} (n : Nat), Askd b0 b c → ∃ j, j ≤ k ∧ Askd b0 (seenN o f k b n).1 (c + j) ∧ (seenN o f k b n).2.2 = n + j ∧ ((seenN o f k b n).2.1 = false → j = k)
  | 0, b, c, n, h => ⟨0, Nat.le_refl _, h, rfl, fun _ => rfl⟩
  | k + 1, b, c, n, h => by
    cases hp : plays b o f with
    | true => rw [seenN_yes hp]; exact ⟨1, by omega, h.ask o f, rfl, fun h => by cases h⟩
    | false =>
      rw [seenN_no hp]
      obtain ⟨j, h1, h2, h3, h4⟩ := seenN_run o f k (n + 1) (h.ask o f)
      exact ⟨j + 1, by omega, by rw [show c + (j + 1) = c + 1 + j by omega]; exact h2, by omega, fun e => by rw [h4 e]⟩
theorem plays_pos {b : Bo} {o : List Bool} {f : Int} (h : plays b o f = true) : 0 < o.length := by
  apply Classical.byContradiction
  intro hn
  obtain rfl : o = [] := List.eq_nil_of_length_eq_zero (by omega)
  exact absurd (show askW b 0 0 false = true from h) (by rw [ask_no (.inl rfl)]; decide)
theorem seenN_pos {o : List Bool} {f : Int} : ∀ {k : Nat} {b : Bo} {n : Nat}, (seenN o f k b n).2.1 = true → 0 < o.length
  | 0, b, n, h => by cases h
  | k + 1, b, n, h => by
    cases hp : plays b o f with
    | true => exact plays_pos hp
    | false => rw [seenN_no hp] at h; exact seenN_pos h
/-- the search: the box, the index low, and how many queries there were, beside those before -/
def searchN (o : List Bool) (N : Nat) : Nat → Nat → Nat → Bo → Nat → Bo × Nat × Nat
  | 0, low, _, b, a => (b, low, a)
  | k + 1, low, high, b, a => if high - low ≤ 1 then (b, low, a) else
    match seenN o (((low + high) / 2 : Nat) : Int) N b a with
    | (x, true, n) => searchN o N k ((low + high) / 2) high x n
    | (x, false, n) => searchN o N k low ((low + high) / 2) x n
theorem searchN_end {o : List Bool} {N k low high : Nat} {b : Bo} {a : Nat} (h : high - low ≤ 1) : searchN o N k low high b a = (b, low, a) := by
  cases k with
  | zero => rfl
  | succ k => rw [searchN, if_pos h]
theorem searchN_yes {o : List Bool} {N k low high : Nat} {b x : Bo} {a n : Nat} (h : ¬ high - low ≤ 1) (hs : seenN o (((low + high) / 2 : Nat) : Int) N b a = (x, true, n)) : searchN o N (k + 1) low high b a = searchN o N k ((low + high) / 2) high x n := by rw [searchN, if_neg h, hs]
theorem searchN_no {o : List Bool} {N k low high : Nat} {b x : Bo} {a n : Nat} (h : ¬ high - low ≤ 1) (hs : seenN o (((low + high) / 2 : Nat) : Int) N b a = (x, false, n)) : searchN o N (k + 1) low high b a = searchN o N k low ((low + high) / 2) x n := by rw [searchN, if_neg h, hs]
theorem searchN_fuel {o : List Bool} {N : Nat} : ∀ {k j low high : Nat} {b : Bo} {a : Nat}, high - low ≤ k → high - low ≤ j → searchN o N k low high b a = searchN o N j low high b a
  | 0, j, low, high, b, a, h, _ => by rw [searchN_end (by omega), searchN_end (by omega)]
  | k + 1, 0, low, high, b, a, _, h => by rw [searchN_end (by omega), searchN_end (by omega)]
  | k + 1, j + 1, low, high, b, a, h1, h2 => by
    by_cases h : high - low ≤ 1
    · rw [searchN_end h, searchN_end h]
    · rcases hs : seenN o (((low + high) / 2 : Nat) : Int) N b a with ⟨x, p, n⟩
      cases p with
      | true => rw [searchN_yes h hs, searchN_yes h hs]; exact searchN_fuel (by omega) (by omega)
      | false => rw [searchN_no h hs, searchN_no h hs]; exact searchN_fuel (by omega) (by omega)
theorem searchN_run {b0 : Bo} (o : List Bool) (N : Nat) : ∀ (k : Nat) {i low high : Nat} {b : Bo} {c : Nat} (a : Nat), Askd b0 b c → low < high → high - low ≤ p2 i →
    ∃ j, j ≤ i * N ∧ Askd b0 (searchN o N k low high b a).1 (c + j) ∧ (searchN o N k low high b a).2.2 = a + j ∧ low ≤ (searchN o N k low high b a).2.1 ∧ (searchN o N k low high b a).2.1 < high
  | 0, i, low, high, b, c, a, h, hl, _ => ⟨0, Nat.zero_le _, h, rfl, Nat.le_refl _, hl⟩
  | k + 1, i, low, high, b, c, a, h, hl, hi => by
    by_cases h1 : high - low ≤ 1
    · rw [searchN_end h1]; exact ⟨0, Nat.zero_le _, h, rfl, Nat.le_refl _, hl⟩
    · cases i with
      | zero => exact absurd hi h1
      | succ i =>
        rw [p2] at hi
        obtain ⟨j, j1, j2, j3, -⟩ := seenN_run o (((low + high) / 2 : Nat) : Int) N a h
        rcases hs : seenN o (((low + high) / 2 : Nat) : Int) N b a with ⟨x, p, n⟩
        rw [hs] at j2 j3
        simp only at j2 j3
        subst j3
        cases p with
        | true =>
          rw [searchN_yes h1 hs]
          obtain ⟨t, t1, t2, t3, t4, t5⟩ := searchN_run o N k (i := i) (low := (low + high) / 2) (high := high) (a + j) j2 (by omega) (by omega)
          exact ⟨j + t, by rw [Nat.succ_mul]; omega, by rw [← Nat.add_assoc]; exact t2, by omega, by omega, t5⟩
        | false =>
          rw [searchN_no h1 hs]
          obtain ⟨t, t1, t2, t3, t4, t5⟩ := searchN_run o N k (i := i) (low := low) (high := (low + high) / 2) (a + j) j2 (by omega) (by omega)
          exact ⟨j + t, by rw [Nat.succ_mul]; omega, by rw [← Nat.add_assoc]; exact t2, by omega, t4, by omega⟩
/-- a trace at work: the box, the partition, who was named, how many queries there were -/
structure Ts where
  b : Bo
  l : List (Int × Int)
  nm : List Int
  a : Nat
def Ts.o (t : Ts) : List Bool := opens t.b t.l t.l.length
/-- a round: the trace after it, and whether it ends (1: the box is not seen to play, 2: it is not any more) -/
def roundN (N : Nat) (t : Ts) : Ts × Nat :=
  match seenN t.o 0 N t.b t.a with
  | (b1, false, a1) => (⟨b1, t.l, t.nm, a1⟩, 1)
  | (b1, true, a1) =>
    match searchN t.o N t.o.length 0 t.o.length b1 a1 with
    | (b2, low, a2) =>
      match seenN t.o 0 N b2 a2 with
      | (b3, false, a3) => (⟨b3, t.l, t.nm, a3⟩, 2)
      | (b3, true, a3) => (⟨b3, taken t.b.s t.l low, takenM t.b.s t.l t.nm low, a3⟩, 0)
theorem round_1 {N : Nat} {t : Ts} {b1 : Bo} {a1 : Nat} (h : seenN t.o 0 N t.b t.a = (b1, false, a1)) : roundN N t = (⟨b1, t.l, t.nm, a1⟩, 1) := by rw [roundN, h]
theorem round_2 {N : Nat} {t : Ts} {b1 b2 b3 : Bo} {a1 a2 a3 low : Nat} (h : seenN t.o 0 N t.b t.a = (b1, true, a1)) (h2 : searchN t.o N t.o.length 0 t.o.length b1 a1 = (b2, low, a2)) (h3 : seenN t.o 0 N b2 a2 = (b3, false, a3)) : roundN N t = (⟨b3, t.l, t.nm, a3⟩, 2) := by rw [roundN, h]; simp only [h2, h3]
theorem round_0 {N : Nat} {t : Ts} {b1 b2 b3 : Bo} {a1 a2 a3 low : Nat} (h : seenN t.o 0 N t.b t.a = (b1, true, a1)) (h2 : searchN t.o N t.o.length 0 t.o.length b1 a1 = (b2, low, a2)) (h3 : seenN t.o 0 N b2 a2 = (b3, true, a3)) : roundN N t = (⟨b3, taken t.b.s t.l low, takenM t.b.s t.l t.nm low, a3⟩, 0) := by rw [roundN, h]; simp only [h2, h3]
def tracedN (N : Nat) : Nat → Ts → Ts × Nat
  | 0, t => (t, 0)
  | k + 1, t => match roundN N t with
    | (t', 0) => tracedN N k t'
    | r => r
def Ts.pot (t : Ts) : Nat := Tr.pot t.b.s t.l
/-- the trace from here on -/
def traced (N : Nat) (t : Ts) : Ts × Nat := tracedN N (t.pot + 1) t
/-- what holds of a trace at work that began with a box and these members -/
structure Tin (N : Nat) (b0 : Bo) (tot : List Int) (t : Ts) : Prop where
  ask : Askd b0 t.b t.a
  part : Part b0.s tot t.l t.nm
  fit : t.a + (t.pot + 1) * ((b0.s.d.toNat + 2) * N) ≤ (2 * p2 b0.s.d.toNat + 1) * ((b0.s.d.toNat + 2) * N)
theorem len_le {s : Sc} {tot nm : List Int} {l : List (Int × Int)} (hs : schB s = true) (ht : tot.Nodup) (k : Part s tot l nm) : (allm s l).length ≤ p2 s.d.toNat ∧ l.length ≤ p2 s.d.toNat := by
  have h1 : (allm s l).Nodup := (List.nodup_append.1 ((k.perm.nodup_iff).2 ht)).1
  have h2 : (allm s l).length ≤ p2 s.d.toNat := by
    have := List.Nodup.length_le_of_subset (l₂ := (List.range (p2 s.d.toNat)).map fun u : Nat => (u : Int)) h1 fun x hx => by
      have := all_lt hx
      exact List.mem_map.2 ⟨x.toNat, List.mem_range.2 (by omega), by omega⟩
    simpa using this
  exact ⟨h2, Nat.le_trans (allm_ge hs k.sub) h2⟩
theorem opens_length (t : Ts) : t.o.length = t.l.length := opens_len _ _ _
/-- what a round does -/
theorem Tin.round {N : Nat} {b0 : Bo} {tot : List Int} {t : Ts} (hs : schB b0.s = true) (ht : tot.Nodup) (hr : ∀ x ∈ tot, 0 ≤ x ∧ x < 64) (k : Tin N b0 tot t) :
    ((roundN N t).2 = 0 → Tin N b0 tot (roundN N t).1 ∧ (roundN N t).1.pot < t.pot) ∧ Askd b0 (roundN N t).1.b (roundN N t).1.a ∧ (roundN N t).1.a ≤ (2 * p2 b0.s.d.toNat + 1) * ((b0.s.d.toNat + 2) * N) ∧ Part b0.s tot (roundN N t).1.l (roundN N t).1.nm := by
  obtain ⟨hl1, hl2⟩ := len_le hs ht k.part
  have hfit := k.fit
  rw [Nat.succ_mul] at hfit
  have hk : (b0.s.d.toNat + 2) * N = b0.s.d.toNat * N + 2 * N := Nat.add_mul _ _ _
  obtain ⟨j, j1, j2, j3, -⟩ := seenN_run t.o 0 N t.a k.ask
  rcases hs1 : seenN t.o 0 N t.b t.a with ⟨b1, p1, a1⟩
  rw [hs1] at j2 j3
  simp only at j2 j3
  subst j3
  cases p1 with
  | false =>
    rw [round_1 hs1]
    exact ⟨fun h => absurd h (show ¬ (1 : Nat) = 0 by decide), j2, by simp only; omega, k.part⟩
  | true =>
    have hpos : 0 < t.o.length := seenN_pos (k := N) (b := t.b) (n := t.a) (f := 0) (by rw [hs1])
    obtain ⟨q, q1, q2, q3, q4, q5⟩ := searchN_run t.o N t.o.length (i := b0.s.d.toNat) (low := 0) (high := t.o.length) (t.a + j) j2 hpos (by rw [opens_length]; omega)
    rcases hs2 : searchN t.o N t.o.length 0 t.o.length b1 (t.a + j) with ⟨b2, low, a2⟩
    rw [hs2] at q2 q3 q4 q5
    simp only at q2 q3 q4 q5
    subst q3
    obtain ⟨i, i1, i2, i3, -⟩ := seenN_run t.o 0 N (t.a + j + q) q2
    rcases hs3 : seenN t.o 0 N b2 (t.a + j + q) with ⟨b3, p3, a3⟩
    rw [hs3] at i2 i3
    simp only at i2 i3
    subst i3
    cases p3 with
    | false =>
      rw [round_2 hs1 hs2 hs3]
      exact ⟨fun h => absurd h (show ¬ (2 : Nat) = 0 by decide), i2, by simp only; omega, k.part⟩
    | true =>
      rw [round_0 hs1 hs2 hs3]
      obtain ⟨c1, c2, -⟩ := k.part.step hs ht hr (i := low) (by rw [← opens_length]; exact q5)
      have es := k.ask.s
      rw [es]
      refine ⟨fun _ => ⟨⟨i2, c1, ?_⟩, ?_⟩, i2, by simp only; omega, c1⟩
      · simp only [Ts.pot, i2.s]
        simp only [Ts.pot, es] at hfit
        have := Nat.mul_le_mul_right ((b0.s.d.toNat + 2) * N) (show Tr.pot b0.s (taken b0.s t.l low) + 1 ≤ Tr.pot b0.s t.l by omega)
        omega
      · simp only [Ts.pot, i2.s, es]; exact c2
theorem tracedN_0 {N k : Nat} {t : Ts} (h : (roundN N t).2 = 0) : tracedN N (k + 1) t = tracedN N k (roundN N t).1 := by
  rcases hr : roundN N t with ⟨t', e⟩
  rw [hr] at h
  simp only at h
  subst h
  rw [tracedN, hr]
  rfl
theorem tracedN_e {N k : Nat} {t : Ts} (h : (roundN N t).2 ≠ 0) : tracedN N (k + 1) t = roundN N t := by
  rcases hr : roundN N t with ⟨t', e⟩
  rw [hr] at h
  rw [tracedN, hr]
  match e, h with
  | e + 1, _ => rfl
theorem tracedN_fuel {N : Nat} {b0 : Bo} {tot : List Int} (hs : schB b0.s = true) (ht : tot.Nodup) (hr : ∀ x ∈ tot, 0 ≤ x ∧ x < 64) : ∀ {k j : Nat} {t : Ts}, Tin N b0 tot t → t.pot < k → t.pot < j → tracedN N k t = tracedN N j t
  | 0, j, t, _, h, _ => by omega
  | k + 1, 0, t, _, _, h => by omega
  | k + 1, j + 1, t, hi, h1, h2 => by
    by_cases h : (roundN N t).2 = 0
    · obtain ⟨h3, h4⟩ := (hi.round hs ht hr).1 h
      rw [tracedN_0 h, tracedN_0 h]
      exact tracedN_fuel hs ht hr h3 (by omega) (by omega)
    · rw [tracedN_e h, tracedN_e h]
theorem traced_0 {N : Nat} {b0 : Bo} {tot : List Int} {t : Ts} (hs : schB b0.s = true) (ht : tot.Nodup) (hr : ∀ x ∈ tot, 0 ≤ x ∧ x < 64) (hi : Tin N b0 tot t) (h : (roundN N t).2 = 0) : traced N t = traced N (roundN N t).1 := by
  obtain ⟨h3, h4⟩ := (hi.round hs ht hr).1 h
  rw [traced, traced, tracedN_0 h]
  exact tracedN_fuel hs ht hr h3 (by omega) (by omega)
theorem traced_e {N : Nat} {t : Ts} (h : (roundN N t).2 ≠ 0) : traced N t = roundN N t := tracedN_e h
/-- the error of a partition -/
def partsE (s : Sc) (l : List (Int × Int)) : Int := if chk s ≠ 0 then chk s else if subsE s l ≠ 0 then subsE s l else if (allm s l).Nodup then 0 else 81
theorem parts_s {s : Sc} {l : List (Int × Int)} (h : chk s ≠ 0) : partsE s l = chk s := if_pos h
theorem parts_l {s : Sc} {l : List (Int × Int)} (h : ¬ chk s ≠ 0) (h2 : subsE s l ≠ 0) : partsE s l = subsE s l := by rw [partsE, if_neg h, if_pos h2]
theorem parts_n {s : Sc} {l : List (Int × Int)} (h : ¬ chk s ≠ 0) (h2 : ¬ subsE s l ≠ 0) (h3 : ¬ (allm s l).Nodup) : partsE s l = 81 := by rw [partsE, if_neg h, if_neg h2, if_neg h3]
theorem parts_y {s : Sc} {l : List (Int × Int)} (h : ¬ chk s ≠ 0) (h2 : ¬ subsE s l ≠ 0) (h3 : (allm s l).Nodup) : partsE s l = 0 := by rw [partsE, if_neg h, if_neg h2, if_pos h3]
theorem parts_ok {s : Sc} {l : List (Int × Int)} (h : ¬ partsE s l ≠ 0) : schB s = true ∧ subsE s l = 0 ∧ (allm s l).Nodup := by
  by_cases h1 : chk s ≠ 0
  · rw [parts_s h1] at h; exact absurd h1 h
  · by_cases h2 : subsE s l ≠ 0
    · rw [parts_l h1 h2] at h; exact absurd h2 h
    · by_cases h3 : (allm s l).Nodup
      · exact ⟨chk_zero h1, by omega, h3⟩
      · rw [parts_n h1 h2 h3] at h; exact absurd (by decide) h
/-- the error of a trace, and what it finds -/
def traceE (b : Bo) (l : List (Int × Int)) (noise : Int) : Int :=
  if chkB b ≠ 0 then chkB b else if partsE b.s l ≠ 0 then partsE b.s l else if ¬ (0 ≤ noise ∧ noise ≤ 8) then 2 else if 100000 < b.a + lim b.s.d noise then 9 else 0
def traceT (b : Bo) (l : List (Int × Int)) (noise : Int) : Ts × Nat := if traceE b l noise = 0 then traced (2 * noise.toNat + 1) ⟨b, l, [], 0⟩ else (⟨noBo, [], [], 0⟩, 0)
theorem trE_b {b : Bo} {l : List (Int × Int)} {n : Int} (h : chkB b ≠ 0) : traceE b l n = chkB b := if_pos h
theorem trE_p {b : Bo} {l : List (Int × Int)} {n : Int} (h : ¬ chkB b ≠ 0) (h2 : partsE b.s l ≠ 0) : traceE b l n = partsE b.s l := by rw [traceE, if_neg h, if_pos h2]
theorem trE_n {b : Bo} {l : List (Int × Int)} {n : Int} (h : ¬ chkB b ≠ 0) (h2 : ¬ partsE b.s l ≠ 0) (h3 : ¬ (0 ≤ n ∧ n ≤ 8)) : traceE b l n = 2 := by rw [traceE, if_neg h, if_neg h2, if_pos h3]
theorem trE_f {b : Bo} {l : List (Int × Int)} {n : Int} (h : ¬ chkB b ≠ 0) (h2 : ¬ partsE b.s l ≠ 0) (h3 : 0 ≤ n ∧ n ≤ 8) (h4 : 100000 < b.a + lim b.s.d n) : traceE b l n = 9 := by rw [traceE, if_neg h, if_neg h2, if_neg (by simpa using h3), if_pos h4]
theorem trE_0 {b : Bo} {l : List (Int × Int)} {n : Int} (h : ¬ chkB b ≠ 0) (h2 : ¬ partsE b.s l ≠ 0) (h3 : 0 ≤ n ∧ n ≤ 8) (h4 : ¬ 100000 < b.a + lim b.s.d n) : traceE b l n = 0 := by rw [traceE, if_neg h, if_neg h2, if_neg (by simpa using h3), if_neg h4]
theorem lim_nat {d n : Int} (h0 : 0 ≤ d) (n0 : 0 ≤ n) : lim d n = (((2 * p2 d.toNat + 1) * ((d.toNat + 2) * (2 * n.toNat + 1)) : Nat) : Int) := by
  obtain ⟨d', rfl⟩ : ∃ k : Nat, d = k := ⟨d.toNat, by omega⟩
  obtain ⟨n', rfl⟩ : ∃ k : Nat, n = k := ⟨n.toNat, by omega⟩
  rw [lim, Int.toNat_natCast, Int.toNat_natCast, ← Nat.mul_assoc]
  push_cast
  rfl
theorem Tin.first {b : Bo} {l : List (Int × Int)} {N : Nat} (hs : schB b.s = true) (h0 : 0 ≤ b.x) (h1 : b.x ≤ b.a) (hl : ∀ i, i < l.length → subB b.s (qn l i) (qm l i) = true) (hn : (allm b.s l).Nodup) : Tin N b (allm b.s l) ⟨b, l, [], 0⟩ := by
  have hp : Part b.s (allm b.s l) l [] := ⟨fun x hx => by
    obtain ⟨i, hi, e⟩ := q_mem.1 hx
    rw [e]; exact hl i hi, by rw [List.append_nil]⟩
  refine ⟨Askd.refl h0 h1, hp, ?_⟩
  obtain ⟨h2, h3⟩ := len_le hs hn hp
  simp only [Nat.zero_add]
  exact Nat.mul_le_mul_right _ (by simp only [Ts.pot, pot]; omega)
end Go.Proofs.YtoegpalacppllaaGreat.Tr

/- Partitions: receivers that are in two subsets; lists in which neighbours are equal. No program is in sight here. -/
namespace Go.Proofs.YtoegpalacppllaaGreat.Tr
open Hn

/-- a list in order is made shorter just if it has something twice -/
theorem compact_lt {l : List Int} (hs : l.Pairwise (fun x y => x ≤ y)) : (Lib.compact l).length < l.length ↔ ¬ l.Nodup := by
  constructor
  · intro h hn
    rw [Lib.compact_all l fun j hj => ?_] at h
    · omega
    · cases j with
      | zero => exact Lib.keeps_lt_one _ 0 (by omega)
      | succ j =>
        refine Lib.keeps_pos ?_
        have h2 := List.pairwise_iff_getElem.1 hn j (j + 1) (by omega) hj (by omega)
        simp only [Nat.add_sub_cancel]
        rw [getElem!_pos _ (j + 1) (by simpa using hj), getElem!_pos _ j (by simp; omega)]
        simpa using h2.symm
  · intro hn
    have hle := Lib.compact_length_le l
    apply Classical.byContradiction
    intro hlt
    have he : (Lib.compact l).length = l.length := by omega
    apply hn
    unfold Lib.compact Lib.compactUpTo at he
    rw [List.length_map] at he
    have hall : ∀ j ∈ List.range l.length, Lib.keeps l.toArray j = true := List.length_filter_eq_length_iff.1 (by rw [he, List.length_range])
    refine List.pairwise_iff_getElem.2 fun i j hi hj hij => ?_
    have h1 := hall j (List.mem_range.2 hj)
    rw [Lib.keeps, decide_eq_true_eq] at h1
    have h2 := h1.resolve_left (by omega)
    rw [getElem!_pos _ j (by simpa using hj), getElem!_pos _ (j - 1) (by simp; omega)] at h2
    have h3 : l[i] ≤ l[j - 1] := by
      rcases Nat.lt_or_ge i (j - 1) with h | h
      · exact List.pairwise_iff_getElem.1 hs i (j - 1) hi (by omega) h
      · obtain rfl : i = j - 1 := by omega
        exact Int.le_refl _
    have h4 : l[j - 1] ≤ l[j] := List.pairwise_iff_getElem.1 hs (j - 1) j (by omega) hj (by omega)
    simp only [List.getElem_toArray] at h2
    omega
theorem compact_sort {l : List Int} : (Lib.compact (sortI l)).length < l.length ↔ ¬ l.Nodup := by
  have := compact_lt (sortI_le l)
  rw [sortI_len] at this
  rw [this, (sortI_perm l).nodup_iff]
end Go.Proofs.YtoegpalacppllaaGreat.Tr

/- Making numbers in memory of one's own shorter; copies of lists of subsets. No function of the program is in sight here. -/
namespace Go.Proofs.YtoegpalacppllaaGreat
open Go.RowKit Go.Sort Pl Tr Hn

/-- what slices.Compact does -/
structure CompI (P : Program) (f : FuncId) : Prop where
  some : ∀ (blk off cap : Nat) (zs : List Int) (w : World), Holds (Value.int .i64) w blk off zs.toArray → zs.length ≤ 9223372036854775807 → zs.length ≤ cap →
    Calls P f #[.slice (some ⟨blk, off, none⟩) zs.length cap] w fun e w' => e = .returned (.slice (some ⟨blk, off, none⟩) (Lib.compact zs).length cap) ∧ ∃ q, w' = putRow (Value.int .i64) (Sort.ahead w q) blk off (Lib.compact zs ++ List.replicate (zs.length - (Lib.compact zs).length) 0).toArray
  none : ∀ (a : Option Addr) (cap : Nat) (w : World), Calls P f #[.slice a 0 cap] w fun e w' => e = .returned (.slice a 0 cap) ∧ w' = w
theorem compact_nil : Lib.compact ([] : List Int) = [] := List.eq_nil_of_length_eq_zero (Nat.le_zero.1 (Lib.compact_length_le []))

section
variable {P : Program} {ops : Array Oper} {Q : Exit → Act → World → Prop} {bs : List Value} {us : List (Nat × Value)} {ds : List Deferred} {w0 : Base} {W W' : World} {rest : List Oper} {o : Oper} {L Bs : List Blk} {d : Nat} {v : Value} {r : Option (Option Nat)} {m : Nat}
theorem grownBy_put {w : World} {g n k : Nat} (d : Array Int) : w.grownBy (putRow (Value.int .i64) (Sort.ahead w n) g k d) (some g) := by
  refine ⟨rfl, rfl, rfl, by simp [putRow, mapBlock, Sort.ahead], fun j hj hne => ?_⟩
  have : g ≠ j := fun e => hne (by rw [e])
  simp [putRow, mapBlock, Sort.ahead, Array.getElem?_modify, this]
theorem heap_put {w : World} {g n k : Nat} {cur : Array Value} {e : TypeId} {fr : Nat × Nat} (d : Array Int) (hb : w.heap[g]? = some (.cells cur e fr)) :
    (putRow (Value.int .i64) (Sort.ahead w n) g k d).heap[g]? = some (.cells (putCells (Value.int .i64) k d cur) e fr) := by
  simp [putRow, mapBlock, Sort.ahead, Array.getElem?_modify, hb, onCells]
theorem compact_own {f : FuncId} (hC : CompI P f) {s : Sl} {l : List Int} (hN : NewI s l Bs) (hW : Cl w0 (L ++ Bs) W) (hl : l.length ≤ 4294967296) :
    Calls P f #[s.v] W fun e' w' => e' = .returned (.slice s.a (Lib.compact l).length s.c) ∧ Cl w0 L w' := by
  have hr := hN.rep.at hW (List.sublist_append_right L Bs)
  have hn := hN.n
  obtain ⟨a, n, c⟩ := s
  simp only at hn
  subst hn
  by_cases h0 : l.length = 0
  · obtain rfl : l = [] := List.eq_nil_of_length_eq_zero h0
    refine (hC.none a c W).mono ?_
    rintro e' w' ⟨rfl, rfl⟩
    rw [compact_nil]
    exact ⟨rfl, hW.sub (List.sublist_append_left L Bs)⟩
  · rcases hN.mem with h1 | ⟨x, hx, i, ha, hi⟩
    · exact absurd h1 h0
    · obtain ⟨b, k, hb, hc⟩ := hr.ptr (by omega)
      simp only at ha hb hi
      subst ha
      simp only [Option.some.injEq, Addr.mk.injEq, and_true] at hb
      obtain ⟨rfl, rfl⟩ := hb
      have hg : W.heap[x.id]? = some (.cells x.cs.toArray x.ty (0, 0)) := hW.holds x (List.mem_append_right _ hx)
      have hH : Holds (Value.int .i64) W x.id i l.toArray := by
        intro j hj
        have hj' : j < l.length := by simpa using hj
        refine ⟨?_, by simp [World.frozen?, hg]⟩
        rw [hc j hj']
        simp [hj']
      refine (hC.some x.id i c l W hH (by omega) hr.cap).mono ?_
      rintro e' w' ⟨rfl, q, rfl⟩
      obtain ⟨A, B, rfl⟩ := List.append_of_mem hx
      have hW1 : Cl w0 (⟨x.id, x.cs, x.ty⟩ :: L) W := by
        have hp : (L ++ (A ++ x :: B)).Perm ((x :: L) ++ (A ++ B)) := by
          refine (List.perm_middle (a := x) (l₁ := L ++ A) (l₂ := B) |>.symm.symm |> fun h => ?_)
          rw [← List.append_assoc]
          refine h.trans ?_
          rw [List.cons_append, List.append_assoc]
        exact (hW.perm hp).sub (List.sublist_append_left _ _)
      refine ⟨rfl, (Cl.regrown (cs := (putCells (Value.int .i64) i (Lib.compact l ++ List.replicate (l.length - (Lib.compact l).length) 0).toArray x.cs.toArray).toList) hW1 (grownBy_put (n := q) (k := i) _) (by simpa using heap_put (n := q) (k := i) _ hg)).drop 1⟩
theorem l_compact {f : FuncId} (hC : CompI P f) {s : Sl} {l : List Int} {x : Operand} {ts : Array TypeId} (hN : NewI s l Bs) (hW : Cl w0 (L ++ Bs) W) (hl : l.length ≤ 4294967296) (he : Enters P f) (hg : o.guard = none) (ho : o.op = .call { callee := .value (.func f), args := #[x], argTypes := ts }) (hx : ev bs us x = s.v) (hd : o.dst = some d)
    (h : ∀ W', Cl w0 L W' → LW r m P ops Q rest (fr bs ((d, .slice s.a (Lib.compact l).length s.c) :: us) ds) W') : LW r m P ops Q (o :: rest) (fr bs us ds) W :=
  LW.call (wanted_none hg) (by rw [eval_ev]; exact run_call (args := [s.v]) he ho (by simp [hx]) W) ((compact_own hC hN hW hl).mono fun _ w ⟨he, hc⟩ => ⟨_, he, by show LW r m P ops Q rest ((fr bs us ds).put o.dst _) w; rw [hd, put_st]; exact h w hc⟩)
/-- subsets in memory of one's own -/
theorem OwnSl.repB {e : TypeId} {a : Option Addr} {n c : Nat} {l : List (Int × Int)} {Bs : List Blk} (hO : OwnSl e 2 a n c (sl2 l) Bs) : Rep Bs fun W => RdB W ⟨a, n, c⟩ l := fun b W hW => by
  have hn : n = l.length := by have := hO.1; rw [sl2_len] at this; omega
  refine ⟨⟨?_, fun h => (hO.nilOf h).2⟩, hn, OwnSl.rdS (L := []) hO (by simpa using hW)⟩
  rcases hO.2 with ⟨_, h1, h2, _⟩ | ⟨g, cur, _, _, h1, _⟩
  · simp [h1]
  · exact h1
theorem sl2_drop : ∀ (l : List (Int × Int)) (i : Nat), (sl2 l).drop (i * 2) = sl2 (l.drop i)
  | l, 0 => by simp
  | [], i + 1 => by simp [sl2]
  | x :: l, i + 1 => by rw [show (i + 1) * 2 = i * 2 + 1 + 1 by omega]; simp [sl2, sl2_drop l i]
theorem sl2_take : ∀ (l : List (Int × Int)) (i : Nat), (sl2 l).take (i * 2) = sl2 (l.take i)
  | l, 0 => by simp [sl2]
  | [], i + 1 => by simp [sl2]
  | x :: l, i + 1 => by rw [show (i + 1) * 2 = i * 2 + 1 + 1 by omega]; simp [sl2, sl2_take l i]
end
end Go.Proofs.YtoegpalacppllaaGreat

/- Members and lists of subsets, by the reference. -/
namespace Go.Proofs.YtoegpalacppllaaGreat
open Go.RowKit Pl
open Tr Hn
theorem sameB_no {l m : List (Int × Int)} {i : Nat} (h : ¬ (qn l i = qn m i ∧ qm l i = qm m i)) : decide (l = m) = false := decide_eq_false fun e => h (by rw [e]; exact ⟨rfl, rfl⟩)
theorem sameB_len {l m : List (Int × Int)} (h : l.length ≠ m.length) : decide (l = m) = false := decide_eq_false fun e => h (by rw [e])
theorem sameB_yes {l m : List (Int × Int)} (hl : l.length = m.length) (h : ∀ k, k < l.length → qn l k = qn m k ∧ qm l k = qm m k) : decide (l = m) = true := by
 refine decide_eq_true (List.ext_getElem hl fun i h1 h2 => ?_)
 obtain ⟨e1, e2⟩ := h i h1
 simp only [qn, qm, List.getD_eq_getElem?_getD, h1, h2, List.getElem?_eq_getElem, Option.getD_some] at e1 e2
 exact Prod.ext e1 e2
set_option maxRecDepth 10000 in
/-- headend/headendref03.SameSubsets -/
theorem g_rSameSubsets (aa : Option Addr) (an ac : Nat) (l : List (Int × Int)) (ba : Option Addr) (bn bc : Nat) (m : List (Int × Int)) (hl : l.length ≤ 4294967296) : GivesR Tryz.prog 27 [.slice aa an ac, .slice ba bn bc].toArray (fun w => RdB w ⟨aa, an, ac⟩ l ∧ RdB w ⟨ba, bn, bc⟩ m) (.bool (decide (l = m))) := by
 refine givesR_of Tryz.func27 rfl (bs := [.slice aa an ac, .slice ba bn bc, undef, undef, undef, undef, undef, undef, undef, undef, undef, undef, undef, undef, undef, undef, undef, undef, undef, undef, undef, undef, undef, undef, undef, undef]) rfl ?_
 intro w hP hW
 have hn : an = l.length := hP.1.len
 have hm : bn = m.length := hP.2.len
 refine c_seq (c_reg ?_)
 refine bB ?_
 refine l_end (n_then (c_seq (c_seq (c_reg ?_))))
 refine aS ?_
 refine l_val (r_lenSlice Tryz.underlying33 rfl rfl) rfl rfl ?_
 refine aS ?_
 refine l_val (r_lenSlice Tryz.underlying33 rfl rfl) rfl rfl ?_
 refine l_val (r_neqN rfl rfl rfl rfl) rfl rfl ?_
 refine l_split ?_ ?_
 ·intro hc1
  replace hc1 := of_decide_eq_true hc1
  refine l_end (n_then ?_)
  refine c_true rfl ?_
  refine c_seq (c_reg ?_)
  refine bB ?_
  refine l_end (n_then (c_ret (r_then ?_)))
  refine ret_tmp (v := .bool (decide (l = m))) rfl ?_ ⟨rfl, hW.below⟩
  rw [sameB_len (by omega)]; rfl
 ·intro hc1
  replace hc1 := of_decide_eq_false hc1
  refine l_end (n_then ?_)
  refine c_false rfl ?_
  refine c_skip (n_then (c_seq (c_seq (c_reg ?_))))
  refine bI ?_
  refine l_end (n_then (c_block ?_))
  refine c_loop (fun (i : Nat) (j : Nat → Value) => [.slice aa an ac, .slice ba bn bc, j 2, j 3, j 4, .int .i64 (i : Int), .slice aa an ac, j 7, .slice ba bn bc, j 9, .bool false, j 11, j 12, j 13, j 14, j 15, j 16, j 17, j 18, j 19, j 20, j 21, j 22, j 23, j 24, j 25]) (fun (i : Nat) => []) (fun (i : Nat) => i ≤ an ∧ ∀ k, k < i → qn l k = qn m k ∧ qm l k = qm m k) (fun (i : Nat) => an - i) 0 (by kernel_rfl) hW ⟨by omega, all_zero⟩ ?_
  intro i j W hx hW
  refine c_seq (c_seq (c_reg ?_))
  refine aI ?_
  refine aS ?_
  refine l_val (r_lenSlice Tryz.underlying33 rfl rfl) rfl rfl ?_
  refine l_val (r_lssN rfl rfl rfl rfl) rfl rfl ?_
  refine l_split ?_ ?_
  ·intro hc2
   replace hc2 := of_decide_eq_true hc2
   obtain ⟨b0, o0, ha, hc⟩ := hP.1.ptr (by omega)
   simp only at ha
   subst ha
   obtain ⟨b1, o1, ha, hd⟩ := hP.2.ptr (by omega)
   simp only at ha
   subst ha
   refine l_end (n_then ?_)
   refine c_true rfl ?_
   refine c_skip (n_then (c_seq (c_block (c_seq ?_))))
   refine c_regY hW [] [.q, .q, .q, .q, .q, .q, .q, .q, .q] [0, 0, 3, 7, 0, 0, 48, 112, 255] (by kernel_rfl) (by kernel_rfl) ?_
   refine yS ?_
   refine yI ?_
   refine y_val (r_indexAddrSlB (n := i) Tryz.underlying33 tyA64.size rfl rfl rfl (by omega)) rfl rfl ?_
   refine y_loadF2 tyA64 (hc i (by omega)).1 (hc i (by omega)).2 (by kernel_rfl) rfl rfl rfl ?_
   refine yS ?_
   refine yI ?_
   refine y_val (r_indexAddrSlB (n := i) Tryz.underlying33 tyA64.size rfl rfl rfl (by omega)) rfl rfl ?_
   refine y_loadF2 tyA64 (hd i (by omega)).1 (hd i (by omega)).2 (by kernel_rfl) rfl rfl rfl ?_
   refine y_val (r_neqS gd64 (eqS64 _ _ _ _) rfl rfl rfl rfl) rfl rfl ?_
   refine y_split ?_ ?_
   ·intro hc3
    replace hc3 := of_decide_eq_true hc3
    refine y_end ?_
    intro W hW
    refine n_then ?_
    refine c_true rfl ?_
    refine c_seq (c_reg ?_)
    refine bB ?_
    refine l_end (n_then (c_ret (r_block (r_then (r_then (r_block (r_then ?_)))))))
    refine ret_tmp (v := .bool (decide (l = m))) rfl ?_ ⟨rfl, hW.below⟩
    rw [sameB_no hc3]; rfl
   ·intro hc3
    replace hc3 := of_decide_eq_false hc3
    refine y_end ?_
    intro W hW
    refine n_then ?_
    refine c_false rfl ?_
    refine c_skip (n_block (n_then (c_reg ?_)))
    refine aI ?_
    refine l_val (r_addN (n := 1) rfl rfl rfl (by omega)) rfl rfl ?_
    refine bI ?_
    refine l_end (n_then ?_)
    exact loop_next (i + 1) (by kernel_rfl) hW ⟨by omega, all_upto hx.2 (Classical.not_not.1 hc3)⟩ (by omega)
  ·intro hc2
   replace hc2 := of_decide_eq_false hc2
   refine l_end (n_then ?_)
   refine c_false rfl ?_
   refine c_exit (x_then (x_then ?_))
   refine x_hit ?_
   refine n_then (c_seq (c_reg ?_))
   refine bB ?_
   refine l_end (n_then (c_ret ?_))
   refine ret_tmp (v := .bool (decide (l = m))) rfl ?_ ⟨rfl, hW.below⟩
   rw [sameB_yes (by omega) fun k hk => hx.2 k (by omega)]; rfl

end Go.Proofs.YtoegpalacppllaaGreat

/- Splits, by the reference. -/
namespace Go.Proofs.YtoegpalacppllaaGreat
open Go.RowKit Pl
open Tr Hn
theorem split_k1 {s : Sc} {v : Nat} {w : Int} (hk : s.k = 1) : splitV s v w = [(((2 * v : Nat) : Int), 0), (((2 * v + 1 : Nat) : Int), 0)] := by rw [splitV, if_pos hk]; push_cast; rfl
theorem split_w0 {s : Sc} {v : Int} (hk : s.k ≠ 1) : splitV s v 0 = [(1, 2), (1, 3)] := by rw [splitV, if_neg hk, if_pos rfl]
theorem split_s {s : Sc} {v x : Nat} (hk : s.k ≠ 1) (hx : x ≠ 0) (hc : sh x (lev x - lev v - 1) = x) : splitV s v x = [(((sib (sh x (lev x - lev v - 1)) : Nat) : Int), ((2 * sib (sh x (lev x - lev v - 1)) : Nat) : Int)), (((sib (sh x (lev x - lev v - 1)) : Nat) : Int), ((2 * sib (sh x (lev x - lev v - 1)) + 1 : Nat) : Int))] := by
 rw [splitV, if_neg hk, if_neg (by omega), Int.toNat_natCast, Int.toNat_natCast, if_pos hc, hc]; push_cast; rfl
theorem split_c {s : Sc} {v x : Nat} (hk : s.k ≠ 1) (hx : x ≠ 0) (hc : ¬ sh x (lev x - lev v - 1) = x) (h : subB s ((sh x (lev x - lev v - 1) : Nat) : Int) x = true) : splitV s v x = [((v : Int), ((sh x (lev x - lev v - 1) : Nat) : Int)), (((sh x (lev x - lev v - 1) : Nat) : Int), (x : Int))] := by
 rw [splitV, if_neg hk, if_neg (by omega), Int.toNat_natCast, Int.toNat_natCast, if_neg hc, if_pos h]
theorem split_b {s : Sc} {v x : Nat} (hk : s.k ≠ 1) (hx : x ≠ 0) (hc : ¬ sh x (lev x - lev v - 1) = x) (h : subB s ((sh x (lev x - lev v - 1) : Nat) : Int) x = false) : splitV s v x = [((v : Int), ((bet s.d x (lev x - lev v - 1) : Nat) : Int)), (((bet s.d x (lev x - lev v - 1) : Nat) : Int), (x : Int))] := by
 rw [splitV, if_neg hk, if_neg (by omega), Int.toNat_natCast, Int.toNat_natCast, if_neg hc, if_neg (by rw [h]; decide)]
end Go.Proofs.YtoegpalacppllaaGreat

/- New hunts and merged lists, by the reference. -/
namespace Go.Proofs.YtoegpalacppllaaGreat
open Go.RowKit Pl
open Tr Hn
set_option maxRecDepth 10000 in
/-- headend/trace.NewHunt -/
theorem g_NewHunt (u : Int) : GivesX Tryz.prog 28 [.int .i64 u].toArray (fun _ => True) (fun v Bs => ∃ a : Value, v = .tuple #[a, .int .i64 (newE u)] ∧ huX (newH u) a Bs) := by
 refine givesX_of Tryz.func28 rfl (bs := [.int .i64 u, undef, undef, undef, undef, undef, undef, undef, undef, undef, undef, undef, undef, undef, undef, undef, undef, undef, undef, undef, undef, undef, undef, undef, undef, undef, undef]) rfl ?_
 intro w hP hW
 refine c_seq (c_reg ?_)
 refine l_alloc hW tyZ69 rfl rfl rfl ?_
 intro g1 W hW
 refine bI ?_
 refine l_end (n_then (c_seq (c_seq (c_reg ?_))))
 refine aI ?_
 refine l_val (r_lss rfl rfl rfl rfl) rfl rfl ?_
 refine l_split ?_ ?_
 ·intro hc1
  replace hc1 := of_decide_eq_true hc1
  refine aB ?_
  refine lN ?_
  refine lN ?_
  refine kB ?_
  refine l_end (n_then ?_)
  refine c_true rfl ?_
  refine c_seq (c_reg ?_)
  refine l_val (r_build (ps := []) (bld69_) rfl rfl) rfl rfl ?_
  refine sA hW 0 tyA69 ?_
  intro W hW
  refine bI ?_
  refine l_end (n_then (c_ret (r_then ?_)))
  refine rT hW 0 tyA69 ?_
  exact ⟨_, [], rfl, ⟨.agg (huC noHunt Sl.no Sl.no Sl.no).toArray, by rw [newE, if_neg (by omega)]; rfl, by rw [newH, if_neg (by omega)]; exact ⟨_, _, _, _, rfl, no_newHu⟩⟩, hW.sub (List.nil_sublist _)⟩
 ·intro hc1
  replace hc1 := of_decide_eq_false hc1
  refine aB ?_
  refine gI ?_
  refine l_valG (r_gtr rfl rfl rfl rfl) (by kernel_rfl) rfl ?_
  refine l_split ?_ ?_
  ·intro hc2
   replace hc2 := of_decide_eq_true hc2
   refine kB ?_
   refine l_end (n_then ?_)
   refine c_true rfl ?_
   refine c_seq (c_reg ?_)
   refine l_val (r_build (ps := []) (bld69_) rfl rfl) rfl rfl ?_
   refine sA hW 0 tyA69 ?_
   intro W hW
   refine bI ?_
   refine l_end (n_then (c_ret (r_then ?_)))
   refine rT hW 0 tyA69 ?_
   exact ⟨_, [], rfl, ⟨.agg (huC noHunt Sl.no Sl.no Sl.no).toArray, by rw [newE, if_neg (by omega)]; rfl, by rw [newH, if_neg (by omega)]; exact ⟨_, _, _, _, rfl, no_newHu⟩⟩, hW.sub (List.nil_sublist _)⟩
  ·intro hc2
   replace hc2 := of_decide_eq_false hc2
   refine kB ?_
   refine l_end (n_then ?_)
   refine c_false rfl ?_
   refine c_skip (n_then (c_seq (c_reg ?_)))
   refine aI ?_
   refine l_val (r_build (ps := [(0, .int _ _)]) (bld69_0 _) rfl rfl) rfl rfl ?_
   refine l_alloc hW tyZ69 rfl rfl rfl ?_
   intro g2 W hW
   refine sA hW 0 tyA69 ?_
   intro W hW
   refine l_end (n_then (c_seq (c_seq (c_reg ?_))))
   refine aI ?_
   refine aI ?_
   refine l_end (n_then (c_block ?_))
   refine c_loop (fun (x : Nat × Option Addr × Nat × List Blk) (j : Nat → Value) => [.int .i64 u, j 1, .pointer (some ⟨g1, 0, none⟩), .int .i64 0, .pointer (some ⟨g2, 0, none⟩), j 5, .int .i64 u, .bool false, .bool false, .int .i64 u, .bool false, .bool false, j 12, .int .i64 u, .agg ([.int .i64 u, .slice none 0 0, .slice none 0 0, .slice none 0 0, .int .i64 0]).toArray, .int .i64 u, .int .i64 (x.1 : Int), j 17, j 18, j 19, j 20, j 21, j 22, j 23, j 24, j 25, j 26]) (fun (x : Nat × Option Addr × Nat × List Blk) => [⟨g2, [.int .i64 u, .slice none 0 0, .slice x.2.1 x.1 x.2.2.1, .slice none 0 0, .int .i64 0], 69⟩, ⟨g1, z69, 69⟩] ++ x.2.2.2) (fun (x : Nat × Option Addr × Nat × List Blk) => (x.1 : Int) ≤ u ∧ OwnSl 3 1 x.2.1 x.1 x.2.2.1 (il (rangeI x.1)) x.2.2.2) (fun (x : Nat × Option Addr × Nat × List Blk) => u.toNat - x.1) (0, none, 0, []) (by kernel_rfl) hW ⟨by omega, OwnSl.nil 3 1⟩ ?_
   intro x j W hx hW
   obtain ⟨hx, hO⟩ := hx
   refine c_seq (c_reg ?_)
   refine l_val (r_lss rfl rfl rfl rfl) rfl rfl ?_
   refine l_split ?_ ?_
   ·intro hc3
    replace hc3 := of_decide_eq_true hc3
    refine l_end (n_then (c_seq ?_))
    refine c_true rfl ?_
    refine c_skip (n_then (c_seq (c_block (c_seq (c_reg ?_)))))
    refine aI ?_
    refine bI ?_
    refine l_end (n_then (c_reg ?_))
    refine l_val (r_fieldAddr 2 Tryz.underlying69 rfl tyC27.size rfl rfl rfl) rfl rfl ?_
    refine dC hW 0 tyC27 ?_
    refine aI ?_
    refine l_buildSliceF hW (bsl27_1_0 _) rfl rfl rfl rfl ?_
    intro gb W hW
    refine l_appendB tyE27 (L := [_, _, _]) hO hW 0 (N := x.1 + 1) rfl rfl rfl rfl rfl rfl rfl rfl (by simp [Value.oneCell']) (by unfold maxLen; omega) (by omega) ?_
    intro a1 c1 Bs1 W hO1 hW
    replace hO1 := hO1.castx rfl (xs' := il (rangeI (x.1 + 1))) (by rw [rangeI_succ, il_append]; rfl)
    refine l_val (r_fieldAddr 2 Tryz.underlying69 rfl tyC27.size rfl rfl rfl) rfl rfl ?_
    refine l_storeC hW 1 tyC27 (v := .slice _ _ _) rfl rfl rfl rfl rfl rfl (by first | rfl | omega | (simp; done) | (simp; omega)) rfl ?_
    intro W hW
    refine l_end (n_block (n_then (c_reg ?_)))
    refine l_val (r_addN (n := 1) rfl rfl rfl (by omega)) rfl rfl ?_
    refine aI ?_
    refine l_end (n_then ?_)
    exact loop_next (x.1 + 1, a1, c1, Bs1) (by kernel_rfl) (hW.drop 1) ⟨by simp only; omega, hO1⟩ (by simp only; omega)
   ·intro hc3
    replace hc3 := of_decide_eq_false hc3
    have e : x.1 = u.toNat := by omega
    have hr : rangeI x.1 = rangeI u.toNat := by rw [e]
    rw [hr] at hO
    refine l_end (n_then (c_seq ?_))
    refine c_false rfl ?_
    refine c_exit (x_then (x_then ?_))
    refine x_hit ?_
    refine n_then (c_seq (c_reg ?_))
    refine dA hW 0 tyA69 ?_
    refine sA hW 1 tyA69 ?_
    intro W hW
    refine bI ?_
    refine l_end (n_then (c_ret ?_))
    refine rT hW 1 tyA69 ?_
    exact ⟨_, _, rfl, ⟨.agg (huC ⟨u, [], rangeI u.toNat, [], 0⟩ Sl.no ⟨x.2.1, x.1, x.2.2.1⟩ Sl.no).toArray, by rw [newE, if_pos (by omega)]; rfl, by rw [newH, if_pos (by omega)]; exact ⟨_, _, _, _, rfl, rest_newHu hO.newI⟩⟩, (show Cl _ ([_, _] ++ x.2.2.2) _ from hW).sub (List.sublist_append_right _ _)⟩

end Go.Proofs.YtoegpalacppllaaGreat

/- Taking a subset out of a partition, step by step; findings in memory. No function of the program is in sight here. -/
namespace Go.Proofs.YtoegpalacppllaaGreat.Tr
open Hn
/-- what is put in a subset's place -/
def midT (s : Sc) (l : List (Int × Int)) (i : Nat) : List (Int × Int) := if (membersN s (qn l i) (qm l i) (p2 s.d.toNat)).length = 1 then [] else splitV s (qn l i) (qm l i)
theorem taken_mid (s : Sc) (l : List (Int × Int)) (i : Nat) : taken s l i = l.take i ++ (midT s l i ++ l.drop (i + 1)) := rfl
theorem mid_one {s : Sc} {l : List (Int × Int)} {i : Nat} (h : (membersN s (qn l i) (qm l i) (p2 s.d.toNat)).length = 1) : midT s l i = [] := if_pos h
theorem mid_two {s : Sc} {l : List (Int × Int)} {i : Nat} (h : (membersN s (qn l i) (qm l i) (p2 s.d.toNat)).length ≠ 1) : midT s l i = splitV s (qn l i) (qm l i) := if_neg h
end Go.Proofs.YtoegpalacppllaaGreat.Tr
namespace Go.Proofs.YtoegpalacppllaaGreat
open Go.RowKit Pl Tr Hn
/-- some of the blocks -/
theorem Cl.pick {b : Base} {W : World} {L L' : List Blk} (R : List Blk) (h : Cl b L W) (hp : L.Perm (L' ++ R)) : Cl b L' W := (h.perm hp).sub (List.sublist_append_left L' R)
/-- a finding, as cells -/
abbrev fiC (n l : Sl) (a : Nat) (e : Nat) : List Value := [.slice n.a n.n n.c, .slice l.a l.n l.c, .int .i64 (a : Int), .int .u8 (e : Int)]
/-- what follows the box in a tracer -/
abbrev trR (nn : Nat) (n l : Sl) (a e : Nat) : List Value := [.int .i64 (nn : Int), .slice n.a n.n n.c, .slice l.a l.n l.c, .int .i64 (a : Int), .int .u8 (e : Int)]
theorem trR_len {b : Bo} {t : Sl} {nn : Nat} {n l : Sl} {a e k : Nat} (h : k < 33) : k < (boC b t ++ trR nn n l a e).length := by rw [List.length_append, boC_len]; exact h
end Go.Proofs.YtoegpalacppllaaGreat

/- A trace at work, in memory; results of two structs; copies of lists of subsets. No function of the program is in sight here. -/
namespace Go.Proofs.YtoegpalacppllaaGreat
open Go.RowKit Pl Tr Hn
/-- a trace at work, and where it stands: the coalition, who was named, the partition -/
structure TrS where
  t : Ts
  tb : Sl
  bb : List Blk
  n2 : Sl
  bn : List Blk
  la : Option Addr
  lc : Nat
  bl : List Blk
/-- a finding and a box in new memory -/
def foundX (e : TypeId) (R : Ts × Nat) (fv bv : List Value) (Bs : List Blk) : Prop := ∃ (n2 : Sl) (la : Option Addr) (lc : Nat) (s2 : Sl) (BN BL BB : List Blk), fv = fiC n2 ⟨la, R.1.l.length, lc⟩ R.1.a R.2 ∧ bv = boC R.1.b s2 ∧ Bs = (BN ++ BL) ++ BB ∧ NewI n2 R.1.nm BN ∧ OwnSl e 2 la R.1.l.length lc (sl2 R.1.l) BL ∧ NewI s2 R.1.b.l BB
theorem found_no (e : TypeId) : foundX e (⟨noBo, [], [], 0⟩, 0) (fiC Sl.no ⟨none, 0, 0⟩ 0 0) (boC noBo Sl.no) [] := ⟨Sl.no, none, 0, Sl.no, [], [], [], rfl, rfl, rfl, NewI.no, OwnSl.nil e 2, NewI.no⟩
section
variable {P : Program} {ops : Array Oper} {Q : Exit → Act → World → Prop} {bs : List Value} {us : List (Nat × Value)} {ds : List Deferred} {w0 : Base} {W W' : World} {rest : List Oper} {o : Oper} {L Bs : List Blk} {d : Nat} {v : Value} {r : Option (Option Nat)} {m : Nat} {fn : Func} {R' : Ending → World → Prop}
theorem ret_cell2_tmp {p1 p2 q : Tmp} {t1 t2 : TypeId} {n1 n2 : Nat} {g1 g2 : Nat} {cs1 cs2 : List Value} {y1 y2 : TypeId} (hW : Cl w0 L W) (q1 q2 : Nat) (ht1 : TyA P t1 n1) (ht2 : TyA P t2 n2) (hr : fn.results = #[.cell p1 t1, .cell p2 t2, .tmp q])
    (hp1 : look bs us p1 = .pointer (some ⟨g1, 0, none⟩)) (hp2 : look bs us p2 = .pointer (some ⟨g2, 0, none⟩)) (hL1 : L[q1]? = some ⟨g1, cs1, y1⟩) (hL2 : L[q2]? = some ⟨g2, cs2, y2⟩) (hn1 : cs1.length = n1) (hn2 : cs2.length = n2) (hv : look bs us q = v)
    (h : R' (.returned (.tuple #[.agg cs1.toArray, .agg cs2.toArray, v])) W) : bodyPost P fn R' .ret (fr bs us []) W := by
  refine ⟨rfl, _, ?_, h⟩
  have e1 := run_load_agg ht1 W (hW.at q1 hL1) (i := 0) (by simp only; omega)
  have e2 := run_load_agg ht2 W (hW.at q2 hL2) (i := 0) (by simp only; omega)
  have f1 : (toL bs us).toArray.getD p1 undef = .pointer (some ⟨g1, 0, none⟩) := by rw [nth_getD, ← look_nth]; exact hp1
  have f2 : (toL bs us).toArray.getD p2 undef = .pointer (some ⟨g2, 0, none⟩) := by rw [nth_getD, ← look_nth]; exact hp2
  have f3 : (toL bs us).toArray.getD q undef = v := by rw [nth_getD, ← look_nth]; exact hv
  have d1 : (cs1.drop 0).take n1 = cs1 := by simp [← hn1]
  have d2 : (cs2.drop 0).take n2 = cs2 := by simp [← hn2]
  rw [d1] at e1; rw [d2] at e2
  show (results fn (toL bs us).toArray).run P W = _
  rw [Array.getD_eq_getD_getElem?] at f1 f2 f3
  simp at f1 f2 f3
  simp [results, hr, asAddr, f1, f2, f3, e1, e2]
/-- a call of a function value that hands back memory of its own -/
theorem l_callVX (hW : Cl w0 L W) {f : FuncId} {x : Operand} {xs : Array Operand} {ts : Array TypeId} {args cap : List Value} {Pre : World → Prop} {X : Value → List Blk → Prop} (hgv : GivesX P f (args ++ cap).toArray Pre X) (he : Enters P f) (hp : Pre W) (hg : o.guard = none) (ho : o.op = .call { callee := .value x, args := xs, argTypes := ts }) (hx : ev bs us x = .func (.func f) #[] cap.toArray) (ha : xs.toList.map (ev bs us) = args) (hd : o.dst = some d)
    (h : ∀ v Bs W', X v Bs → Cl w0 (L ++ Bs) W' → LW r m P ops Q rest (fr bs ((d, v) :: us) ds) W') : LW r m P ops Q (o :: rest) (fr bs us ds) W :=
  l_enter hg (run_callV he ho hx ha) hd ((hgv W hp).mono fun _ w ⟨v, Bs, he, hx, hc⟩ => ⟨v, he, h v Bs w hx (hW.beside hc)⟩)
/-- subsets that are appended to what is empty -/
theorem twinB {t e bytes : Nat} (hE : TyE P t e 2 bytes) {g : Nat} (hW : Cl w0 (⟨g, [], e⟩ :: L) W) (ty : TypeId) {s : Sl} {l : List (Int × Int)} (hr : RdB W s l) (b1 : l.length ≤ maxLen) (b2 : l.length * bytes ≤ 140737488355328) :
    ∃ a' c' Bs W', (Builtin.append_ #[t, t] ty #[.slice (some ⟨g, 0, none⟩) 0 0, s.v]).run P W = .ok (.slice a' l.length c') W' ∧ OwnSl e 2 a' l.length c' (sl2 l) Bs ∧ Cl w0 (L ++ Bs) W' := by
  have hn := hr.len
  obtain ⟨a, n, c⟩ := s
  simp only at hn
  subst hn
  obtain ⟨a', c', Bs, W', hrun, h, hC⟩ := fresh_append hE hW ty ⟨g, 0, none⟩ hr.rd (n := l.length) (c := c) (by rw [sl2_len]; omega) (fun h => by
    have h1 := hr.ok.nil h
    have h2 := hr.ok.le
    simp only at h1 h2
    omega) b1 b2
  rcases h with ⟨h0, rfl, rfl, rfl⟩ | hO
  · refine ⟨_, _, [⟨g, [], e⟩], W', hrun, ?_, ?_⟩
    · have hl : l = [] := List.eq_nil_of_length_eq_zero h0
      subst hl
      exact OwnSl.full (n := 0) rfl (Nat.zero_le _)
    · rw [List.append_nil] at hC
      exact hC.perm (List.perm_append_singleton _ _).symm
  · exact ⟨a', c', Bs, W', hrun, hO, (show Cl w0 (_ :: (L ++ Bs)) W' from hC).drop 1⟩
theorem l_twinB {t e bytes : Nat} (hE : TyE P t e 2 bytes) {g : Nat} (hW : Cl w0 (⟨g, [], e⟩ :: L) W) {s : Sl} {l : List (Int × Int)} {x y : Operand} (hr : RdB W s l) (b1 : l.length ≤ maxLen) (b2 : l.length * bytes ≤ 140737488355328) (hg : o.guard = none) (ho : o.op = .call { callee := .builtin .append, args := #[y, x], argTypes := #[t, t] }) (hy : ev bs us y = .slice (some ⟨g, 0, none⟩) 0 0) (hx : ev bs us x = s.v) (hd : o.dst = some d)
    (h : ∀ a' c' Bs W', OwnSl e 2 a' l.length c' (sl2 l) Bs → Cl w0 (L ++ Bs) W' → LW r m P ops Q rest (fr bs ((d, .slice a' l.length c') :: us) ds) W') : LW r m P ops Q (o :: rest) (fr bs us ds) W := by
  obtain ⟨a', c', Bs, W', hrun, hO, hC⟩ := twinB hE hW o.type hr b1 b2
  exact l_run hg (run_append_op ho hy hx hrun) hd (h a' c' Bs W' hO hC)
end
end Go.Proofs.YtoegpalacppllaaGreat

/- A region that draws its order, with a chain of quiet operations that may come at any time beside the rest. No function of the program is in sight here. -/
namespace Go.Proofs.YtoegpalacppllaaGreat
open Go.RowKit

theorem at_app {α : Type} {B L : List α} {p : Nat} {x : α} (h : L[p]? = some x) : (B ++ L)[B.length + p]? = some x := by
  rw [List.getElem?_append_right (Nat.le_add_right _ _), Nat.add_sub_cancel_left]; exact h
/-- a quiet operation: its place, itself, its value -/
abbrev Zl := List (Nat × Oper × Value)
def zput (a : Act) : Zl → Act
  | [] => a
  | x :: l => zput (a.put x.2.1.dst x.2.2) l
def zset (done : Array Bool) : Zl → Array Bool
  | [] => done
  | x :: l => zset (done.setIfInBounds x.1 true) l
def ZokL (P : Program) (w0 : Base) (S : List Nat) (L0 : List Blk) : Act → Zl → Prop
  | _, [] => True
  | a, x :: l => Zok P w0 S L0 a x.2.1 x.2.2 ∧ ZokL P w0 S L0 (a.put x.2.1.dst x.2.2) l
/-- each waits for the one ahead of it, and for no other -/
def zchain (md : Region.Mode) : List Nat → Zl → Prop
  | _, [] => True
  | pre, x :: l => (∀ e ∈ x.2.1.after, Region.binds md e = true → e.on ∈ pre) ∧ (∀ y ∈ l, ∃ e ∈ y.2.1.after, Region.binds md e = true ∧ (e.on = x.1 ∨ e.on ∈ l.map (·.1))) ∧ zchain md (x.1 :: pre) l
structure Zed1 (ops : Array Oper) (ms : List Mk) (ix : List Nat) (kd : Nat → Kd) (zs : List Nat) (z : Nat) (oz : Oper) : Prop where
  at_ : ops[z]? = some oz
  guard : oz.guard = none
  apart : ∀ (j : Nat) oj, ops[j]? = some oj → j ∉ zs → (kd j).isTail = false → oz.apart ops oj = true
  ds : ∀ k ∈ ms, k.d ∉ oz.looksAt ops ∧ oz.dst ≠ some k.d
  ix : ∀ i ∈ ix, i ≠ z

section
variable {P : Program} {ops : Array Oper} {Q : Exit → Act → World → Prop} {a : Act} {w0 : Base} {W : World} {L : List Blk} {md : Region.Mode} {S : List Nat} {r : Option (Option Nat)} {m : Nat} {ms : List Mk} {bs : List Value} {us : List (Nat × Value)} {ds : List Deferred}

theorem zset_ne : ∀ (l : Zl) {done : Array Bool} {i : Nat} (b : Bool), (∀ x ∈ l, x.1 ≠ i) → (zset done l).getD i b = done.getD i b
  | [], _, _, _, _ => rfl
  | x :: l, done, i, b, h => by
    rw [zset, zset_ne l b fun y hy => h y (by simp [hy]), getD_set_ne b (h x (by simp))]
theorem zset_set : ∀ (l : Zl) {done : Array Bool} {i : Nat}, (∀ x ∈ l, x.1 ≠ i) → (zset done l).setIfInBounds i true = zset (done.setIfInBounds i true) l
  | [], _, _, _ => rfl
  | x :: l, done, i, h => by
    rw [zset, zset_set l fun y hy => h y (by simp [hy]), zset, Array.setIfInBounds_comm _ _ (h x (by simp))]
theorem zset_mono : ∀ (l : Zl) {done : Array Bool} {i : Nat}, done.getD i false = true → (zset done l).getD i false = true
  | [], _, _, h => h
  | x :: l, done, i, h => by
    refine zset_mono l ?_
    by_cases hx : x.1 = i
    · subst hx
      have := getD_true_lt h
      simp [this]
    · rw [getD_set_ne false hx]; exact h
theorem zready : ∀ (l : Zl) {done : Array Bool} {i : Nat}, i ∈ Region.ready md ops done → (∀ x ∈ l, x.1 ≠ i) → i ∈ Region.ready md ops (zset done l) := fun l done i hi hne => by
  obtain ⟨hd, oi, ho, hall⟩ := mem_ready.1 hi
  exact mem_ready.2 ⟨by rw [zset_ne l true hne]; exact hd, oi, ho, fun e he hb => zset_mono l (hall e he hb)⟩
theorem ZokL.putK {L0 : List Blk} {k : Kd} {dst : Option Tmp} {v : Value} : ∀ (l : Zl) (a : Act), (∀ x ∈ l, (∀ cs b, x.2.1.op ≠ .select cs b) ∧ (∀ d, dst = some d → d ∉ x.2.1.looksAt ops) ∧ (∀ d, x.2.1.dst = some d → dst ≠ some d)) → ZokL P w0 S L0 a l → ZokL P w0 S L0 (putK k a dst v) l
  | [], _, _, _ => trivial
  | x :: l, a, hx, h => by
    obtain ⟨h1, h2, h3⟩ := hx x (by simp)
    refine ⟨?_, ?_⟩
    · intro L2 w hs hc
      have e : execOp (Go.Proofs.YtoegpalacppllaaGreat.putK k a dst v).eval x.2.1 = execOp a.eval x.2.1 := by
        cases k <;> first | rfl | exact execOp_put x.2.1 h1 a dst v h2
      rw [e]; exact h.1 L2 w hs hc
    · have hc : (Go.Proofs.YtoegpalacppllaaGreat.putK k a dst v).put x.2.1.dst x.2.2 = Go.Proofs.YtoegpalacppllaaGreat.putK k (a.put x.2.1.dst x.2.2) dst v := (putK_comm (a := a) (j := Kd.q) (k := k) (x := x.2.1.dst) (y := dst) x.2.2 v h3).symm
      rw [hc]
      exact ZokL.putK l _ (fun y hy => hx y (by simp [hy])) h.2

theorem anyC_zs {N : Nat} {L0 : List Blk} {kd : Nat → Kd} {ix : List Nat} (hA : AllB md ops ms ix kd) (hsel : ∀ (j : Nat) (o : Oper) cs b, ops[j]? = some o → o.op ≠ .select cs b) : ∀ (zs : Zl) (pre : List Nat) (U : Nat → Array Bool → Act → St → Prop), (∀ x ∈ zs, Zed1 ops ms ix kd (zs.map (·.1) ++ pre) x.1 x.2.1) → zchain md pre zs → (zs.map (·.1)).Nodup →
    (∀ p q, zs = p ++ q → ∀ f done a s vs Ns w, Made ms s.2 vs Ns → (∀ v ∈ vs, v.isSome = true) → Cl w0 (s.1 ++ Ns.flatten) w → a.tmps.size = N → (q ≠ [] → Closed md ops done) → (∀ x ∈ q, done.getD x.1 true = false) → (zs ≠ [] → Sim S L0 s.1 ∧ ZokL P w0 S L0 a zs) → U f (zset done q) a s → AW r m P md ops Q (f + q.length) done (puts (zput a p) ms vs) w) →
    ∀ (f : Nat) (done : Array Bool) (a : Act) (s : St) (vs : List (Option Value)) (Ns : List (List Blk)) (w : World), Sim S L0 s.1 → ZokL P w0 S L0 a zs → Closed md ops done → (∀ x ∈ zs, done.getD x.1 true = false) → (∀ p ∈ pre, done.getD p false = true) → Made ms s.2 vs Ns → (∀ (q i : Nat), ix[q]? = some i → ((∃ v, vs[q]? = some (some v)) ↔ done.getD i false = true)) → (∀ m ∈ ms, m.d < a.tmps.size) → a.tmps.size = N →
      Cl w0 (s.1 ++ Ns.flatten) w → anyC P md ops w0 S ms kd ix (fun _ _ => False) U f (zset done zs) a s → AW r m P md ops Q (f + zs.length) done (puts a ms vs) w := by
  intro zs
  induction zs with
  | nil =>
    intro pre U _ _ _ hT f done a s vs Ns w _ _ _ _ _ hM hrel hsz hN hC h
    exact anyC_any (N := N) hA hsel (R := fun _ _ => False) (U := U) (fun _ _ _ _ _ _ _ _ h => h.elim) (fun f done a s vs Ns w hM hs hC hN hU => hT [] [] rfl f done a s vs Ns w hM hs hC hN (fun h => absurd rfl h) (by simp) (fun h => absurd rfl h) hU) f done a s vs Ns w hM hrel hsz hN hC h
  | cons x l ihl =>
    intro pre U hz hch hnd hT f
    have hzx := hz x (by simp)
    have hnx : ∀ y ∈ l, y.1 ≠ x.1 := fun y hy e => by
      rw [List.map_cons, List.nodup_cons] at hnd
      exact hnd.1 (List.mem_map.2 ⟨y, hy, e⟩)
    have hds : ∀ k ∈ ms, k.d ∉ x.2.1.looksAt ops := fun k hk => (hzx.ds k hk).1
    -- what is asked of an operation of the first layer
    have hside : ∀ {i : Nat} {oi : Oper}, ops[i]? = some oi → i ∉ ((x :: l).map (·.1) ++ pre) → (kd i).isTail = false → ∀ y ∈ x :: l, (∀ cs b, y.2.1.op ≠ .select cs b) ∧ (∀ d, oi.dst = some d → d ∉ y.2.1.looksAt ops) ∧ (∀ d, y.2.1.dst = some d → oi.dst ≠ some d) := fun ho hi ht y hy => by
      obtain ⟨_, h2, h3⟩ := Oper.apart_spec ((hz y hy).apart _ _ ho hi ht)
      exact ⟨fun cs b => hsel y.1 y.2.1 cs b (hz y hy).at_, h3, h2⟩
    have notin : ∀ {done : Array Bool} {i : Nat}, (∀ y ∈ x :: l, done.getD y.1 true = false) → (∀ p ∈ pre, done.getD p false = true) → i ∈ Region.ready md ops (zset done (x :: l)) → i ∉ ((x :: l).map (·.1) ++ pre) := by
      intro done i hd hpre hi hm
      have h1 := (mem_ready.1 hi).1
      have hmm : ∀ (l : Zl) (done : Array Bool) (j : Nat), j ∈ l.map (·.1) → j < done.size → (zset done l).getD j true = true := by
        intro l
        induction l with
        | nil => intro done j h; simp at h
        | cons y l ih =>
          intro done j h hlt
          rcases List.mem_cons.1 h with rfl | h
          · by_cases hy : ∃ u ∈ l, u.1 = y.1
            · obtain ⟨u, hu, e⟩ := hy
              exact ih _ _ (List.mem_map.2 ⟨u, hu, e⟩) (by simpa using hlt)
            · rw [zset, zset_ne l true fun u hu e => hy ⟨u, hu, e⟩]
              simp [hlt]
          · exact ih _ _ h (by simpa using hlt)
      rcases List.mem_append.1 hm with hm | hm
      · obtain ⟨y, hy, rfl⟩ := List.mem_map.1 hm
        rw [hmm (x :: l) done y.1 hm (getD_false_lt (hd y hy))] at h1; cases h1
      · have h2 := zset_mono (x :: l) (hpre i hm)
        have hlt := getD_true_lt h2
        simp only [Array.getD_eq_getD_getElem?, Array.getElem?_eq_getElem hlt, Option.getD_some] at h1 h2
        rw [h1] at h2; cases h2
    have hput : ∀ (f : Nat) (done : Array Bool) (a : Act) (s : St), Sim S L0 s.1 → ZokL P w0 S L0 a (x :: l) → (∀ m ∈ ms, m.d < a.tmps.size) → a.tmps.size = N → (∀ y ∈ x :: l, done.getD y.1 true = false) → (∀ p ∈ pre, done.getD p false = true) → anyC P md ops w0 S ms kd ix (fun _ _ => False) U f (zset done (x :: l)) a s →
        anyC P md ops w0 S ms kd ix (fun _ _ => False) (fun f done a1 s => ∃ a0, a1 = a0.put x.2.1.dst x.2.2 ∧ a0.tmps.size = N ∧ Sim S L0 s.1 ∧ ZokL P w0 S L0 a0 (x :: l) ∧ U f done a0 s) f (zset done (x :: l)) (a.put x.2.1.dst x.2.2) s := by
      intro f
      induction f with
      | zero => intro done a s _ _ _ _ _ _ h; exact h.2.2.elim
      | succ f ih =>
        intro done a s hS hZ hsz hN hd hpre h
        refine ⟨h.1, h.2.imp (fun ⟨y1, y2, u⟩ => ⟨y1, y2, a, rfl, hN, hS, hZ, u⟩) fun h2 i hi => ?_⟩
        obtain ⟨oi, ho, v, s', hk, hn⟩ := h2 i hi
        have hni := notin hd hpre hi
        have hne : ∀ y ∈ x :: l, y.1 ≠ i := fun y hy e => hni (List.mem_append.2 (.inl (List.mem_map.2 ⟨y, hy, e⟩)))
        cases ht : (kd i).isTail with
        | true =>
          have e : kd i = .tail := by cases hkd : kd i <;> rw [hkd] at ht <;> simp [Kd.isTail] at ht <;> rfl
          rw [e] at hk; exact hk.elim
        | false =>
          obtain ⟨h1, h2', h3⟩ := Oper.apart_spec (hzx.apart i oi ho hni ht)
          refine ⟨oi, ho, v, s', (StepK.eq (hsel i oi · · ho) h1).2 hk, ?_⟩
          have hc : putK (kd i) (a.put x.2.1.dst x.2.2) oi.dst v = (putK (kd i) a oi.dst v).put x.2.1.dst x.2.2 := putK_comm (a := a) (j := Kd.q) (k := kd i) (x := x.2.1.dst) (y := oi.dst) x.2.2 v h2'
          rw [hc, zset_set _ hne]
          rw [zset_set _ hne] at hn
          have hsz2 : (putK (kd i) a oi.dst v).tmps.size = a.tmps.size := by cases kd i <;> simp [putK, put_size]
          exact ih (done.setIfInBounds i true) (putK (kd i) a oi.dst v) s' (hS.trans hk.sim) (hZ.putK _ _ (hside ho hni ht)) (fun m hm => by rw [hsz2]; exact hsz m hm) (by rw [hsz2]; exact hN)
            (fun y hy => by rw [getD_set_ne true (Ne.symm (hne y hy))]; exact hd y hy) (fun p hp => by
              by_cases hip : i = p
              · exact absurd (List.mem_append.2 (.inr (hip ▸ hp))) hni
              · rw [getD_set_ne false hip]; exact hpre p hp) hn
    have zstep : ∀ (f : Nat) (done : Array Bool) (a : Act) (s : St) (vs : List (Option Value)) (Ns : List (List Blk)) (w : World), Sim S L0 s.1 → ZokL P w0 S L0 a (x :: l) → Closed md ops done → (∀ y ∈ x :: l, done.getD y.1 true = false) → (∀ p ∈ pre, done.getD p false = true) → Made ms s.2 vs Ns → (∀ (q i : Nat), ix[q]? = some i → ((∃ v, vs[q]? = some (some v)) ↔ done.getD i false = true)) → (∀ m ∈ ms, m.d < a.tmps.size) → a.tmps.size = N →
        Cl w0 (s.1 ++ Ns.flatten) w → x.1 ∈ Region.ready md ops done → anyC P md ops w0 S ms kd ix (fun _ _ => False) U f (zset done (x :: l)) a s → OW r m P ops Q x.1 (AW r m P md ops Q (f + l.length) (done.setIfInBounds x.1 true)) (puts a ms vs) w := by
      intro f done a s vs Ns w hS hZ hc hd hpre hM hrel hsz hN hC hrdy h
      have hexec : (execOp (puts a ms vs).eval x.2.1).run P w = .ok (.value x.2.2) w := by
        rw [puts_exec (ops := ops) (hsel x.1 x.2.1 · · hzx.at_) ms vs a hds]; exact hZ.1 _ w (hS.trans (Sim.more S s.1 Ns.flatten)) hC
      refine OW.val hzx.at_ (by simp [Region.wanted, hzx.guard]) hexec ?_
      rw [puts_put ms vs a fun k hk => (hzx.ds k hk).2]
      refine ihl (x.1 :: pre) (fun f done a1 s => ∃ a0, a1 = a0.put x.2.1.dst x.2.2 ∧ a0.tmps.size = N ∧ Sim S L0 s.1 ∧ ZokL P w0 S L0 a0 (x :: l) ∧ U f done a0 s) (fun y hy => ?_) hch.2.2 (by rw [List.map_cons, List.nodup_cons] at hnd; exact hnd.2) ?_ f (done.setIfInBounds x.1 true) (a.put x.2.1.dst x.2.2) s vs Ns w hS hZ.2 (hc.set hrdy)
        (fun y hy => by rw [getD_set_ne true (Ne.symm (hnx y hy))]; exact hd y (by simp [hy])) (fun p hp => ?_) hM (fun q i hq => by
          rw [getD_set_ne false (Ne.symm (hzx.ix i (List.mem_of_getElem? hq)))]; exact hrel q i hq) (fun m hm => by rw [put_size]; exact hsz m hm) (by rw [put_size]; exact hN) hC (hput f done a s hS hZ hsz hN hd hpre h)
      · have h1 := hz y (by simp [hy])
        exact ⟨h1.at_, h1.guard, fun j oj hj hn ht => h1.apart j oj hj (fun e => hn (by
          simp only [List.map_cons, List.cons_append, List.mem_cons, List.mem_append] at e ⊢
          rcases e with e | e | e
          · exact .inr (.inl e)
          · exact .inl e
          · exact .inr (.inr e))) ht, h1.ds, h1.ix⟩
      · rintro p q hpq f done _ s vs Ns w hM hs hC hN2 hcq hdq hSZ ⟨a0, rfl, hN0, hS0, hZ0, hU⟩
        exact hT (x :: p) q (by rw [hpq]; rfl) f done a0 s vs Ns w hM hs hC hN0 hcq hdq (fun _ => ⟨hS0, hZ0⟩) hU
      · rcases List.mem_cons.1 hp with rfl | hp
        · simp [getD_false_lt (hd x (by simp))]
        · by_cases hxp : x.1 = p
          · subst hxp
            simp [getD_false_lt (hd x (by simp))]
          · rw [getD_set_ne false hxp]; exact hpre p hp
    have xready : ∀ {done : Array Bool}, done.getD x.1 true = false → (∀ p ∈ pre, done.getD p false = true) → x.1 ∈ Region.ready md ops done := fun hd hpre => mem_ready.2 ⟨hd, x.2.1, hzx.at_, fun e he hb => hpre _ (hch.1 e he hb)⟩
    have lnot : ∀ {done : Array Bool} {i : Nat}, (∀ y ∈ x :: l, done.getD y.1 true = false) → i ∈ Region.ready md ops done → ∀ y ∈ l, y.1 ≠ i := fun hd hi y hy e => by
      subst e
      obtain ⟨_, oy, hoy, hall⟩ := mem_ready.1 hi
      have : oy = y.2.1 := Option.some.inj (hoy.symm.trans (hz y (by simp [hy])).at_)
      subst this
      obtain ⟨e, he, hb, hon⟩ := hch.2.1 y hy
      have h1 := hall e he hb
      have h2 : ∃ u ∈ x :: l, u.1 = e.on := by
        rcases hon with h | h
        · exact ⟨x, by simp, h.symm⟩
        · obtain ⟨u, hu, e⟩ := List.mem_map.1 h
          exact ⟨u, by simp [hu], e⟩
      obtain ⟨u, hu, e⟩ := h2
      rw [← e] at h1
      have h3 := getD_false_both (hd u hu)
      rw [h1] at h3; cases h3
    induction f with
    | zero => intro done a s vs Ns w _ _ _ _ _ _ _ _ _ _ h; exact h.2.2.elim
    | succ f ih =>
      intro done a s vs Ns w hS hZ hc hd hpre hM hrel hsz hN hC h
      have hrdy := xready (hd x (by simp)) hpre
      have relz : ∀ (q i : Nat), ix[q]? = some i → ((∃ v, vs[q]? = some (some v)) ↔ (zset done (x :: l)).getD i false = true) := fun q i hq => by
        rw [zset_ne (x :: l) false fun y hy => Ne.symm ((hz y hy).ix i (List.mem_of_getElem? hq))]; exact hrel q i hq
      rcases h.2 with ⟨_, hmade, hU⟩ | h2
      · exact hT [] (x :: l) rfl (f + 1) done a s vs Ns w hM (mk_full hA hM.len relz hmade) hC hN (fun _ => hc) hd (fun _ => ⟨hS, hZ⟩) hU
      refine AW.succ (List.ne_nil_of_mem hrdy) fun i hi => ?_
      by_cases hix : i = x.1
      · subst hix
        exact zstep (f + 1) done a s vs Ns w hS hZ hc hd hpre hM hrel hsz hN hC hrdy h
      · have hne : ∀ y ∈ x :: l, y.1 ≠ i := fun y hy => by
          rcases List.mem_cons.1 hy with rfl | hy
          · exact Ne.symm hix
          · exact lnot hd hi y hy
        have hiz := zready (x :: l) hi hne
        obtain ⟨oi, ho, v, s', hk, hn⟩ := h2 i hiz
        have hni := notin hd hpre hiz
        have hlen : (f + 1).add l.length = f + (x :: l).length := by show f + 1 + l.length = _; simp only [List.length_cons]; omega
        rw [hlen]
        refine step_any hA hsel hM hrel hsz hC hi ho hk fun vs' Ns' w' hM' hrel' hC' => ?_
        have hsz2 : (putK (kd i) a oi.dst v).tmps.size = a.tmps.size := by cases kd i <;> simp [putK, put_size]
        have ht : (kd i).isTail = false := by
          cases hkd : kd i <;> first | rfl | (rw [hkd] at hk; exact hk.elim)
        rw [zset_set _ hne] at hn
        exact ih (done.setIfInBounds i true) _ s' vs' Ns' w' (hS.trans hk.sim) (hZ.putK _ _ (hside ho hni ht)) (hc.set hi) (fun y hy => by rw [getD_set_ne true (Ne.symm (hne y hy))]; exact hd y hy) (fun p hp => by
            by_cases hip : i = p
            · exact absurd (List.mem_append.2 (.inr (hip ▸ hp))) hni
            · rw [getD_set_ne false hip]; exact hpre p hp) hM' hrel' (fun m hm => by rw [hsz2]; exact hsz m hm) (by rw [hsz2]; exact hN) hC' hn

/-! ### a region -/
def setA (b : Bool) : Array Bool → List Nat → Array Bool
  | d, [] => d
  | d, i :: l => setA b (d.setIfInBounds i b) l
theorem setA_get (b : Bool) : ∀ (l : List Nat) (d : Array Bool) (i : Nat), (setA b d l)[i]? = if i ∈ l ∧ i < d.size then some b else d[i]?
  | [], d, i => by simp [setA]
  | j :: l, d, i => by
    rw [setA, setA_get b l]
    by_cases hj : i = j
    · subst hj
      by_cases hi : i < d.size
      · by_cases hl : i ∈ l <;> simp [hi, hl]
      · have : d[i]? = none := Array.getElem?_eq_none (by omega)
        simp [hi]
    · by_cases hl : i ∈ l
      · by_cases hi : i < d.size
        · simp [hl, hi]
        · simp [Array.getElem?_setIfInBounds_ne (Ne.symm hj)]
          rw [if_neg fun h => hi h.2, if_neg fun h => hi h.2]
      · simp [hl, hj, Array.getElem?_setIfInBounds_ne (Ne.symm hj)]
theorem zset_A : ∀ (l : Zl) (d : Array Bool), zset d l = setA true d (l.map (·.1))
  | [], _ => rfl
  | x :: l, d => by rw [zset, zset_A l]; rfl
theorem setA_back {d : Array Bool} {p q : List Nat} (hq : ∀ i ∈ q, d.getD i true = false) (hp : ∀ i ∈ p ++ q, (setA true d q).getD i false = true) (hn : (p ++ q).Nodup) : setA true (setA false (setA true d q) (p ++ q)) p = d := by
  have sz : ∀ (b : Bool) (l : List Nat) (d : Array Bool), (setA b d l).size = d.size := fun b l => by
    induction l with
    | nil => intro d; rfl
    | cons i l ih => intro d; rw [setA, ih]; simp
  apply Array.ext_getElem?
  intro i
  rw [setA_get, setA_get, setA_get, sz, sz]
  have hdis : i ∈ p → i ∉ q := fun h h' => (List.nodup_append.1 hn).2.2 i h i h' rfl
  by_cases hi : i < d.size
  · by_cases h1 : i ∈ p
    · have := hp i (by simp [h1])
      rw [Array.getD_eq_getD_getElem?, setA_get] at this
      simp only [hdis h1, false_and, if_false] at this
      have h0 : d[i]? = some d[i] := by simp [hi]
      rw [h0] at this ⊢
      simp only [Option.getD_some] at this
      simp [h1, hi, this]
    · by_cases h2 : i ∈ q
      · have := hq i h2
        have h0 : d[i]? = some d[i] := by simp [hi]
        rw [Array.getD_eq_getD_getElem?, h0] at this
        simp only [Option.getD_some] at this
        rw [h0]
        simp [h1, h2, hi, this]
      · simp [h1, h2]
  · simp [hi]

def zsB (ops : Array Oper) (D ix : List Nat) (kd : Nat → Kd) (zs : List Nat) : Bool := zs.all fun z => match ops[z]? with
  | some oz => oz.guard.isNone && D.all (fun d => !(oz.looksAt ops).contains d && oz.dst != some d) &&
      ((List.range ops.size).all fun j => zs.contains j || (kd j).isTail || match ops[j]? with | some oj => oz.apart ops oj | none => true) && ix.all (fun i => !(i == z))
  | none => false
def zchB (md : Region.Mode) (ops : Array Oper) : List Nat → List Nat → Bool
  | _, [] => true
  | pre, z :: l => (match ops[z]? with
    | some oz => oz.after.all (fun e => !Region.binds md e || pre.contains e.on)
    | none => false) && (l.all fun y => match ops[y]? with
      | some oy => oy.after.toList.any (fun e => Region.binds md e && (e.on == z || l.contains e.on))
      | none => false) && zchB md ops (z :: pre) l
def Zat (ops : Array Oper) : Zl → Prop
  | [] => True
  | x :: l => ops[x.1]? = some x.2.1 ∧ Zat ops l
def ZevL (P : Program) (w0 : Base) (S : List Nat) (L : List Blk) (bs : List Value) : List (Nat × Value) → Zl → Prop
  | _, [] => True
  | us, x :: l => (∀ L2 w, Sim S L L2 → Cl w0 L2 w → (execOp (ev bs us) x.2.1).run P w = .ok (.value x.2.2) w) ∧ ∃ d, x.2.1.dst = some d ∧ ZevL P w0 S L bs ((d, x.2.2) :: us) l
theorem ZevL.ok : ∀ (l : Zl) (us : List (Nat × Value)), ZevL P w0 S L bs us l → ZokL P w0 S L (fr bs us ds) l
  | [], _, _ => trivial
  | x :: l, us, ⟨h, d, hd, hl⟩ => ⟨fun L2 w hs hc => by rw [eval_ev]; exact h L2 w hs hc, by rw [hd, put_st]; exact ZevL.ok l _ hl⟩
theorem Zat.mem {l : Zl} (h : Zat ops l) : ∀ x ∈ l, ops[x.1]? = some x.2.1 := by
  induction l with
  | nil => intro x hx; cases hx
  | cons y l ih =>
    intro x hx
    rcases List.mem_cons.1 hx with rfl | hx
    · exact h.1
    · exact ih h.2 x hx
theorem zsB_spec {ix : List Nat} {kd : Nat → Kd} {l : Zl} (hat : Zat ops l) (h : zsB ops (ms.map Mk.d) ix kd (l.map (·.1)) = true) : ∀ x ∈ l, Zed1 ops ms ix kd (l.map (·.1) ++ []) x.1 x.2.1 := fun x hx => by
  have h1 := List.all_eq_true.1 h x.1 (List.mem_map.2 ⟨x, hx, rfl⟩)
  rw [hat.mem x hx] at h1
  simp only [Bool.and_eq_true, Option.isNone_iff_eq_none] at h1
  obtain ⟨⟨⟨h1, h3⟩, h4⟩, h5⟩ := h1
  refine ⟨hat.mem x hx, h1, fun j oj hj hne ht => ?_, fun k hk => ?_, fun i hi e => ?_⟩
  · have := List.all_eq_true.1 h4 j (List.mem_range.2 (Array.getElem?_eq_some_iff.1 hj).1)
    rw [hj] at this
    have hc : (l.map (·.1)).contains j = false := by
      rw [List.append_nil] at hne
      cases hh : (l.map (·.1)).contains j
      · rfl
      · exact absurd (by simpa using hh) hne
    rw [hc, ht] at this
    simpa using this
  · have := List.all_eq_true.1 h3 k.d (List.mem_map.2 ⟨k, hk, rfl⟩)
    simpa using this
  · have := List.all_eq_true.1 h5 i hi
    simp [e] at this
theorem zchB_spec : ∀ {l : Zl} {pre : List Nat}, Zat ops l → zchB md ops pre (l.map (·.1)) = true → zchain md pre l
  | [], _, _, _ => trivial
  | x :: l, pre, ⟨h0, hl⟩, h => by
    simp only [List.map_cons, zchB, Bool.and_eq_true, h0] at h
    refine ⟨fun e he hb => ?_, fun y hy => ?_, zchB_spec hl h.2⟩
    · have := Array.all_eq_true_iff_forall_mem.1 h.1.1 e he
      simpa [hb] using this
    · have := List.all_eq_true.1 h.1.2 y.1 (List.mem_map.2 ⟨y, hy, rfl⟩)
      rw [Zat.mem hl y hy] at this
      obtain ⟨e, he, hb⟩ := List.any_eq_true.1 this
      simp only [Bool.and_eq_true, Bool.or_eq_true, beq_iff_eq, List.contains_iff_mem] at hb
      exact ⟨e, by simpa using he, hb⟩

def regionW (ops : Array Oper) (ks ks2 : List Kd) (D ix M D2 ix2 ord rest zs : List Nat) : Bool :=
  Region.noSelect ops && allB .any ops D ix (fun j => ks.getD j .tail) && masksB .any ops M && allB .any ops D2 ix2 (fun j => ks2.getD j .tail) && ((zs ++ (ord ++ rest)).all fun k => Nat.blt k ops.size) && ((ord ++ rest).length + zs.length == ops.size) &&
    zsB ops D ix (fun j => ks.getD j .tail) zs && zchB .any ops [] zs && decide zs.Nodup && (zs.all fun z => match ks2.getD z .tail with | .q => true | _ => false) &&
    lexO .any ops (fun j => ks.getD j .tail) ix M (fun o done => (o == rest) && ((zs.all fun z => done.getD z false) && (ix2.all fun i => !zs.contains i && !done.getD i false) && lexO .any ops (fun j => ks2.getD j .tail) ix2 M (fun o done => seqO .any ops o done) (zs ++ rest) (setA false done zs))) (ord ++ rest) (setA true (Array.replicate ops.size false) zs)

theorem lexO_peel {kd : Nat → Kd} {ix M : List Nat} {tl : List Nat → Array Bool → Bool} : ∀ (p : List Nat) {o : List Nat} {done : Array Bool}, (∀ z ∈ p, kd z = .q) → lexO md ops kd ix M tl (p ++ o) done = true → lexO md ops kd ix M tl o (setA true done p) = true
  | [], _, _, _, h => h
  | z :: p, o, done, hk, h => by
    rw [List.cons_append, lexO, hk z (by simp)] at h
    simp only [Bool.and_eq_true] at h
    exact lexO_peel p (fun y hy => hk y (by simp [hy])) h.2
theorem lx_peel {kd : Nat → Kd} {S2 : List Nat} {ms2 : List Mk} {V2 : List (List Value)} {R : Act → St → Prop} {T : List Oper → Act → St → Prop} {L0 L' : List Blk} {w : World} {vs : List (Option Value)} (hC' : Cl w0 L' w) (hS : ∃ L2, Sim S L0 L2 ∧ Cl w0 L2 w) (hsel : ∀ (j : Nat) (o : Oper) cs b, ops[j]? = some o → o.op ≠ .select cs b) : ∀ (p : Zl) (o : List Nat) (a : Act), (∀ x ∈ p, ops[x.1]? = some x.2.1 ∧ x.2.1.guard = none ∧ ∀ k ∈ ms, k.d ∉ x.2.1.looksAt ops ∧ x.2.1.dst ≠ some k.d) → (∀ x ∈ p, kd x.1 = .q) →
    ZokL P w0 S L0 a p → lx P ops w0 S2 ms2 R T ((p.map (·.1) ++ o).map kd) (pickL ops (p.map (·.1) ++ o)) (puts a ms vs) (L', V2) → lx P ops w0 S2 ms2 R T (o.map kd) (pickL ops o) (puts (zput a p) ms vs) (L', V2)
  | [], _, _, _, _, _, h => h
  | x :: p, o, a, hx, hk, hZ, h => by
    obtain ⟨hat, hg, hds⟩ := hx x (by simp)
    have hpick : pickL ops ((x :: p).map (·.1) ++ o) = x.2.1 :: pickL ops (p.map (·.1) ++ o) := by simp only [List.map_cons, List.cons_append, pickL, hat]
    rw [hpick, List.map_cons, List.cons_append, List.map_cons, hk x (by simp)] at h
    obtain ⟨v, s2, ⟨hy, rfl⟩, h⟩ := h
    obtain ⟨L2, hS2, hC2⟩ := hS
    have hrun : (execOp (puts a ms vs).eval x.2.1).run P w = .ok (.value x.2.2) w := by
      rw [puts_exec (ops := ops) (hsel x.1 x.2.1 · · hat) ms vs a fun k hk => (hds k hk).1]; exact hZ.1 L2 w hS2 hC2
    have hvz : v = x.2.2 := by
      rcases hy L' (Sim.refl _ _) with ⟨_, hq⟩ | ⟨hw, _⟩
      · have := hq w hC'
        unfold Oper.quietAt at this
        rw [hrun] at this
        first | exact this.2.symm | exact this.2
      · simp [Region.wanted, hg] at hw
    subst hvz
    simp only [putK] at h
    rw [puts_put ms vs a fun k hk => (hds k hk).2] at h
    exact lx_peel hC' ⟨L2, hS2, hC2⟩ hsel p o _ (fun y hy => hx y (by simp [hy])) (fun y hy => hk y (by simp [hy])) hZ.2 h
theorem zput_size : ∀ (l : Zl) (a : Act), (zput a l).tmps.size = a.tmps.size
  | [], _ => rfl
  | x :: l, a => by rw [zput, zput_size l, put_size]

/-- makers first; then, beside a chain of quiet operations that may come at any time: whatever order again, its last operations in order -/
theorem c_regW (hW : Cl w0 L W) {id : Nat} {os : List Oper} (S : List Nat) (ks : List Kd) (ms : List Mk) (V : List (List Value)) (ix M S2 : List Nat) (ks2 : List Kd) (D2 ix2 ord rest zs : List Nat) (hm : P.follows .mixedOrders = true) (hB : regionW os.toArray ks ks2 (ms.map Mk.d) ix M D2 ix2 ord rest zs = true) (hV : V.length = ms.length) (hd : (ms.all fun k => Nat.blt k.d bs.length) = true) (hd2 : (D2.all fun k => Nat.blt k bs.length) = true)
    (l : Zl) (hlz : l.map (·.1) = zs) (hat : Zat os.toArray l) (hzr : ZevL P w0 S L bs us l)
    (h : lx P os.toArray w0 S ms (fun _ _ => False)
      (fun _ a' s' => Full ms s'.2 a' s'.1 fun a' L' => ∃ (ms2 : List Mk) (V2 : List (List Value)), (ms2.map Mk.d = D2 ∧ V2.length = ms2.length) ∧ lx P os.toArray w0 S2 ms2 (fun a' s' => Full ms2 s'.2 a' s'.1 fun a' L' => ∀ w', Cl w0 L' w' → Q .normal a' w') (fun l' a' s' => Full ms2 s'.2 a' s'.1 fun a' L' => ∀ w', Cl w0 L' w' → LW r m P os.toArray Q l' a' w') ((zs ++ rest).map fun j => ks2.getD j .tail) (pickL os.toArray (zs ++ rest)) a' (L', V2)) ((ord ++ rest).map fun j => ks.getD j .tail) (pickL os.toArray (ord ++ rest)) (fr bs us ds) (L, V)) : CW r m P (Code.region id os.toArray true) Q (fr bs us ds) W := by
  subst hlz
  simp only [regionW, Bool.and_eq_true, beq_iff_eq, decide_eq_true_eq] at hB
  obtain ⟨⟨⟨⟨⟨⟨⟨⟨⟨⟨hsel, hall⟩, hM⟩, hall2⟩, hv⟩, hlen⟩, hzB⟩, hch⟩, hnd⟩, hkz⟩, hlex⟩ := hB
  have hz := zsB_spec hat hzB
  have hchain := zchB_spec hat hch
  have hkz' : ∀ z ∈ l.map (·.1), ks2.getD z .tail = .q := fun z hz => by
    have := List.all_eq_true.1 hkz z hz
    cases hk : ks2.getD z .tail <;> rw [hk] at this <;> first | rfl | cases this
  have hv' : ∀ k ∈ l.map (·.1) ++ (ord ++ rest), k < os.toArray.size := fun k hk => by
    have := List.all_eq_true.1 hv k hk
    rwa [Nat.blt_eq] at this
  have sz : ∀ {k : Mk} {l : List Mk}, (l.all fun k => Nat.blt k.d bs.length) = true → k ∈ l → k.d < (fr bs us ds).tmps.size := fun hl hk => by
    have := List.all_eq_true.1 hl _ hk
    rw [Nat.blt_eq] at this
    simpa [fr, toL_len] using this
  have hZ : ZokL P w0 S L (fr bs us ds) l := ZevL.ok l us hzr
  obtain ⟨T, hT⟩ : ∃ T : Act → List Blk → Prop, T = fun a' L' => ∃ (ms2 : List Mk) (V2 : List (List Value)), (ms2.map Mk.d = D2 ∧ V2.length = ms2.length) ∧ lx P os.toArray w0 S2 ms2 (fun a' s' => Full ms2 s'.2 a' s'.1 fun a' L' => ∀ w', Cl w0 L' w' → Q .normal a' w') (fun l' a' s' => Full ms2 s'.2 a' s'.1 fun a' L' => ∀ w', Cl w0 L' w' → LW r m P os.toArray Q l' a' w') ((l.map (·.1) ++ rest).map fun j => ks2.getD j .tail) (pickL os.toArray (l.map (·.1) ++ rest)) a' (L', V2) := ⟨_, rfl⟩
  rw [← hT] at h
  obtain ⟨ck, hck⟩ : ∃ ck : Array Bool → Bool, ck = fun done => ((l.map (·.1)).all fun z => done.getD z false) && (ix2.all fun i => !(l.map (·.1)).contains i && !done.getD i false) && lexO .any os.toArray (fun j => ks2.getD j .tail) ix2 M (fun o done => seqO .any os.toArray o done) (l.map (·.1) ++ rest) (setA false done (l.map (·.1))) := ⟨_, rfl⟩
  have ne0 : ∀ i, (Array.replicate os.toArray.size false).getD i false = false := fun i => none_done _ _
  have lay2 : ∀ (l : List Nat) (done : Array Bool) (a : Act) (L' : List Blk) (w : World) (ms2 : List Mk) (V2 : List (List Value)), (∀ k ∈ l, k < os.toArray.size) → Closed .any os.toArray done → (∀ i ∈ ix2, done.getD i false = false) → ms2.map Mk.d = D2 → V2.length = ms2.length → a.tmps.size = (fr bs us ds).tmps.size →
      lexO .any os.toArray (fun j => ks2.getD j .tail) ix2 M (fun o done => seqO .any os.toArray o done) l done = true → lx P os.toArray w0 S2 ms2 (fun a' s' => Full ms2 s'.2 a' s'.1 fun a' L' => ∀ w', Cl w0 L' w' → Q .normal a' w') (fun l' a' s' => Full ms2 s'.2 a' s'.1 fun a' L' => ∀ w', Cl w0 L' w' → LW r m P os.toArray Q l' a' w') (l.map fun j => ks2.getD j .tail) (pickL os.toArray l) a (L', V2) → Cl w0 L' w → AW r m P .any os.toArray Q l.length done a w := by
    intro l done a L' w ms2 V2 hl hc hix hD hV2 hsz ht hk hC
    subst hD
    have h1 := anyC_lexO (P := P) (w0 := w0) (S := S2) (ms := ms2) (md := .any) (kd := fun j => ks2.getD j .tail) (ix := ix2) (U := fun f done a s => ∃ o, o.length = f ∧ seqO .any os.toArray o done = true ∧ Full ms2 s.2 a s.1 fun a' L' => ∀ w', Cl w0 L' w' → LW r m P os.toArray Q (pickL os.toArray o) a' w') hM hsel (fun o done a s _ ht hT => ⟨o, rfl, ht, hT⟩) l done a (L', V2) hl hc ht hk
    have h2 := anyC_any (N := a.tmps.size) (P := P) (r := r) (m := m) (Q := Q) (ms := ms2) (allB_spec hall2) (Region.noSelect_spec hsel)
      (fun a s vs Ns w hM hs hC hR => by obtain ⟨L', hp, hk⟩ := Full.use hM hs hR; exact hk w (hC.perm hp)) (fun f done a s vs Ns w hM hs hC _ ⟨o, hf, ht, hT⟩ => by obtain ⟨L', hp, hk⟩ := Full.use hM hs hT; subst hf; exact AW_seqO o done _ w ht (hk w (hC.perm hp))) l.length done a (L', V2) _ _ w (none_made ms2 V2 hV2) (made0 hix) (fun k hk => by rw [hsz]; exact sz (by simpa [List.all_map, Function.comp_def] using hd2) hk) rfl (by
        have : (List.replicate ms2.length ([] : List Blk)).flatten = [] := by simp
        rw [this, List.append_nil]
        exact hC) h1
    rw [none_puts] at h2
    exact h2
  have H : AW r m P .any os.toArray Q os.toArray.size (Array.replicate os.toArray.size false) (fr bs us ds) W.drew := by
    have hc0 : ∀ (l : Zl) (pre : List Nat) (d : Array Bool), Zat os.toArray l → zchain .any pre l → Closed .any os.toArray d → (∀ i ∈ pre, d.getD i false = true) → (∀ x ∈ l, x.1 < d.size) → Closed .any os.toArray (zset d l) := by
      intro l
      induction l with
      | nil => intro pre d _ _ h _ _; exact h
      | cons x l ih =>
        intro pre d hat hch hc hpre hlt
        refine ih (x.1 :: pre) _ hat.2 hch.2.2 ?_ (fun i hi => ?_) (fun y hy => by simpa using hlt y (by simp [hy]))
        · intro j oj hj hd e he hb
          have hmono : ∀ i, d.getD i false = true → (d.setIfInBounds x.1 true).getD i false = true := fun i h => by
            by_cases hx : x.1 = i
            · subst hx; simp [hlt x (by simp)]
            · rw [getD_set_ne false hx]; exact h
          by_cases hjx : x.1 = j
          · subst hjx
            obtain rfl : oj = x.2.1 := Option.some.inj (hj.symm.trans hat.1)
            exact hmono _ (hpre _ (hch.1 e he hb))
          · rw [getD_set_ne false hjx] at hd
            exact hmono _ (hc j oj hj hd e he hb)
        · rcases List.mem_cons.1 hi with rfl | hi
          · simp [hlt x (by simp)]
          · by_cases hx : x.1 = i
            · subst hx; simp [hlt x (by simp)]
            · rw [getD_set_ne false hx]; exact hpre i hi
    have hcl := hc0 l [] (Array.replicate os.toArray.size false) hat hchain (fun j oj _ hd => by rw [ne0] at hd; cases hd) (by simp) (fun x hx => by
      have := hv' x.1 (List.mem_append.2 (.inl (List.mem_map.2 ⟨x, hx, rfl⟩)))
      simpa using this)
    rw [← zset_A] at hlex
    have h1 := anyC_lexO (P := P) (w0 := w0) (S := S) (ms := ms) (md := .any) (kd := fun j => ks.getD j .tail) (ix := ix) (R := fun _ _ => False) (T := fun _ a' s' => Full ms s'.2 a' s'.1 T) (U := fun f done a s => f = rest.length ∧ Closed .any os.toArray done ∧ ck done = true ∧ Full ms s.2 a s.1 T)
      hM hsel (fun o done a s hc ht hT => by
        simp only [Bool.and_eq_true, beq_iff_eq] at ht
        refine ⟨by rw [ht.1], hc, ?_, hT⟩
        rw [hck]
        simp only [Bool.and_eq_true]; exact ht.2) (ord ++ rest) (zset (Array.replicate os.toArray.size false) l) (fr bs us ds) (L, V) (fun k hk => hv' k (List.mem_append.2 (.inr hk))) hcl hlex h
    have h2 := anyC_zs (N := (fr bs us ds).tmps.size) (P := P) (r := r) (m := m) (Q := Q) (L0 := L) (allB_spec hall) (Region.noSelect_spec hsel) l [] _ hz hchain hnd
      (fun p q hpq f done a s vs Ns w hMd hs hC hsz hcq hdq hSZ ⟨hf, hc, ht, hF⟩ => by
        rw [hck] at ht
        simp only [Bool.and_eq_true] at ht
        obtain ⟨⟨hzt, hix⟩, ht⟩ := ht
        obtain ⟨L', hp, hk⟩ := Full.use hMd hs hF
        rw [hT] at hk
        obtain ⟨ms2, V2, ⟨hD, hV2⟩, hk⟩ := hk
        subst hf
        have hmap : l.map (·.1) = p.map (·.1) ++ q.map (·.1) := by rw [hpq, List.map_append]
        have hcd : Closed .any os.toArray done := by
          cases q with
          | nil => exact hc
          | cons y q => exact hcq (by simp)
        have hback : setA true (setA false (zset done q) (l.map (·.1))) (p.map (·.1)) = done := by
          rw [hmap, zset_A]
          refine setA_back (fun i hi => ?_) (fun i hi => ?_) (by rw [← hmap]; exact hnd)
          · obtain ⟨y, hy, rfl⟩ := List.mem_map.1 hi
            exact hdq y hy
          · rw [← hmap] at hi
            rw [← zset_A]
            exact List.all_eq_true.1 hzt i hi
        rw [hmap, List.append_assoc] at hk
        rw [hmap, List.append_assoc, ← hmap] at ht
        have ht' := lexO_peel (p.map (·.1)) (fun z hz => hkz' z (by rw [hmap]; simp only [List.mem_append]; exact .inl hz)) ht
        rw [hback] at ht'
        have hln : rest.length + q.length = (q.map (·.1) ++ rest).length := by simp [Nat.add_comm]
        rw [hln]
        refine lay2 (q.map (·.1) ++ rest) done _ L' w ms2 V2 (fun k hk => hv' k ?_) hcd (fun i hi => ?_) hD hV2 (by rw [puts_size, zput_size, hsz]) ht' ?_ (hC.perm hp)
        · rcases List.mem_append.1 hk with h | h
          · exact List.mem_append.2 (.inl (by rw [hmap]; exact List.mem_append.2 (.inr h)))
          · exact List.mem_append.2 (.inr (List.mem_append.2 (.inr h)))
        · have := List.all_eq_true.1 hix i hi
          simp only [Bool.and_eq_true, Bool.not_eq_true'] at this
          have h2 := this.2
          rw [zset_ne q false fun y hy e => ?_] at h2
          · exact h2
          · have h3 := this.1
            have : (l.map (·.1)).contains i = true := by
              rw [List.contains_iff_mem, ← e, hmap]
              exact List.mem_append.2 (.inr (List.mem_map.2 ⟨y, hy, rfl⟩))
            rw [this] at h3; cases h3
        · cases p with
          | nil => exact hk
          | cons x p =>
            obtain ⟨hS, hZ⟩ := hSZ (by rw [hpq]; simp)
            have hZp : ∀ (p q : Zl) (a : Act), ZokL P w0 S L a (p ++ q) → ZokL P w0 S L a p := by
              intro p
              induction p with
              | nil => intro q a _; trivial
              | cons y p ih => intro q a h; exact ⟨h.1, ih q _ h.2⟩
            rw [hpq] at hZ
            refine lx_peel (kd := fun j => ks2.getD j .tail) (hC.perm hp) ⟨_, hS.trans (Sim.more S s.1 Ns.flatten), hC⟩ (Region.noSelect_spec hsel) (x :: p) (q.map (·.1) ++ rest) a (fun y hy => ?_) (fun y hy => ?_) (hZp _ _ _ hZ) hk
            · have hyl : y ∈ l := by rw [hpq]; exact List.mem_append.2 (.inl hy)
              exact ⟨(hz y hyl).at_, (hz y hyl).guard, (hz y hyl).ds⟩
            · exact hkz' y.1 (List.mem_map.2 ⟨y, by rw [hpq]; exact List.mem_append.2 (.inl hy), rfl⟩))
      (ord ++ rest).length (Array.replicate os.toArray.size false) (fr bs us ds) (L, V) _ _ W.drew (Sim.refl _ _) hZ (fun j oj _ hd => by rw [ne0] at hd; cases hd) (fun x hx => by
        have := hv' x.1 (List.mem_append.2 (.inl (List.mem_map.2 ⟨x, hx, rfl⟩)))
        simp only [List.size_toArray] at this
        simp [this]) (by simp) (none_made ms V hV) (made0 fun i _ => none_done _ _) (fun k hk => sz hd hk) rfl (by
        have : (List.replicate ms.length ([] : List Blk)).flatten = [] := by simp
        rw [this, List.append_nil]
        exact hW.drew) h1
    rw [none_puts] at h2
    have hl2 : (ord ++ rest).length + l.length = os.toArray.size := by rw [← hlen, List.length_map]
    rw [hl2] at h2
    exact h2
  cases r with
  | none => exact wp_region_any hm H
  | some k => exact wpIn_region_any hm H
end
end Go.Proofs.YtoegpalacppllaaGreat

/- A region that draws its order, with a new variable that may be made at any time beside the rest. No function of the program is in sight here. -/
namespace Go.Proofs.YtoegpalacppllaaGreat
open Go.RowKit

section
variable {P : Program} {ops : Array Oper} {Q : Exit → Act → World → Prop} {a : Act} {w0 : Base} {W : World} {L : List Blk} {md : Region.Mode} {S : List Nat} {r : Option (Option Nat)} {m : Nat} {ms : List Mk} {bs : List Value} {us : List (Nat × Value)} {ds : List Deferred}

def noS : Kd → Bool
  | .s => false
  | _ => true
/-- more blocks behind those that are known -/
theorem StepK.more {k : Kd} {o : Oper} {s s' : St} {v : Value} (E : List Blk) (hk : noS k = true) (h : StepK P ops w0 S ms k o a s v s') : StepK P ops w0 S ms k o a (s.1 ++ E, s.2) v (s'.1 ++ E, s'.2) := by
  have hs : ∀ {L2}, Sim S (s.1 ++ E) L2 → Sim S s.1 L2 := fun h => (Sim.more S s.1 E).trans h
  cases k with
  | q => exact ⟨fun L2 hL => h.1 L2 (hs hL), by rw [h.2]⟩
  | r => exact ⟨fun N => by rw [List.append_assoc]; exact h.1 (E ++ N), by rw [h.2]⟩
  | s => cases hk
  | mk i =>
    obtain ⟨h1, h2, k, z, h3, h4, h5⟩ := h
    exact ⟨h1, by rw [h2], k, z, h3, h4, fun L2 hL => h5 L2 (hs hL)⟩
  | mkd i j =>
    obtain ⟨h1, h2, k, z, kj, zj, h3, h4, h5, h6, h7⟩ := h
    exact ⟨h1, by rw [h2], k, z, kj, zj, h3, h4, h5, h6, fun u Bs L2 hL hX => h7 u Bs L2 (hs hL) hX⟩
  | st i =>
    obtain ⟨h1, k, vs, h3, h4, h5⟩ := h
    exact ⟨h1, k, vs, h3, h4, by rw [h5]⟩
  | rd i =>
    obtain ⟨h1, k, z, h3, h4, h5⟩ := h
    exact ⟨by rw [h1], k, z, h3, h4, fun u Bs L2 hL hX => h5 u Bs L2 (hs hL) hX⟩
  | tail => exact h.elim
/-- what is asked of the operation that makes it -/
structure Alc (md : Region.Mode) (ops : Array Oper) (ms : List Mk) (ix : List Nat) (kd : Nat → Kd) (z : Nat) (oz : Oper) (d : Tmp) : Prop where
  at_ : ops[z]? = some oz
  guard : oz.guard = none
  after : ∀ e ∈ oz.after, Region.binds md e = false
  dst : oz.dst = some d
  apart : ∀ (j : Nat) oj, ops[j]? = some oj → j ≠ z → (kd j).isTail = false → oz.apart ops oj = true
  ds : ∀ k ∈ ms, oz.dst ≠ some k.d
  ix : ∀ i ∈ ix, i ≠ z
def alB (md : Region.Mode) (ops : Array Oper) (D ix : List Nat) (kd : Nat → Kd) (z d : Nat) : Bool := match ops[z]? with
  | some oz => oz.guard.isNone && oz.after.all (fun e => !Region.binds md e) && D.all (fun d => oz.dst != some d) && (oz.dst == some d) &&
      ((List.range ops.size).all fun j => j == z || (kd j).isTail || match ops[j]? with | some oj => oz.apart ops oj | none => true) && ix.all (fun i => !(i == z))
  | none => false
theorem alB_spec {ix : List Nat} {kd : Nat → Kd} {z d : Nat} (h : alB md ops (ms.map Mk.d) ix kd z d = true) : ∃ oz, Alc md ops ms ix kd z oz d := by
  unfold alB at h
  cases hz : ops[z]? with
  | none => rw [hz] at h; cases h
  | some oz =>
    rw [hz] at h
    simp only [Bool.and_eq_true, Option.isNone_iff_eq_none, beq_iff_eq] at h
    obtain ⟨⟨⟨⟨⟨h1, h2⟩, h3⟩, h6⟩, h4⟩, h5⟩ := h
    refine ⟨oz, hz, h1, fun e he => ?_, h6, fun j oj hj hne ht => ?_, fun k hk => ?_, fun i hi e => ?_⟩
    · have := Array.all_eq_true_iff_forall_mem.1 h2 e he
      simpa using this
    · have := List.all_eq_true.1 h4 j (List.mem_range.2 (Array.getElem?_eq_some_iff.1 hj).1)
      rw [hj] at this
      simpa [hne, ht] using this
    · have := List.all_eq_true.1 h3 k.d (List.mem_map.2 ⟨k, hk, rfl⟩)
      simpa using this
    · have := List.all_eq_true.1 h5 i hi
      simp [e] at this
/-- the variable is there, though no operation of this layer looks at it -/
theorem anyC_al {N : Nat} {kd : Nat → Kd} {ix : List Nat} {U : Nat → Array Bool → Act → St → Prop} {z : Nat} {oz : Oper} {d : Tmp} (hsel : ∀ (j : Nat) (o : Oper) cs b, ops[j]? = some o → o.op ≠ .select cs b) (hz : Alc md ops ms ix kd z oz d) (hns : ∀ i, noS (kd i) = true) (E : List Blk) (u : Value) : ∀ (f : Nat) (done : Array Bool) (a : Act) (s : St), done.getD z false = true → a.tmps.size = N →
    anyC P md ops w0 S ms kd ix (fun _ _ => False) U f done a s → anyC P md ops w0 S ms kd ix (fun _ _ => False) (fun f done a1 s1 => ∃ a0 s0, a1 = a0.put oz.dst u ∧ s1 = (s0.1 ++ E, s0.2) ∧ a0.tmps.size = N ∧ U f done a0 s0) f done (a.put oz.dst u) (s.1 ++ E, s.2) := by
  intro f
  induction f with
  | zero => intro done a s _ _ h; exact h.2.2.elim
  | succ f ih =>
    intro done a s hd hN h
    refine ⟨h.1, h.2.imp (fun ⟨x, y, hu⟩ => ⟨x, y, a, s, rfl, rfl, hN, hu⟩) fun h2 i hi => ?_⟩
    obtain ⟨oi, ho, v, s', hk, hn⟩ := h2 i hi
    have hiz : i ≠ z := fun e => by
      subst e
      have h1 := (mem_ready.1 hi).1
      have hlt := getD_true_lt hd
      simp only [Array.getD_eq_getD_getElem?, Array.getElem?_eq_getElem hlt, Option.getD_some] at h1 hd
      rw [hd] at h1; cases h1
    cases ht : (kd i).isTail with
    | true =>
      have e : kd i = .tail := by cases hkd : kd i <;> rw [hkd] at ht <;> simp [Kd.isTail] at ht <;> rfl
      rw [e] at hk; exact hk.elim
    | false =>
      obtain ⟨h1, h2', _⟩ := Oper.apart_spec (hz.apart i oi ho hiz ht)
      refine ⟨oi, ho, v, (s'.1 ++ E, s'.2), (StepK.eq (hsel i oi · · ho) h1).2 (hk.more E (hns i)), ?_⟩
      have hc : putK (kd i) (a.put oz.dst u) oi.dst v = (putK (kd i) a oi.dst v).put oz.dst u := putK_comm (a := a) (j := Kd.q) (k := kd i) (x := oz.dst) (y := oi.dst) u v h2'
      rw [hc]
      have hsz2 : (putK (kd i) a oi.dst v).tmps.size = a.tmps.size := by cases kd i <;> simp [putK, put_size]
      exact ih (done.setIfInBounds i true) (putK (kd i) a oi.dst v) s' (by rw [getD_set_ne false hiz]; exact hd) (by rw [hsz2]; exact hN) hn

theorem anyC_v {N : Nat} {kd : Nat → Kd} {ix : List Nat} {U : Nat → Array Bool → Act → St → Prop} {z : Nat} {oz : Oper} {d : Tmp} {t : TypeId} {zc : List Value} (hA : AllB md ops ms ix kd) (hsel : ∀ (j : Nat) (o : Oper) cs b, ops[j]? = some o → o.op ≠ .select cs b) (hz : Alc md ops ms ix kd z oz d) (hns : ∀ i, noS (kd i) = true)
    (hal : ∀ ρ w, (execOp ρ oz).run P w = .ok (.value (.pointer (some ⟨w.heap.size, 0, none⟩))) (w.alloc (.cells zc.toArray t)))
    (hT1 : ∀ f done a s vs Ns w g, Made ms s.2 vs Ns → (∀ v ∈ vs, v.isSome = true) → Cl w0 ((s.1 ++ [⟨g, zc, t⟩]) ++ Ns.flatten) w → a.tmps.size = N → U f done a s → AW r m P md ops Q f done (puts (a.put oz.dst (.pointer (some ⟨g, 0, none⟩))) ms vs) w)
    (hT2 : ∀ f done a s vs Ns w, Made ms s.2 vs Ns → (∀ v ∈ vs, v.isSome = true) → Cl w0 (s.1 ++ Ns.flatten) w → a.tmps.size = N → Closed md ops done → done.getD z true = false → U f (done.setIfInBounds z true) a s → AW r m P md ops Q (f + 1) done (puts a ms vs) w) (f : Nat) :
    ∀ (done : Array Bool) (a : Act) (s : St) (vs : List (Option Value)) (Ns : List (List Blk)) (w : World), Closed md ops done → done.getD z true = false → Made ms s.2 vs Ns → (∀ (q i : Nat), ix[q]? = some i → ((∃ v, vs[q]? = some (some v)) ↔ done.getD i false = true)) → (∀ m ∈ ms, m.d < a.tmps.size) → a.tmps.size = N →
      Cl w0 (s.1 ++ Ns.flatten) w → anyC P md ops w0 S ms kd ix (fun _ _ => False) U f (done.setIfInBounds z true) a s → AW r m P md ops Q (f + 1) done (puts a ms vs) w := by
  have relz : ∀ {done : Array Bool} {vs : List (Option Value)}, (∀ (q i : Nat), ix[q]? = some i → ((∃ v, vs[q]? = some (some v)) ↔ done.getD i false = true)) → ∀ (q i : Nat), ix[q]? = some i → ((∃ v, vs[q]? = some (some v)) ↔ (done.setIfInBounds z true).getD i false = true) := fun hrel q i hq => by
    rw [getD_set_ne false (Ne.symm (hz.ix i (List.mem_of_getElem? hq)))]; exact hrel q i hq
  have zstep : ∀ (f : Nat) (done : Array Bool) (a : Act) (s : St) (vs : List (Option Value)) (Ns : List (List Blk)) (w : World), Made ms s.2 vs Ns → (∀ (q i : Nat), ix[q]? = some i → ((∃ v, vs[q]? = some (some v)) ↔ done.getD i false = true)) → (∀ m ∈ ms, m.d < a.tmps.size) → a.tmps.size = N →
      Cl w0 (s.1 ++ Ns.flatten) w → done.getD z true = false → anyC P md ops w0 S ms kd ix (fun _ _ => False) U f (done.setIfInBounds z true) a s → OW r m P ops Q z (AW r m P md ops Q f (done.setIfInBounds z true)) (puts a ms vs) w := by
    intro f done a s vs Ns w hM hrel hsz hN hC hd h
    refine OW.val hz.at_ (by simp [Region.wanted, hz.guard]) (hal _ w) ?_
    rw [puts_put ms vs a hz.ds]
    have h2 := anyC_al (N := N) hsel hz hns [⟨w.heap.size, zc, t⟩] (.pointer (some ⟨w.heap.size, 0, none⟩)) f (done.setIfInBounds z true) a s (by simp [getD_false_lt hd]) hN h
    refine anyC_any (N := N) hA hsel (fun _ _ _ _ _ _ _ _ h => h.elim) ?_ f _ _ (s.1 ++ [⟨w.heap.size, zc, t⟩], s.2) vs Ns (w.alloc (.cells zc.toArray t)) hM (relz hrel) (fun m hm => by rw [put_size]; exact hsz m hm) (by rw [put_size]; exact hN) ((hC.alloc zc t).perm ?_) h2
    · rintro f done _ _ vs Ns w' hM hs hC _ ⟨a0, s0, rfl, rfl, hN0, hU⟩
      exact hT1 f done a0 s0 vs Ns w' _ hM hs hC hN0 hU
    · exact (List.perm_append_singleton _ _).symm.trans (by
        rw [List.append_assoc, List.append_assoc]
        exact List.Perm.append_left _ List.perm_append_comm)
  have zready : ∀ {done : Array Bool}, done.getD z true = false → z ∈ Region.ready md ops done := fun hd => mem_ready.2 ⟨hd, oz, hz.at_, fun e he hb => by rw [hz.after e he] at hb; cases hb⟩
  induction f with
  | zero => intro done a s vs Ns w _ _ _ _ _ _ _ h; exact h.2.2.elim
  | succ f ih =>
    intro done a s vs Ns w hc hd hM hrel hsz hN hC h
    rcases h.2 with ⟨_, hmade, hU⟩ | h2
    · exact hT2 _ done a s vs Ns w hM (mk_full hA hM.len (relz hrel) hmade) hC hN hc hd hU
    refine AW.succ (List.ne_nil_of_mem (zready hd)) fun i hi => ?_
    by_cases hiz : i = z
    · subst hiz
      exact zstep (f + 1) done a s vs Ns w hM hrel hsz hN hC hd h
    · obtain ⟨oi, ho, v, s', hk, hn⟩ := h2 i (ready_mono hi hiz)
      refine step_any hA hsel hM hrel hsz hC hi ho hk fun vs' Ns' w' hM' hrel' hC' => ?_
      have hsz2 : (putK (kd i) a oi.dst v).tmps.size = a.tmps.size := by cases kd i <;> simp [putK, put_size]
      exact ih (done.setIfInBounds i true) _ s' vs' Ns' w' (hc.set hi) (by rw [getD_set_ne true hiz]; exact hd) hM' hrel' (fun m hm => by rw [hsz2]; exact hsz m hm) (by rw [hsz2]; exact hN) hC' (by rw [Array.setIfInBounds_comm _ _ hiz]; exact hn)

def regionV (ops : Array Oper) (ks ks2 : List Kd) (D ix M D2 ix2 ord rest : List Nat) (z d : Nat) : Bool :=
  Region.noSelect ops && allB .any ops D ix (fun j => ks.getD j .tail) && masksB .any ops M && allB .any ops (d :: D2) (z :: ix2) (fun j => ks2.getD j .tail) && ((z :: (ord ++ rest)).all fun k => Nat.blt k ops.size) && ((ord ++ rest).length + 1 == ops.size) &&
    alB .any ops D ix (fun j => ks.getD j .tail) z d && ks.all noS && (match ks2.getD z .tail with | .mk 0 => true | _ => false) &&
    lexO .any ops (fun j => ks.getD j .tail) ix M (fun o done => (o == rest) && (done.getD z false && (ix2.all fun i => !(i == z) && !done.getD i false) && lexO .any ops (fun j => ks2.getD j .tail) (z :: ix2) M (fun o done => seqO .any ops o done) (z :: rest) (done.setIfInBounds z false))) (ord ++ rest) ((Array.replicate ops.size false).setIfInBounds z true)
/-- makers first; then, beside a new variable that may be made at any time: whatever order again, its last operations in order -/
theorem c_regV (hW : Cl w0 L W) {id : Nat} {os : List Oper} {oz : Oper} {t n : Nat} {zc : List Value} (S : List Nat) (ks : List Kd) (ms : List Mk) (V : List (List Value)) (ix M S2 : List Nat) (ks2 : List Kd) (D2 ix2 ord rest : List Nat) (z d : Nat) (hm : P.follows .mixedOrders = true) (hB : regionV os.toArray ks ks2 (ms.map Mk.d) ix M D2 ix2 ord rest z d = true) (hV : V.length = ms.length) (hd : (ms.all fun k => Nat.blt k.d bs.length) = true) (hd2 : ((d :: D2).all fun k => Nat.blt k bs.length) = true)
    (hoz : os[z]? = some oz) (hal : ∀ ρ w, (execOp ρ oz).run P w = .ok (.value (.pointer (some ⟨w.heap.size, 0, none⟩))) (w.alloc (.cells zc.toArray t))) (hzn : zc.length = n)
    (h : lx P os.toArray w0 S ms (fun _ _ => False)
      (fun _ a' s' => Full ms s'.2 a' s'.1 fun a' L' => ∃ (ms2 : List Mk) (V2 : List (List Value)), (ms2.map Mk.d = D2 ∧ V2.length = ms2.length) ∧ lx P os.toArray w0 S2 (⟨d, allocX t n⟩ :: ms2) (fun a' s' => Full (⟨d, allocX t n⟩ :: ms2) s'.2 a' s'.1 fun a' L' => ∀ w', Cl w0 L' w' → Q .normal a' w') (fun l' a' s' => Full (⟨d, allocX t n⟩ :: ms2) s'.2 a' s'.1 fun a' L' => ∀ w', Cl w0 L' w' → LW r m P os.toArray Q l' a' w') ((z :: rest).map fun j => ks2.getD j .tail) (pickL os.toArray (z :: rest)) a' (L', zc :: V2)) ((ord ++ rest).map fun j => ks.getD j .tail) (pickL os.toArray (ord ++ rest)) (fr bs us ds) (L, V)) : CW r m P (Code.region id os.toArray true) Q (fr bs us ds) W := by
  simp only [regionV, Bool.and_eq_true, beq_iff_eq] at hB
  obtain ⟨⟨⟨⟨⟨⟨⟨⟨⟨hsel, hall⟩, hM⟩, hall2⟩, hv⟩, hlen⟩, hzB⟩, hnS⟩, hkz⟩, hlex⟩ := hB
  obtain ⟨oz', hz⟩ := alB_spec hzB
  have hoz' : oz' = oz := by
    have h1 := hz.at_
    simp only [List.getElem?_toArray] at h1
    rw [hoz] at h1; injection h1 with h1; exact h1.symm
  subst hoz'
  have hns : ∀ i, noS (ks.getD i .tail) = true := fun i => by
    rcases Nat.lt_or_ge i ks.length with hi | hi
    · rw [List.getD_eq_getElem?_getD, List.getElem?_eq_getElem hi]
      exact List.all_eq_true.1 hnS _ (List.getElem_mem hi)
    · rw [List.getD_eq_getElem?_getD, List.getElem?_eq_none hi]; rfl
  have hkz' : ks2.getD z .tail = .mk 0 := by
    cases hk : ks2.getD z .tail with
    | mk i =>
      rw [hk] at hkz
      cases i with
      | zero => rfl
      | succ i => cases hkz
    | _ => rw [hk] at hkz; cases hkz
  have hv' : ∀ k ∈ z :: (ord ++ rest), k < os.toArray.size := fun k hk => by
    have := List.all_eq_true.1 hv k hk
    rwa [Nat.blt_eq] at this
  have hzlt := hv' z (by simp)
  have sz : ∀ {k : Mk} {l : List Mk}, (l.all fun k => Nat.blt k.d bs.length) = true → k ∈ l → k.d < (fr bs us ds).tmps.size := fun hl hk => by
    have := List.all_eq_true.1 hl _ hk
    rw [Nat.blt_eq] at this
    simpa [fr, toL_len] using this
  obtain ⟨T, hT⟩ : ∃ T : Act → List Blk → Prop, T = fun a' L' => ∃ (ms2 : List Mk) (V2 : List (List Value)), (ms2.map Mk.d = D2 ∧ V2.length = ms2.length) ∧ lx P os.toArray w0 S2 (⟨d, allocX t n⟩ :: ms2) (fun a' s' => Full (⟨d, allocX t n⟩ :: ms2) s'.2 a' s'.1 fun a' L' => ∀ w', Cl w0 L' w' → Q .normal a' w') (fun l' a' s' => Full (⟨d, allocX t n⟩ :: ms2) s'.2 a' s'.1 fun a' L' => ∀ w', Cl w0 L' w' → LW r m P os.toArray Q l' a' w') ((z :: rest).map fun j => ks2.getD j .tail) (pickL os.toArray (z :: rest)) a' (L', zc :: V2) := ⟨_, rfl⟩
  rw [← hT] at h
  obtain ⟨ck, hck⟩ : ∃ ck : Array Bool → Bool, ck = fun done => done.getD z false && (ix2.all fun i => !(i == z) && !done.getD i false) && lexO .any os.toArray (fun j => ks2.getD j .tail) (z :: ix2) M (fun o done => seqO .any os.toArray o done) (z :: rest) (done.setIfInBounds z false) := ⟨_, rfl⟩
  have ne0 : ∀ i, (Array.replicate os.toArray.size false).getD i false = false := fun i => none_done _ _
  -- what is left of a second layer
  have lay2 : ∀ (l : List Nat) (done : Array Bool) (a : Act) (L' : List Blk) (w : World) (ms2 : List Mk) (V2 : List (List Value)) (vs : List (Option Value)) (Ns : List (List Blk)), (∀ k ∈ l, k < os.toArray.size) → Closed .any os.toArray done → Made (⟨d, allocX t n⟩ :: ms2) (zc :: V2) vs Ns → (∀ (q i : Nat), (z :: ix2)[q]? = some i → ((∃ v, vs[q]? = some (some v)) ↔ done.getD i false = true)) → ms2.map Mk.d = D2 → a.tmps.size = (fr bs us ds).tmps.size →
      lexO .any os.toArray (fun j => ks2.getD j .tail) (z :: ix2) M (fun o done => seqO .any os.toArray o done) l done = true → lx P os.toArray w0 S2 (⟨d, allocX t n⟩ :: ms2) (fun a' s' => Full (⟨d, allocX t n⟩ :: ms2) s'.2 a' s'.1 fun a' L' => ∀ w', Cl w0 L' w' → Q .normal a' w') (fun l' a' s' => Full (⟨d, allocX t n⟩ :: ms2) s'.2 a' s'.1 fun a' L' => ∀ w', Cl w0 L' w' → LW r m P os.toArray Q l' a' w') (l.map fun j => ks2.getD j .tail) (pickL os.toArray l) a (L', zc :: V2) → Cl w0 (L' ++ Ns.flatten) w → AW r m P .any os.toArray Q l.length done (puts a (⟨d, allocX t n⟩ :: ms2) vs) w := by
    intro l done a L' w ms2 V2 vs Ns hl hc hMd hrel hD hsz ht hk hC
    subst hD
    have h1 := anyC_lexO (P := P) (w0 := w0) (S := S2) (ms := ⟨d, allocX t n⟩ :: ms2) (md := .any) (kd := fun j => ks2.getD j .tail) (ix := z :: ix2) (U := fun f done a s => ∃ o, o.length = f ∧ seqO .any os.toArray o done = true ∧ Full (⟨d, allocX t n⟩ :: ms2) s.2 a s.1 fun a' L' => ∀ w', Cl w0 L' w' → LW r m P os.toArray Q (pickL os.toArray o) a' w') hM hsel (fun o done a s _ ht hT => ⟨o, rfl, ht, hT⟩) l done a (L', zc :: V2) hl hc ht hk
    have hall2' : allB .any os.toArray ((⟨d, allocX t n⟩ :: ms2 : List Mk).map Mk.d) (z :: ix2) (fun j => ks2.getD j .tail) = true := hall2
    exact anyC_any (N := a.tmps.size) (P := P) (r := r) (m := m) (Q := Q) (ms := ⟨d, allocX t n⟩ :: ms2) (allB_spec hall2') (Region.noSelect_spec hsel)
      (fun a s vs Ns w hM hs hC hR => by obtain ⟨L', hp, hk⟩ := Full.use hM hs hR; exact hk w (hC.perm hp)) (fun f done a s vs Ns w hM hs hC _ ⟨o, hf, ht, hT⟩ => by obtain ⟨L', hp, hk⟩ := Full.use hM hs hT; subst hf; exact AW_seqO o done _ w ht (hk w (hC.perm hp))) l.length done a (L', zc :: V2) vs Ns w hMd hrel (fun k hk => by rw [hsz]; exact sz (l := ⟨d, allocX t n⟩ :: ms2) (by simpa [List.all_map, Function.comp_def] using hd2) hk) rfl hC h1
  have H : AW r m P .any os.toArray Q os.toArray.size (Array.replicate os.toArray.size false) (fr bs us ds) W.drew := by
    have hc0 : Closed .any os.toArray ((Array.replicate os.toArray.size false).setIfInBounds z true) := fun j oj hj hd e he hb => by
      by_cases hjz : z = j
      · subst hjz
        obtain rfl : oj = oz' := Option.some.inj (hj.symm.trans hz.at_)
        rw [hz.after e he] at hb; cases hb
      · rw [getD_set_ne false hjz, ne0] at hd; cases hd
    have h1 := anyC_lexO (P := P) (w0 := w0) (S := S) (ms := ms) (md := .any) (kd := fun j => ks.getD j .tail) (ix := ix) (R := fun _ _ => False) (T := fun _ a' s' => Full ms s'.2 a' s'.1 T) (U := fun f done a s => f = rest.length ∧ Closed .any os.toArray done ∧ ck done = true ∧ Full ms s.2 a s.1 T)
      hM hsel (fun o done a s hc ht hT => by
        simp only [Bool.and_eq_true, beq_iff_eq] at ht
        refine ⟨by rw [ht.1], hc, ?_, hT⟩
        rw [hck]
        simp only [Bool.and_eq_true]; exact ht.2) (ord ++ rest) ((Array.replicate os.toArray.size false).setIfInBounds z true) (fr bs us ds) (L, V) (fun k hk => hv' k (by simp only [List.mem_cons]; exact .inr hk)) hc0 hlex h
    have relr : ∀ {done : Array Bool} {b : Bool}, (ix2.all fun i => !(i == z) && !(done.getD i false)) = true → done.getD z false = b → ∀ (vs : List (Option Value)) (v0 : Option Value), v0.isSome = b → (∀ v ∈ vs, v = none) → ∀ (q i : Nat), (z :: ix2)[q]? = some i → ((∃ v, (v0 :: vs)[q]? = some (some v)) ↔ done.getD i false = true) := by
      intro done b hix hb vs v0 hv0 hvs q i hq
      cases q with
      | zero =>
        simp only [List.getElem?_cons_zero, Option.some.injEq] at hq ⊢
        subst hq
        rw [hb, ← hv0]
        cases v0 <;> simp
      | succ q =>
        simp only [List.getElem?_cons_succ] at hq ⊢
        have := List.all_eq_true.1 hix i (List.mem_of_getElem? hq)
        simp only [Bool.and_eq_true, Bool.not_eq_true'] at this
        rw [this.2]
        constructor
        · rintro ⟨v, hv⟩
          have := hvs _ (List.mem_of_getElem? hv)
          cases this
        · intro h; cases h
    have h2 := anyC_v (N := (fr bs us ds).tmps.size) (P := P) (r := r) (m := m) (Q := Q) (allB_spec hall) (Region.noSelect_spec hsel) hz hns hal
      (fun f done a s vs Ns w g hMd hs hC hsz ⟨hf, hc, ht, hF⟩ => by
        rw [hck] at ht
        simp only [Bool.and_eq_true] at ht
        obtain ⟨⟨hzt, hix⟩, ht⟩ := ht
        obtain ⟨L', hp, hk⟩ := Full.use hMd hs hF
        rw [hT] at hk
        obtain ⟨ms2, V2, ⟨hD, hV2⟩, hk⟩ := hk
        subst hf
        have hpick : pickL os.toArray (z :: rest) = oz' :: pickL os.toArray rest := by simp only [pickL, hz.at_]
        rw [List.map_cons, hkz', hpick] at hk
        obtain ⟨v, s2, ⟨_, rfl, _⟩, hk⟩ := hk
        simp only [putK] at hk
        have ht' : lexO .any os.toArray (fun j => ks2.getD j .tail) (z :: ix2) M (fun o done => seqO .any os.toArray o done) rest done = true := by
          rw [lexO, hkz'] at ht
          simp only [Bool.and_eq_true] at ht
          rw [set_again hzt] at ht
          exact ht.2
        have h3 := lay2 rest done (puts a ms vs) L' w ms2 V2 (some (.pointer (some ⟨g, 0, none⟩)) :: List.replicate ms2.length none) ([⟨g, zc, t⟩] :: List.replicate ms2.length []) (fun k hk => hv' k (by simp [hk])) hc (.yes ⟨g, rfl, rfl, hzn⟩ (none_made ms2 V2 hV2))
          (relr hix hzt _ _ rfl (fun v hv => List.eq_of_mem_replicate hv)) hD (by rw [puts_size, hsz]) ht' hk (hC.perm (by
            have : (List.replicate ms2.length ([] : List Blk)).flatten = [] := by simp
            rw [List.flatten_cons, this, List.append_nil, List.append_assoc]
            exact (List.Perm.append_left _ List.perm_append_comm).trans (by rw [← List.append_assoc]; exact hp.append_right _)))
        rw [puts, none_puts, puts_put ms vs a (by rw [← hz.dst]; exact hz.ds), ← hz.dst] at h3
        exact h3)
      (fun f done a s vs Ns w hMd hs hC hsz hc hd ⟨hf, _, ht, hF⟩ => by
        rw [hck] at ht
        simp only [Bool.and_eq_true] at ht
        obtain ⟨⟨-, hix⟩, ht⟩ := ht
        rw [set_back hd] at ht
        obtain ⟨L', hp, hk⟩ := Full.use hMd hs hF
        rw [hT] at hk
        obtain ⟨ms2, V2, ⟨hD, hV2⟩, hk⟩ := hk
        subst hf
        have hix' : (ix2.all fun i => !(i == z) && !(done.getD i false)) = true := List.all_eq_true.2 fun i hi => by
          have := List.all_eq_true.1 hix i hi
          simp only [Bool.and_eq_true, Bool.not_eq_true', beq_eq_false_iff_ne] at this ⊢
          rw [getD_set_ne false (Ne.symm this.1)] at this
          exact this
        have h3 := lay2 (z :: rest) done (puts a ms vs) L' w ms2 V2 (none :: List.replicate ms2.length none) ([] :: List.replicate ms2.length []) (fun k hk => hv' k (by
          rcases List.mem_cons.1 hk with rfl | hk
          · simp
          · simp [hk])) hc (.no (none_made ms2 V2 hV2)) (relr hix' (getD_false_both hd) _ _ rfl (fun v hv => List.eq_of_mem_replicate hv)) hD (by rw [puts_size, hsz]) ht hk (hC.perm (by
            have : (List.replicate ms2.length ([] : List Blk)).flatten = [] := by simp
            rw [List.flatten_cons, this, List.append_nil, List.append_nil]
            exact hp))
        rw [puts, none_puts] at h3
        exact h3)
      (ord ++ rest).length (Array.replicate os.toArray.size false) (fr bs us ds) (L, V) _ _ W.drew (fun j oj _ hd => by rw [ne0] at hd; cases hd) (by simp only [List.size_toArray] at hzlt; simp [hzlt]) (none_made ms V hV) (made0 fun i _ => none_done _ _) (fun k hk => sz hd hk) rfl (by
        have : (List.replicate ms.length ([] : List Blk)).flatten = [] := by simp
        rw [this, List.append_nil]
        exact hW.drew) h1
    rw [none_puts, hlen] at h2
    exact h2
  cases r with
  | none => exact wp_region_any hm H
  | some k => exact wpIn_region_any hm H
theorem al_agg {o : Oper} {t : TypeId} {zc : List Value} (hz : TyZ P t (.agg zc.toArray)) (ho : o.op = .alloc t) : ∀ ρ w, (execOp ρ o).run P w = .ok (.value (.pointer (some ⟨w.heap.size, 0, none⟩))) (w.alloc (.cells zc.toArray t)) := fun ρ w => by
  unfold execOp
  simp only [ho, Instr.alloc, newVar, newRow, Value.cells, Sem.run_bind, Sem.run_pure, hz w, run_newObj, Result.andThen_ok]
  rfl
end
end Go.Proofs.YtoegpalacppllaaGreat

/- A query, by the reference. -/
namespace Go.Proofs.YtoegpalacppllaaGreat
open Go.RowKit Pl
open Tr Hn
/-- no box, as cells -/
theorem z31_no : (z31 : List Value) = boC noBo Sl.no := by kernel_rfl
end Go.Proofs.YtoegpalacppllaaGreat

/- A trace, by the reference, with its errors; the same finding, read twice. -/
namespace Go.Proofs.YtoegpalacppllaaGreat
open Go.RowKit Pl
open Tr Hn
theorem z38_no : (z38 : List Value) = fiC Sl.no ⟨none, 0, 0⟩ 0 0 := by kernel_rfl
end Go.Proofs.YtoegpalacppllaaGreat

/-
  DERIVED: THE SHELF's CONTRACTS AT THIS DUMP, IN PLAIN WORDS (tools/lay-plain.mjs out of 'TryzShelf.lean', which tools/lay-shelf.mjs wrote): THE SAME DECLARATIONS UNDER THE SAME NAMES: 'import', 'namespace', 'open', 'def', 'theorem' AND NOTHING ELSE: no command of the shelf's: FOR A HAND-IN. Each laying: the table of numbers ('.._ren') and one theorem, a field a fact of the dump's own or the kernel's comparison; each contract: ONE APPLICATION.
-/
namespace Go.Proofs
open Go.Shelf
def Tryz.lays125_ren : Go.Shelf.Ren := ⟨fun | 125 => 104 | 128 => 146 | 129 => 147 | n => n, fun | 46 => 113 | 3 => 3 | 51 => 223 | 53 => 22 | 4 => 4 | 5 => 5 | 9 => 9 | n => n, fun | n => n⟩
theorem Tryz.lays125 : Go.Proofs.Lays.n125 Tryz.prog Tryz.lays125_ren := {
  mixed := by kernel_rfl
  f125 := Tryz.func104.trans (congrArg some (by kernel_rfl))
  f128 := Tryz.func146.trans (congrArg some (by kernel_rfl))
  f129 := Tryz.func147.trans (congrArg some (by kernel_rfl))
  t3 := Tryz.underlying3
  a3 := Tryz.isAgg3
  z3 := Tryz.sizeOf3
  v3 := Tryz.zeroValue3
  t4 := Tryz.underlying4
  a4 := Tryz.isAgg4
  z4 := Tryz.sizeOf4
  v4 := Tryz.zeroValue4
  t5 := Tryz.underlying5
  a5 := Tryz.isAgg5
  z5 := Tryz.sizeOf5
  v5 := Tryz.zeroValue5
  t9 := Tryz.underlying9
  a9 := Tryz.isAgg9
  z9 := Tryz.sizeOf9
  v9 := Tryz.zeroValue9
  t46 := Tryz.underlying113
  a46 := Tryz.isAgg113
  z46 := Tryz.sizeOf113
  v46 := Tryz.zeroValue113
  t51 := Tryz.underlying223
  a51 := Tryz.isAgg223
  z51 := Tryz.sizeOf223
  v51 := Tryz.zeroValue223
  t53 := Tryz.underlying22
  a53 := Tryz.isAgg22
  z53 := Tryz.sizeOf22
  v53 := Tryz.zeroValue22 }
/-- bits.Len: "Len returns the minimum number of bits required to represent x; the result is 0 for x == 0.": IT RETURNS 'Lib.bitLen x'; the world is as it was. (A uint has 64 bits in the model.) ITS CALLEE bits.Len64 IS MET BY ITS OWN CONTRACT OFF THE SHELF (lay that first). (LAID: no walk: one application.) -/
theorem Tryz.bits_Len (x : Int) (w : World) (h0 : 0 ≤ x) (h1 : x ≤ 18446744073709551615) :
    Calls Tryz.prog 104 #[.int .u64 x] w fun e w' => e = .returned (.int .i64 (Lib.bitLen x.toNat)) ∧ w' = w := Any.bits_Len Tryz.lays125 x w h0 h1
def Tryz.lays189_ren : Go.Shelf.Ren := ⟨fun | 189 => 162 | 125 => 104 | 257 => 185 | 128 => 146 | 129 => 147 | 294 => 195 | 295 => 196 | 296 => 197 | 297 => 198 | 298 => 199 | 299 => 200 | 216 => 169 | 300 => 201 | 301 => 202 | 328 => 205 | 329 => 172 | 330 => 173 | 331 => 206 | 332 => 207 | 215 => 186 | 343 => 215 | n => n, fun | 28 => 27 | 3 => 3 | 46 => 113 | 0 => 0 | 51 => 223 | 53 => 22 | 4 => 4 | 183 => 217 | 182 => 216 | 131 => 209 | 5 => 5 | 9 => 9 | 218 => 242 | 222 => 246 | 228 => 254 | 229 => 255 | n => n, fun | n => n⟩
theorem Tryz.lays189 : Go.Proofs.Lays.n189 Tryz.prog Tryz.lays189_ren := {
  mixed := by kernel_rfl
  f125 := Tryz.func104.trans (congrArg some (by kernel_rfl))
  f128 := Tryz.func146.trans (congrArg some (by kernel_rfl))
  f129 := Tryz.func147.trans (congrArg some (by kernel_rfl))
  f189 := Tryz.func162.trans (congrArg some (by kernel_rfl))
  f215 := Tryz.func186.trans (congrArg some (by kernel_rfl))
  f216 := Tryz.func169.trans (congrArg some (by kernel_rfl))
  f257 := Tryz.func185.trans (congrArg some (by kernel_rfl))
  f294 := Tryz.func195.trans (congrArg some (by kernel_rfl))
  f295 := Tryz.func196.trans (congrArg some (by kernel_rfl))
  f296 := Tryz.func197.trans (congrArg some (by kernel_rfl))
  f297 := Tryz.func198.trans (congrArg some (by kernel_rfl))
  f298 := Tryz.func199.trans (congrArg some (by kernel_rfl))
  f299 := Tryz.func200.trans (congrArg some (by kernel_rfl))
  f300 := Tryz.func201.trans (congrArg some (by kernel_rfl))
  f301 := Tryz.func202.trans (congrArg some (by kernel_rfl))
  f328 := Tryz.func205.trans (congrArg some (by kernel_rfl))
  f329 := Tryz.func172.trans (congrArg some (by kernel_rfl))
  f330 := Tryz.func173.trans (congrArg some (by kernel_rfl))
  f331 := Tryz.func206.trans (congrArg some (by kernel_rfl))
  f332 := Tryz.func207.trans (congrArg some (by kernel_rfl))
  f343 := Tryz.func215.trans (congrArg some (by kernel_rfl))
  t0 := Tryz.underlying0
  a0 := Tryz.isAgg0
  z0 := Tryz.sizeOf0
  v0 := Tryz.zeroValue0
  t3 := Tryz.underlying3
  a3 := Tryz.isAgg3
  z3 := Tryz.sizeOf3
  v3 := Tryz.zeroValue3
  t4 := Tryz.underlying4
  a4 := Tryz.isAgg4
  z4 := Tryz.sizeOf4
  v4 := Tryz.zeroValue4
  t5 := Tryz.underlying5
  a5 := Tryz.isAgg5
  z5 := Tryz.sizeOf5
  v5 := Tryz.zeroValue5
  t9 := Tryz.underlying9
  a9 := Tryz.isAgg9
  z9 := Tryz.sizeOf9
  v9 := Tryz.zeroValue9
  t28 := Tryz.underlying27
  a28 := Tryz.isAgg27
  z28 := Tryz.sizeOf27
  v28 := Tryz.zeroValue27
  t46 := Tryz.underlying113
  a46 := Tryz.isAgg113
  z46 := Tryz.sizeOf113
  v46 := Tryz.zeroValue113
  t51 := Tryz.underlying223
  a51 := Tryz.isAgg223
  z51 := Tryz.sizeOf223
  v51 := Tryz.zeroValue223
  t53 := Tryz.underlying22
  a53 := Tryz.isAgg22
  z53 := Tryz.sizeOf22
  v53 := Tryz.zeroValue22
  t131 := Tryz.underlying209
  a131 := Tryz.isAgg209
  z131 := Tryz.sizeOf209
  v131 := Tryz.zeroValue209
  t182 := Tryz.underlying216
  a182 := Tryz.isAgg216
  z182 := Tryz.sizeOf216
  v182 := Tryz.zeroValue216
  t183 := Tryz.underlying217
  a183 := Tryz.isAgg217
  z183 := Tryz.sizeOf217
  v183 := Tryz.zeroValue217
  t218 := Tryz.underlying242
  a218 := Tryz.isAgg242
  z218 := Tryz.sizeOf242
  v218 := Tryz.zeroValue242
  t222 := Tryz.underlying246
  a222 := Tryz.isAgg246
  z222 := Tryz.sizeOf246
  v222 := Tryz.zeroValue246
  t228 := Tryz.underlying254
  a228 := Tryz.isAgg254
  z228 := Tryz.sizeOf254
  v228 := Tryz.zeroValue254
  t229 := Tryz.underlying255
  a229 := Tryz.isAgg255
  z229 := Tryz.sizeOf255
  v229 := Tryz.zeroValue255 }
open Go.Sort Go.RowKit in
theorem Tryz.slices_Sort_int (blk off cap : Nat) (zs : List Int) (w : World) (hH : Holds (Value.int .i64) w blk off zs.toArray) (hblk : blk < w.heap.size) (hsz : zs.length < 4611686018427387904) :
    Calls Tryz.prog 162 #[.slice (some ⟨blk, off, none⟩) zs.length cap] w fun e w' =>
      e = .returned (.tuple #[]) ∧ ∃ n os, w' = grow (putRow (Value.int .i64) (Sort.ahead w n) blk off (zs.mergeSort fun x y => decide (x ≤ y)).toArray) os := Any.slices_Sort_int Tryz.lays189 blk off cap zs w hH hblk hsz
def Tryz.laysNm220_ren : Go.Shelf.Ren := ⟨fun | 20 => 86 | n => n, fun | 22 => 27 | 3 => 3 | 4 => 4 | 0 => 0 | n => n, fun | n => n⟩
theorem Tryz.laysNm220 : Go.Proofs.Lays2.n20 Tryz.prog Tryz.laysNm220_ren := {
  mixed := by kernel_rfl
  f20 := Tryz.func86.trans (congrArg some (by kernel_rfl))
  t0 := Tryz.underlying0
  a0 := Tryz.isAgg0
  z0 := Tryz.sizeOf0
  v0 := Tryz.zeroValue0
  t3 := Tryz.underlying3
  a3 := Tryz.isAgg3
  z3 := Tryz.sizeOf3
  v3 := Tryz.zeroValue3
  t4 := Tryz.underlying4
  a4 := Tryz.isAgg4
  z4 := Tryz.sizeOf4
  v4 := Tryz.zeroValue4
  t22 := Tryz.underlying27
  a22 := Tryz.isAgg27
  z22 := Tryz.sizeOf27
  v22 := Tryz.zeroValue27
  i3 := by kernel_rfl }
open Go.RowKit Go.Lib Go.Sort in
/-- slices.Compact at []int: "Compact replaces consecutive runs of equal elements with a single copy. This is like the uniq command found on Unix. Compact modifies the contents of the slice s and returns the modified slice, which may have a smaller length. Compact zeroes the elements between the new length and the original length. The result preserves the nilness of s.": IT RETURNS THE SLICE CUT TO 'Lib.compact zs'; ITS CELLS HOLD 'Lib.compact zs', THEN ZERO VALUES up to the old length; all else is as it was, but for the count of draws. IN THE WORDS OF slices.Sort's CONTRACT ('Holds', 'putRow'): so the everyday 'slices.Sort(xs); xs = slices.Compact(xs)' goes from the one contract to the other. It asks 'zs.length ≤ cap' (every slice's: the reslicing 's[:k]' looks at it). Length 0, nil: '.._empty'. (LAID: no walk: one application.) -/
theorem Tryz.slices_Compact_int (blk off cap : Nat) (zs : List Int) (w : World) (hH : Holds (Value.int .i64) w blk off zs.toArray) (hsz : zs.length ≤ 9223372036854775807) (hcap : zs.length ≤ cap) :
    Calls Tryz.prog 86 #[.slice (some ⟨blk, off, none⟩) zs.length cap] w fun e w' => e = .returned (.slice (some ⟨blk, off, none⟩) (Lib.compact zs).length cap) ∧ ∃ q, w' = putRow (Value.int .i64) (Sort.ahead w q) blk off (Lib.compact zs ++ List.replicate (zs.length - (Lib.compact zs).length) 0).toArray := Any.slices_Compact_int Tryz.laysNm220 blk off cap zs w hH hsz hcap
open Go.RowKit Go.Lib Go.Sort in
/-- The same at a slice of length 0, a nil one too: it comes back as it is. (LAID: no walk: one application.) -/
theorem Tryz.slices_Compact_int_empty (a : Option Addr) (cap : Nat) (w : World) :
    Calls Tryz.prog 86 #[.slice a 0 cap] w fun e w' => e = .returned (.slice a 0 cap) ∧ w' = w := Any.slices_Compact_int_empty Tryz.laysNm220 a cap w
def Tryz.laysNm225_ren : Go.Shelf.Ren := ⟨fun | 25 => 132 | 31 => 169 | 32 => 170 | 37 => 186 | n => n, fun | 22 => 27 | 3 => 3 | 4 => 4 | 40 => 113 | 0 => 0 | n => n, fun | n => n⟩
theorem Tryz.laysNm225 : Go.Proofs.Lays2.n25 Tryz.prog Tryz.laysNm225_ren := {
  mixed := by kernel_rfl
  f25 := Tryz.func132.trans (congrArg some (by kernel_rfl))
  f31 := Tryz.func169.trans (congrArg some (by kernel_rfl))
  f32 := Tryz.func170.trans (congrArg some (by kernel_rfl))
  f37 := Tryz.func186.trans (congrArg some (by kernel_rfl))
  t0 := Tryz.underlying0
  a0 := Tryz.isAgg0
  z0 := Tryz.sizeOf0
  v0 := Tryz.zeroValue0
  t3 := Tryz.underlying3
  a3 := Tryz.isAgg3
  z3 := Tryz.sizeOf3
  v3 := Tryz.zeroValue3
  t4 := Tryz.underlying4
  a4 := Tryz.isAgg4
  z4 := Tryz.sizeOf4
  v4 := Tryz.zeroValue4
  t22 := Tryz.underlying27
  a22 := Tryz.isAgg27
  z22 := Tryz.sizeOf27
  v22 := Tryz.zeroValue27
  t40 := Tryz.underlying113
  a40 := Tryz.isAgg113
  z40 := Tryz.sizeOf113
  v40 := Tryz.zeroValue113 }
open Go.RowKit Go.Lib in
/-- slices.BinarySearch at []int: "BinarySearch searches for target in a sorted slice and returns the earliest position where target is found, or the position where target would appear in the sort order; it also returns a bool saying whether the target is really found in the slice. The slice must be sorted in increasing order.": OF A SORTED SLICE IT RETURNS how many elements are less than the target, and whether the target is among the elements; the world is as it was but for the count of draws. 'zs': what the cells behind the slice's address hold; 'zs.take n': its elements. (Of a slice that is not sorted: no contract here.) (LAID: no walk: one application.) -/
theorem Tryz.slices_BinarySearch_int (b off n c : Nat) (zs : List Int) (x : Int) (w : World) (hz : n ≤ zs.length) (hbig : n < 4611686018427387904) (hc : ∀ j, j < zs.length → w.cell? ⟨b, off + j, none⟩ = some (.int .i64 (zs.getD j 0))) (hs : (zs.take n).Pairwise (· ≤ ·)) :
    Calls Tryz.prog 132 #[.slice (some ⟨b, off, none⟩) n c, .int .i64 x] w fun e w' => e = .returned (.tuple #[.int .i64 ((zs.take n).countP (· < x) : Nat), .bool ((zs.take n).contains x)]) ∧ ∃ q, w' = w.drewN q := Any.slices_BinarySearch_int Tryz.laysNm225 b off n c zs x w hz hbig hc hs
open Go.RowKit Go.Sort in
/-- .. and plain. (LAID: no walk: one application.) -/
theorem Tryz.slices_Sort_int_none (p : Option Addr) (cap : Nat) (w : World) :
    Calls Tryz.prog 162 #[.slice p 0 cap] w fun e w' => e = .returned (.tuple #[]) ∧ w' = w := Any.slices_Sort_int_none Tryz.lays189 p cap w
open Go.RowKit Go.Lib in
/-- slices.BinarySearch at []int of no element: position 0, not found; the world is as it was. (LAID: no walk: one application.) -/
theorem Tryz.slices_BinarySearch_int_empty (a : Option Addr) (c : Nat) (x : Int) (w : World) :
    Calls Tryz.prog 132 #[.slice a 0 c, .int .i64 x] w fun e w' => e = .returned (.tuple #[.int .i64 0, .bool false]) ∧ w' = w := Any.slices_BinarySearch_int_empty Tryz.laysNm225 a c x w
end Go.Proofs

/- Nodes and trees, by the program. -/
namespace Go.Proofs.YtoegpalacppllaaGreat
open Go.RowKit Pl
open Tr Hn
theorem bitLen_tab : (Tr.upto 128 fun v => Nat.ble v 0 || Nat.beq (Lib.bitLen v) (lev v + 1)) = true := by decide +kernel
theorem bitLen_lev {v : Nat} (h0 : 0 < v) (h : v < 128) : Lib.bitLen v = lev v + 1 := by
 have := Tr.upto_get bitLen_tab h
 simp only [Bool.or_eq_true, Nat.ble_eq] at this
 rcases this with h1 | h1
 ·omega
 ·exact Nat.eq_of_beq_eq_true h1
theorem g_Len (n : Nat) (h : n < 18446744073709551616) : Gives Tryz.prog 104 [.int .u64 (n : Int)].toArray (.int .i64 (Lib.bitLen n)) := fun w =>
 (Tryz.bits_Len n w (by omega) (by omega)).mono fun e w' ⟨he, hw⟩ => ⟨he, hw ▸ Below.refl _ _⟩
set_option maxRecDepth 10000 in
/-- (headend/cover.node).level -/
theorem g_plevel (v : Nat) (h0 : 0 < v) (h : v < 128) : Gives Tryz.prog 102 [.int .i64 (v : Int)].toArray (.int .i64 ((lev v) : Int)) := by
 refine gives_of Tryz.func102 rfl (bs := [.int .i64 (v : Int), undef, undef, undef, undef, undef, undef]) rfl ?_
 intro w hW
 have hb := bitLen_lev h0 h
 have hlv := lev_le h
 refine c_seq (c_reg ?_)
 refine bI ?_
 refine l_end (n_then (c_seq (c_reg ?_)))
 refine aI ?_
 refine l_val (r_conv_i64_u64 (n := v) Tryz.underlying111 Tryz.underlying113 rfl rfl) rfl rfl ?_
 rw [show (BitVec.ofNat 64 v).toNat = v by rw [BitVec.toNat_ofNat]; omega]
 refine l_call hW (g_Len v (by omega)) en104 rfl rfl rfl rfl ?_
 intro W hW
 rw [hb]
 refine l_val (r_subN (m := lev v + 1) (n := 1) rfl rfl rfl (by omega) (by omega)) rfl rfl ?_
 refine bI ?_
 refine l_end (n_then (c_ret ?_))
 refine ret_tmp (v := .int .i64 ((lev v) : Int)) rfl ?_ ⟨rfl, hW.below⟩
 rfl

set_option maxRecDepth 10000 in
/-- (headend/cover.tree).size -/
theorem g_psize (s : Sc) (h0 : 0 ≤ s.d) (h6 : s.d ≤ 6) : Gives Tryz.prog 99 [.agg [.int .u8 s.k, .int .i64 s.d, .int .i64 (strideN s.d : Int)].toArray].toArray (.int .i64 ((p2 s.d.toNat : Nat) : Int)) := by
 refine gives_of Tryz.func99 rfl (bs := [.agg [.int .u8 s.k, .int .i64 s.d, .int .i64 (strideN s.d : Int)].toArray, undef, undef, undef, undef, undef]) rfl ?_
 intro w hW
 have hp := p2_le (n := s.d.toNat) (by omega)
 refine c_seq (c_reg ?_)
 refine xB hW ?_
 intro g1 W hW
 refine bI ?_
 refine l_end (n_then (c_seq (c_reg ?_)))
 refine l_val (r_fieldAddr 1 Tryz.underlying106 rfl tyC3.size rfl rfl rfl) rfl rfl ?_
 refine dC hW 0 tyC3 ?_
 refine l_val (r_shlZ (m := 1) rfl rfl rfl (by omega) (by omega) (by omega)) rfl rfl ?_
 refine bI ?_
 refine l_end (n_then (c_ret ?_))
 refine ret_tmp (v := .int .i64 ((p2 s.d.toNat : Nat) : Int)) rfl ?_ ⟨rfl, hW.below⟩
 exact congrArg (fun n : Nat => Value.int .i64 (n : Int)) (Nat.one_mul _)

set_option maxRecDepth 10000 in
/-- (headend/cover.tree).leaf -/
theorem g_pleaf (s : Sc) (u : Nat) (h0 : 0 ≤ s.d) (h6 : s.d ≤ 6) (hu : u < p2 s.d.toNat) : Gives Tryz.prog 53 [.agg [.int .u8 s.k, .int .i64 s.d, .int .i64 (strideN s.d : Int)].toArray, .int .i64 (u : Int)].toArray (.int .i64 ((p2 s.d.toNat + u : Nat) : Int)) := by
 refine gives_of Tryz.func53 rfl (bs := [.agg [.int .u8 s.k, .int .i64 s.d, .int .i64 (strideN s.d : Int)].toArray, .int .i64 (u : Int), undef, undef, undef, undef, undef, undef, undef]) rfl ?_
 intro w hW
 have hp := p2_le (n := s.d.toNat) (by omega)
 refine c_seq (c_reg ?_)
 refine xB hW ?_
 intro g1 W hW
 refine bI ?_
 refine l_end (n_then (c_seq (c_reg ?_)))
 refine dA hW 0 tyA106 ?_
 refine l_call hW (g_psize s (by omega) (by omega)) en99 rfl rfl rfl rfl ?_
 intro W hW
 refine aI ?_
 refine l_val (r_addN rfl rfl rfl (by omega)) rfl rfl ?_
 refine bI ?_
 refine l_end (n_then (c_ret ?_))
 refine ret_tmp (v := .int .i64 ((p2 s.d.toNat + u : Nat) : Int)) rfl ?_ ⟨rfl, hW.below⟩
 rfl

set_option maxRecDepth 10000 in
/-- (headend/cover.tree).has -/
theorem g_phas (s : Sc) (v : Int) (h0 : 0 ≤ s.d) (h6 : s.d ≤ 6) : Gives Tryz.prog 113 [.agg [.int .u8 s.k, .int .i64 s.d, .int .i64 (strideN s.d : Int)].toArray, .int .i64 v].toArray (.bool (nodeB s.d v)) := by
 refine gives_of Tryz.func113 rfl (bs := [.agg [.int .u8 s.k, .int .i64 s.d, .int .i64 (strideN s.d : Int)].toArray, .int .i64 v, undef, undef, undef, undef, undef, undef, undef, undef, undef, undef, undef, undef]) rfl ?_
 intro w hW
 have hp := p2_le (n := s.d.toNat) (by omega)
 refine c_seq (c_reg ?_)
 refine xB hW ?_
 intro g1 W hW
 refine bB ?_
 refine l_end (n_then (c_seq (c_reg ?_)))
 refine aI ?_
 refine l_val (r_geq rfl rfl rfl rfl) rfl rfl ?_
 refine l_split ?_ ?_
 ·intro hc1
  replace hc1 := of_decide_eq_true hc1
  refine aB ?_
  refine gI ?_
  refine l_loadAG hW 0 tyA106 (by kernel_rfl) rfl rfl rfl rfl (by first | rfl | exact kc_len _ | exact kcf_len _ | exact boC_len _ _ | (simp; done)) ?_
  refine l_callG hW (g_psize s (by omega) (by omega)) en99 (by kernel_rfl) rfl rfl rfl ?_
  intro W hW
  refine l_valG (r_mulN (m := 2) rfl rfl rfl (by omega)) (by kernel_rfl) rfl ?_
  refine l_valG (r_lss rfl rfl rfl rfl) (by kernel_rfl) rfl ?_
  refine kB ?_
  refine bB ?_
  refine l_end (n_then (c_ret ?_))
  refine ret_tmp (v := .bool (nodeB s.d v)) rfl ?_ ⟨rfl, hW.below⟩
  exact congrArg Value.bool (decide_eq_decide.2 (by omega))
 ·intro hc1
  replace hc1 := of_decide_eq_false hc1
  refine aB ?_
  refine lN ?_
  refine lN ?_
  refine lN ?_
  refine lN ?_
  refine lN ?_
  refine kB ?_
  refine bB ?_
  refine l_end (n_then (c_ret ?_))
  refine ret_tmp (v := .bool (nodeB s.d v)) rfl ?_ ⟨rfl, hW.below⟩
  exact congrArg Value.bool (decide_eq_false (by omega)).symm

set_option maxRecDepth 10000 in
/-- (headend/cover.node).below -/
theorem g_pbelow (y v : Nat) (hy : 0 < y) (hy2 : y < 128) (hv : 0 < v) (hv2 : v < 128) : Gives Tryz.prog 114 [.int .i64 (y : Int), .int .i64 (v : Int)].toArray (.bool (belowN y v)) := by
 refine gives_of Tryz.func114 rfl (bs := [.int .i64 (y : Int), .int .i64 (v : Int), undef, undef, undef, undef, undef, undef, undef, undef, undef, undef, undef, undef, undef, undef, undef, undef, undef, undef, undef, undef, undef, undef, undef, undef, undef]) rfl ?_
 intro w hW
 have l1 := lev_le hy2
 have l2 := lev_le hv2
 refine c_seq (c_reg ?_)
 refine bB ?_
 refine l_end (n_then (c_seq (c_seq (c_reg ?_))))
 refine aI ?_
 refine l_val (r_lssN (n := 1) rfl rfl rfl rfl) rfl rfl ?_
 refine l_split ?_ ?_
 ·intro hc1
  replace hc1 := of_decide_eq_true hc1
  refine aB ?_
  refine lN ?_
  refine lN ?_
  refine kB ?_
  refine aB ?_
  refine lN ?_
  refine lN ?_
  refine lN ?_
  refine lN ?_
  refine lN ?_
  refine kB ?_
  refine l_end (n_then ?_)
  refine c_true rfl ?_
  refine c_seq (c_reg ?_)
  refine bB ?_
  refine l_end (n_then (c_ret (r_then ?_)))
  refine ret_tmp (v := .bool (belowN y v)) rfl ?_ ⟨rfl, hW.below⟩
  exact congrArg Value.bool (by rw [eq_comm, ← Bool.not_eq_true, below_iff]; omega)
 ·intro hc1
  replace hc1 := of_decide_eq_false hc1
  refine aB ?_
  refine gI ?_
  refine l_valG (r_lssN (n := 1) rfl rfl rfl rfl) (by kernel_rfl) rfl ?_
  refine l_split ?_ ?_
  ·intro hc2
   replace hc2 := of_decide_eq_true hc2
   refine kB ?_
   refine aB ?_
   refine lN ?_
   refine lN ?_
   refine lN ?_
   refine lN ?_
   refine lN ?_
   refine kB ?_
   refine l_end (n_then ?_)
   refine c_true rfl ?_
   refine c_seq (c_reg ?_)
   refine bB ?_
   refine l_end (n_then (c_ret (r_then ?_)))
   refine ret_tmp (v := .bool (belowN y v)) rfl ?_ ⟨rfl, hW.below⟩
   exact congrArg Value.bool (by rw [eq_comm, ← Bool.not_eq_true, below_iff]; omega)
  ·intro hc2
   replace hc2 := of_decide_eq_false hc2
   refine kB ?_
   refine aB ?_
   refine gI ?_
   refine l_callG hW (g_plevel _ (by omega) (by omega)) en102 (by kernel_rfl) rfl rfl rfl ?_
   intro W hW
   refine gI ?_
   refine l_callG hW (g_plevel _ (by omega) (by omega)) en102 (by kernel_rfl) rfl rfl rfl ?_
   intro W hW
   refine l_valG (r_lssN rfl rfl rfl rfl) (by kernel_rfl) rfl ?_
   refine l_split ?_ ?_
   ·intro hc3
    replace hc3 := of_decide_eq_true hc3
    refine kB ?_
    refine l_end (n_then ?_)
    refine c_true rfl ?_
    refine c_seq (c_reg ?_)
    refine bB ?_
    refine l_end (n_then (c_ret (r_then ?_)))
    refine ret_tmp (v := .bool (belowN y v)) rfl ?_ ⟨rfl, hW.below⟩
    exact congrArg Value.bool (by rw [eq_comm, ← Bool.not_eq_true, below_iff]; omega)
   ·intro hc3
    replace hc3 := of_decide_eq_false hc3
    refine kB ?_
    refine l_end (n_then ?_)
    refine c_false rfl ?_
    refine c_skip (n_then (c_seq (c_reg ?_)))
    refine aI ?_
    refine aI ?_
    refine l_call hW (g_plevel _ (by omega) (by omega)) en102 rfl rfl rfl rfl ?_
    intro W hW
    refine aI ?_
    refine l_call hW (g_plevel _ (by omega) (by omega)) en102 rfl rfl rfl rfl ?_
    intro W hW
    refine l_val (r_subN rfl rfl rfl (by omega) (by omega)) rfl rfl ?_
    refine l_val (r_shr_i64N (n := y) (s := lev y - lev v) rfl rfl rfl (by omega)) rfl rfl ?_
    refine aI ?_
    refine l_val (r_eqlN rfl rfl rfl rfl) rfl rfl ?_
    refine bB ?_
    refine l_end (n_then (c_ret ?_))
    refine ret_tmp (v := .bool (belowN y v)) rfl ?_ ⟨rfl, hW.below⟩
    exact congrArg Value.bool (by rw [Bool.eq_iff_iff]; simp only [decide_eq_true_eq, belowN, Bool.and_eq_true, Nat.ble_eq, Nat.beq_eq, sh_eq]; omega)

end Go.Proofs.YtoegpalacppllaaGreat

/- Members, by the program. -/
namespace Go.Proofs.YtoegpalacppllaaGreat
open Go.RowKit Pl
open Tr Hn
set_option maxRecDepth 10000 in
/-- (headend/cover.tree).special -/
theorem g_pspecial (s : Sc) (v : Nat) (hv : 0 < v) (hv2 : v < 128) : Gives Tryz.prog 57 [.agg [.int .u8 s.k, .int .i64 s.d, .int .i64 (strideN s.d : Int)].toArray, .int .i64 (v : Int)].toArray (.bool (specN s.d v)) := by
 refine gives_of Tryz.func57 rfl (bs := [.agg [.int .u8 s.k, .int .i64 s.d, .int .i64 (strideN s.d : Int)].toArray, .int .i64 (v : Int), undef, undef, undef, undef, undef, undef, undef, undef, undef]) rfl ?_
 intro w hW
 have hsp := stride_pos s.d
 refine c_seq (c_reg ?_)
 refine xB hW ?_
 intro g1 W hW
 refine bB ?_
 refine l_end (n_then (c_seq ?_))
 refine c_regY hW [] [.q, .q, .q, .q, .q, .q, .q] [0, 1, 0, 4, 15, 31, 63] (by kernel_rfl) (by kernel_rfl) ?_
 refine yI ?_
 refine y_call (g_plevel _ (by omega) (by omega)) en102 rfl rfl rfl rfl ?_
 refine y_val (r_fieldAddr 2 Tryz.underlying106 rfl tyC3.size rfl rfl rfl) rfl rfl ?_
 refine y_loadC 0 tyC3 rfl rfl rfl rfl rfl rfl (by decide) ?_
 refine y_val (r_remN rfl rfl rfl (by omega)) rfl rfl ?_
 refine y_val (r_eqlN (n := 0) rfl rfl rfl rfl) rfl rfl ?_
 refine y_val (r_assign (v := .bool _) rfl rfl) rfl rfl ?_
 refine y_end ?_
 intro W hW
 refine n_then (c_ret ?_)
 refine ret_tmp (v := .bool (specN s.d v)) rfl ?_ ⟨rfl, hW.below⟩
 exact congrArg Value.bool (by rw [Bool.eq_iff_iff]; simp only [decide_eq_true_eq, specN, Nat.beq_eq] <;> omega)

set_option maxRecDepth 10000 in
/-- (headend/cover.node).toward -/
theorem g_ptoward (v y : Nat) (hv : 0 < v) (hv2 : v < 128) (hy : 0 < y) (hy2 : y < 128) (h : lev v < lev y) : Gives Tryz.prog 110 [.int .i64 (v : Int), .int .i64 (y : Int)].toArray (.int .i64 ((sh y (lev y - lev v - 1) : Nat) : Int)) := by
 refine gives_of Tryz.func110 rfl (bs := [.int .i64 (v : Int), .int .i64 (y : Int), undef, undef, undef, undef, undef, undef, undef, undef, undef, undef, undef]) rfl ?_
 intro w hW
 have l1 := lev_le hy2
 refine c_seq (c_reg ?_)
 refine bI ?_
 refine l_end (n_then (c_seq (c_reg ?_)))
 refine aI ?_
 refine aI ?_
 refine l_call hW (g_plevel _ (by omega) (by omega)) en102 rfl rfl rfl rfl ?_
 intro W hW
 refine aI ?_
 refine l_call hW (g_plevel _ (by omega) (by omega)) en102 rfl rfl rfl rfl ?_
 intro W hW
 refine l_val (r_subN rfl rfl rfl (by omega) (by omega)) rfl rfl ?_
 refine l_val (r_subN (n := 1) rfl rfl rfl (by omega) (by omega)) rfl rfl ?_
 refine l_val (r_shr_i64N (n := y) (s := lev y - lev v - 1) rfl rfl rfl (by omega)) rfl rfl ?_
 refine bI ?_
 refine l_end (n_then (c_ret ?_))
 refine ret_tmp (v := .int .i64 ((sh y (lev y - lev v - 1) : Nat) : Int)) rfl ?_ ⟨rfl, hW.below⟩
 exact congrArg (fun n : Nat => Value.int .i64 (n : Int)) (sh_eq _ _).symm

set_option maxRecDepth 10000 in
/-- (headend/cover.node).below -/
theorem g_pbelow0 (y : Nat) (hy : 0 < y) : Gives Tryz.prog 114 [.int .i64 (y : Int), .int .i64 0].toArray (.bool false) := by
 refine gives_of Tryz.func114 rfl (bs := [.int .i64 (y : Int), .int .i64 0, undef, undef, undef, undef, undef, undef, undef, undef, undef, undef, undef, undef, undef, undef, undef, undef, undef, undef, undef, undef, undef, undef, undef, undef, undef]) rfl ?_
 intro w hW
 refine c_seq (c_reg ?_)
 refine bB ?_
 refine l_end (n_then (c_seq (c_seq (c_reg ?_))))
 refine aI ?_
 refine l_val (r_lssN (n := 1) rfl rfl rfl rfl) rfl rfl ?_
 refine l_split ?_ ?_
 ·intro hc1
  replace hc1 := of_decide_eq_true hc1
  omega
 ·intro hc1
  replace hc1 := of_decide_eq_false hc1
  refine aB ?_
  refine gI ?_
  refine l_valG (r_lss (b := true) rfl rfl rfl (by decide)) (by kernel_rfl) rfl ?_
  refine kB ?_
  refine aB ?_
  refine lN ?_
  refine lN ?_
  refine lN ?_
  refine lN ?_
  refine lN ?_
  refine kB ?_
  refine l_end (n_then ?_)
  refine c_true rfl ?_
  refine c_seq (c_reg ?_)
  refine bB ?_
  refine l_end (n_then (c_ret (r_then ?_)))
  refine ret_tmp (v := .bool false) rfl ?_ ⟨rfl, hW.below⟩
  rfl

/-- below, of whole numbers -/
theorem g_pbelowZ (y : Nat) (v : Int) (hy : 0 < y) (hy2 : y < 128) (hv : 0 ≤ v) (hv2 : v < 128) : Gives Tryz.prog 114 [.int .i64 (y : Int), .int .i64 v].toArray (.bool (!decide (v = 0) && belowN y v.toNat)) := by
 by_cases h : v = 0
 ·subst h
  exact g_pbelow0 y hy
 ·obtain ⟨v', rfl⟩ : ∃ n : Nat, v = n := ⟨v.toNat, by omega⟩
  rw [decide_eq_false h]
  exact g_pbelow y v' hy hy2 (by omega) (by omega)
set_option maxRecDepth 10000 in
/-- (headend/cover.tree).member -/
theorem g_pmember (s : Sc) (v x : Int) (u : Nat) (h0 : 0 ≤ s.d) (h6 : s.d ≤ 6) (hv : 1 ≤ v) (hv2 : v < 128) (hx0 : 0 ≤ x) (hx2 : x < 128) (hu : u < p2 s.d.toNat) : Gives Tryz.prog 133 [.agg [.int .u8 s.k, .int .i64 s.d, .int .i64 (strideN s.d : Int)].toArray, .agg [.int .i64 v, .int .i64 x].toArray, .int .i64 (u : Int)].toArray (.bool (memB s v x u)) := by
 refine gives_of Tryz.func133 rfl (bs := [.agg [.int .u8 s.k, .int .i64 s.d, .int .i64 (strideN s.d : Int)].toArray, .agg [.int .i64 v, .int .i64 x].toArray, .int .i64 (u : Int), undef, undef, undef, undef, undef, undef, undef, undef, undef, undef, undef, undef, undef, undef, undef, undef, undef, undef, undef]) rfl ?_
 intro w hW
 have hp := p2_le (n := s.d.toNat) (by omega)
 have hp0 := p2_pos s.d.toNat
 refine c_seq (c_reg ?_)
 refine xB hW ?_
 intro g1 W hW
 refine xB hW ?_
 intro g2 W hW
 refine bB ?_
 refine l_end (n_then (c_seq (c_reg ?_)))
 refine dA hW 1 tyA106 ?_
 refine aI ?_
 refine l_call hW (g_pleaf s u (by omega) (by omega) (by omega)) en53 rfl rfl rfl rfl ?_
 intro W hW
 refine bI ?_
 refine l_end (n_then (c_seq (c_reg ?_)))
 refine aI ?_
 refine l_val (r_fieldAddr 0 Tryz.underlying64 rfl tyC3.size rfl rfl rfl) rfl rfl ?_
 refine dC hW 0 tyC3 ?_
 refine l_call hW (g_pbelowZ (p2 s.d.toNat + u) v (by omega) (by omega) (by omega) (by omega)) en114 rfl rfl rfl rfl ?_
 intro W hW
 refine l_split ?_ ?_
 ·intro hc1
  refine aB ?_
  refine gI ?_
  refine l_valG (r_fieldAddr 1 Tryz.underlying64 rfl tyC3.size rfl rfl rfl) (by kernel_rfl) rfl ?_
  refine dG hW 0 tyC3 ?_
  refine l_callG hW (g_pbelowZ (p2 s.d.toNat + u) x (by omega) (by omega) (by omega) (by omega)) en114 (by kernel_rfl) rfl rfl rfl ?_
  intro W hW
  refine l_valG (r_not rfl rfl) (by kernel_rfl) rfl ?_
  refine kB ?_
  refine bB ?_
  refine l_end (n_then (c_ret ?_))
  refine ret_tmp (v := .bool (memB s v x u)) rfl ?_ ⟨rfl, hW.below⟩
  rw [decide_eq_false (show ¬ v = 0 by omega)] at hc1
  exact congrArg Value.bool (by rw [memB, show belowN (p2 s.d.toNat + u) v.toNat = true from hc1]; cases decide (x = 0) <;> simp)
 ·intro hc1
  refine aB ?_
  refine lN ?_
  refine lN ?_
  refine lN ?_
  refine lN ?_
  refine lN ?_
  refine kB ?_
  refine bB ?_
  refine l_end (n_then (c_ret ?_))
  refine ret_tmp (v := .bool (memB s v x u)) rfl ?_ ⟨rfl, hW.below⟩
  rw [decide_eq_false (show ¬ v = 0 by omega)] at hc1
  exact congrArg Value.bool (by rw [memB, show belowN (p2 s.d.toNat + u) v.toNat = false from hc1]; rfl)

set_option maxRecDepth 10000 in
/-- (headend/cover.tree).members -/
theorem g_pmembers (s : Sc) (v x : Int) (h0 : 0 ≤ s.d) (h6 : s.d ≤ 6) (hv : 1 ≤ v) (hv2 : v < 128) (hx0 : 0 ≤ x) (hx2 : x < 128) : GivesX Tryz.prog 89 [.agg [.int .u8 s.k, .int .i64 s.d, .int .i64 (strideN s.d : Int)].toArray, .agg [.int .i64 v, .int .i64 x].toArray].toArray (fun _ => True) (NewSl 3 1 (membersN s v x (p2 s.d.toNat)).length (il (membersN s v x (p2 s.d.toNat)))) := by
 refine givesX_of Tryz.func89 rfl (bs := [.agg [.int .u8 s.k, .int .i64 s.d, .int .i64 (strideN s.d : Int)].toArray, .agg [.int .i64 v, .int .i64 x].toArray, undef, undef, undef, undef, undef, undef, undef, undef, undef, undef, undef, undef, undef, undef, undef, undef, undef, undef, undef, undef]) rfl ?_
 intro w hP hW
 have hp := p2_le (n := s.d.toNat) (by omega)
 refine c_seq (c_reg ?_)
 refine xB hW ?_
 intro g1 W hW
 refine xB hW ?_
 intro g2 W hW
 refine bS ?_
 refine l_end (n_then (c_seq (c_reg ?_)))
 refine bS ?_
 refine l_end (n_then (c_seq (c_seq (c_reg ?_))))
 refine dA hW 1 tyA106 ?_
 refine l_call hW (g_psize s (by omega) (by omega)) en99 rfl rfl rfl rfl ?_
 intro W hW
 refine aI ?_
 refine l_end (n_then (c_block ?_))
 refine c_loop (fun (z : Nat × Option Addr × Nat × List Blk × Nat) (j : Nat → Value) => [.agg [.int .u8 s.k, .int .i64 s.d, .int .i64 (strideN s.d : Int)].toArray, .agg [.int .i64 v, .int .i64 x].toArray, .pointer (some ⟨g1, 0, none⟩), .pointer (some ⟨g2, 0, none⟩), j 4, .slice z.2.1 z.2.2.2.2 z.2.2.1, j 6, .agg ([.int .u8 s.k, .int .i64 s.d, .int .i64 (strideN s.d : Int)]).toArray, .int .i64 ((p2 s.d.toNat : Nat) : Int), .int .i64 (z.1 : Int), j 10, j 11, j 12, j 13, j 14, j 15, j 16, j 17, j 18, j 19, j 20, j 21]) (fun (z : Nat × Option Addr × Nat × List Blk × Nat) => [⟨g2, [.int .i64 v, .int .i64 x], 64⟩, ⟨g1, [.int .u8 s.k, .int .i64 s.d, .int .i64 (strideN s.d : Int)], 106⟩] ++ z.2.2.2.1) (fun (z : Nat × Option Addr × Nat × List Blk × Nat) => z.1 ≤ p2 s.d.toNat ∧ z.2.2.2.2 = (membersN s v x z.1).length ∧ OwnSl 3 1 z.2.1 z.2.2.2.2 z.2.2.1 (il (membersN s v x z.1)) z.2.2.2.1) (fun (z : Nat × Option Addr × Nat × List Blk × Nat) => p2 s.d.toNat - z.1) (0, none, 0, [], 0) (by kernel_rfl) (by simpa using hW) ⟨Nat.zero_le _, rfl, OwnSl.nil 3 1⟩ ?_
 intro z j W hx hW
 obtain ⟨hz, hzn, hO⟩ := hx
 refine c_seq (c_reg ?_)
 refine l_val (r_lssN rfl rfl rfl rfl) rfl rfl ?_
 refine l_split ?_ ?_
 ·intro hc1
  replace hc1 := of_decide_eq_true hc1
  refine l_end (n_then (c_seq ?_))
  refine c_true rfl ?_
  refine c_skip (n_then (c_seq (c_block (c_seq (c_reg ?_)))))
  refine aI ?_
  refine bI ?_
  refine l_end (n_then (c_seq (c_reg ?_)))
  refine dA hW 1 tyA106 ?_
  refine dA hW 0 tyA64 ?_
  refine aI ?_
  refine l_call hW (g_pmember s v x z.1 h0 h6 hv hv2 hx0 hx2 (by omega)) en133 rfl rfl rfl rfl ?_
  intro W hW
  refine l_split ?_ ?_
  ·intro hc2
   have hmx := mem_yes hc2
   have hyes := hc2
   have hml := mem_len s v x (z.1 + 1)
   refine l_end (n_then ?_)
   refine c_true rfl ?_
   refine c_reg ?_
   refine aS ?_
   refine aI ?_
   refine l_buildSliceF hW (bsl27_1_0 _) rfl rfl rfl rfl ?_
   intro gb W hW
   refine l_appendB tyE27 (L := [_, _, _]) hO hW 0 (N := (membersN s v x (z.1 + 1)).length) (by rw [mem_yes hyes, List.length_append]; simp only [List.length_cons, List.length_nil]; omega) rfl rfl rfl rfl rfl rfl rfl (by simp [Value.oneCell']) (by unfold maxLen; omega) (by omega) ?_
   intro a1 c1 Bs1 W hO1 hW
   replace hO1 := hO1.castx rfl (xs' := il (membersN s v x (z.1 + 1))) (by rw [mem_yes hyes, il_append]; rfl)
   refine bS ?_
   refine l_end (n_block (n_then (c_reg ?_)))
   refine l_val (r_addN (n := 1) rfl rfl rfl (by omega)) rfl rfl ?_
   refine aI ?_
   refine l_end (n_then ?_)
   exact loop_next (z.1 + 1, a1, c1, Bs1, (membersN s v x (z.1 + 1)).length) (by kernel_rfl) (hW.drop 1) ⟨by simp only; omega, rfl, hO1⟩ (by simp only; omega)
  ·intro hc2
   have hmx := mem_no hc2
   refine l_end (n_then ?_)
   refine c_false rfl ?_
   refine c_skip (n_block (n_then (c_reg ?_)))
   refine l_val (r_addN (n := 1) rfl rfl rfl (by omega)) rfl rfl ?_
   refine aI ?_
   refine l_end (n_then ?_)
   exact loop_next (z.1 + 1, z.2.1, z.2.2.1, z.2.2.2.1, z.2.2.2.2) (by kernel_rfl) hW ⟨by simp only; omega, by simp only [hmx]; exact hzn, by simp only [hmx]; exact hO⟩ (by simp only; omega)
 ·intro hc1
  replace hc1 := of_decide_eq_false hc1
  refine l_end (n_then (c_seq ?_))
  refine c_false rfl ?_
  refine c_exit (x_then (x_then ?_))
  refine x_hit ?_
  refine n_then (c_seq (c_reg ?_))
  refine aS ?_
  refine bS ?_
  refine l_end (n_then (c_ret ?_))
  refine ret_tmp (v := .slice _ _ _) rfl rfl ?_
  have e : z.1 = p2 s.d.toNat := by omega
  rw [← e, ← hzn]
  exact ⟨_, _, rfl, ⟨_, _, rfl, hO⟩, hW.sub (List.sublist_append_right _ _)⟩

end Go.Proofs.YtoegpalacppllaaGreat

/- Paths, by the program. -/
namespace Go.Proofs.YtoegpalacppllaaGreat
open Go.RowKit Pl
open Tr Hn
/-- the first special node of a path -/
theorem bet_first (d : Int) (w : Nat) : ∀ n, ∃ k, k ≤ n ∧ (∀ i, i < k → specN d (sh w (n - i)) = false) ∧ (k < n → specN d (sh w (n - k)) = true) ∧ bet d w n = if k < n then sh w (n - k) else 0
 | 0 => ⟨0, Nat.le_refl _, fun i hi => by omega, fun h => by omega, rfl⟩
 | n + 1 => by
  cases h : specN d (sh w (n + 1)) with
  | true => exact ⟨0, Nat.zero_le _, fun i hi => by omega, fun _ => h, by rw [bet, if_pos h, if_pos (by omega)]; rfl⟩
  | false =>
   obtain ⟨k, h1, h2, h3, h4⟩ := bet_first d w n
   refine ⟨k + 1, by omega, fun i hi => ?_, fun hk => ?_, ?_⟩
   ·cases i with
    | zero => exact h
    | succ i => rw [show n + 1 - (i + 1) = n - i by omega]; exact h2 i (by omega)
   ·rw [show n + 1 - (k + 1) = n - k by omega]; exact h3 (by omega)
   ·rw [bet, if_neg (by rw [h]; decide), h4, show n + 1 - (k + 1) = n - k by omega]
    by_cases hk : k < n
    ·rw [if_pos hk, if_pos (by omega)]
    ·rw [if_neg hk, if_neg (by omega)]
set_option maxRecDepth 10000 in
/-- headend/cover.path$1 -/
theorem j_path {w : World} (y n gf gt : Nat) (h0 : 0 < y) (hy : y < 128) (hn : n ≤ lev y) (hP : w.cell? ⟨gf, 0, none⟩ = some (.int .i64 ((sh y n : Nat) : Int)) ∧ w.cell? ⟨gt, 0, none⟩ = some (.int .i64 (y : Int))) : IterS Tryz.prog w 137 #[.pointer (some ⟨gf, 0, none⟩), .pointer (some ⟨gt, 0, none⟩)] n (fun i => #[.int .i64 ((sh y (n - (i + 1)) : Nat) : Int)]) := by
 refine iterS_of (lb := [.pointer (some ⟨gf, 0, none⟩), .pointer (some ⟨gt, 0, none⟩)]) (F := fun l => [.func (.yield l) #[] #[], .pointer (some ⟨gf, 0, none⟩), .pointer (some ⟨gt, 0, none⟩), undef, undef, undef, undef, undef, undef, undef, undef, undef, undef, undef, undef, undef]) Tryz.func137 rfl (fun l => rfl) ?_
 intro r l k J Z L0 W hk hY hZ hJ hW
 refine c_seq (c_reg ?_)
 refine l_loadF hW tyC111 (v := .int .i64 ((sh y n : Nat) : Int)) hP.1 rfl rfl rfl rfl ?_
 refine bI ?_
 refine l_end (n_then (c_block ?_))
 refine c_loop (fun (x : Nat × List Blk) (j : Nat → Value) => [.func (.yield l) #[] #[], .pointer (some ⟨gf, 0, none⟩), .pointer (some ⟨gt, 0, none⟩), j 3, .int .i64 ((sh y (n - x.1) : Nat) : Int), .int .i64 ((sh y n : Nat) : Int), j 6, j 7, j 8, j 9, j 10, j 11, j 12, j 13, j 14, j 15]) (fun (x : Nat × List Blk) => [] ++ x.2) (fun (x : Nat × List Blk) => x.1 ≤ k ∧ J x.1 x.2) (fun (x : Nat × List Blk) => k - x.1) (0, L0) (by kernel_rfl) hW ⟨Nat.zero_le _, hJ⟩ ?_
 intro x j W hx hW
 obtain ⟨hx, hJx⟩ := hx
 have hlv := sh_lev hy (i := n - x.1) (by omega)
 have hle := sh_le y (n - x.1)
 have hpos : 0 < sh y (n - x.1) := sh_pos h0 hy (by omega)
 refine c_seq (c_seq (c_reg ?_))
 refine aI ?_
 refine l_loadF hW tyC111 (v := .int .i64 (y : Int)) hP.2 rfl rfl rfl rfl ?_
 refine l_val (r_neqN rfl rfl rfl rfl) rfl rfl ?_
 refine l_split ?_ ?_
 ·intro hc1
  replace hc1 := of_decide_eq_true hc1
  have hlt : x.1 < n := Nat.lt_of_le_of_ne (by omega) fun e => hc1 (by rw [e, Nat.sub_self]; rfl)
  refine l_end (n_then ?_)
  refine c_true rfl ?_
  refine c_skip (n_then (c_block (c_seq (c_reg ?_))))
  refine aI ?_
  refine l_loadF hW tyC111 (v := .int .i64 (y : Int)) hP.2 rfl rfl rfl rfl ?_
  refine l_call hW (g_ptoward (sh y (n - x.1)) y hpos (by omega) h0 hy (by omega)) en110 rfl rfl rfl rfl ?_
  intro W hW
  rw [show lev y - lev (sh y (n - x.1)) - 1 = n - (x.1 + 1) by omega]
  refine bI ?_
  refine l_end (n_then (c_seq (c_reg ?_)))
  refine l_val (r_move (v := .func _ _ _) rfl rfl) rfl rfl ?_
  refine aI ?_
  have hYY : YieldAt Fence.wide 0 Tryz.prog l #[.int .i64 ((sh y (n - (x.1 + 1)) : Nat) : Int)] W (fun e W' => e = .returned (.bool (decide (x.1 < k))) ∧ ((x.1 < k ∧ ∃ Lc', J (x.1 + 1) Lc' ∧ Cl ⟨w, r⟩ Lc' W') ∨ (¬ x.1 < k ∧ Z W'))) := by
   by_cases hlk : x.1 < k
   ·obtain ⟨f1, f2, f3, f4, f5, f6⟩ := hY x.1 x.2 W hlk hJx hW
    exact ⟨f1, f2, f3, f4, f5, f6.mono fun e W' ⟨h1, h2⟩ => ⟨by rw [h1, decide_eq_true hlk], .inl ⟨hlk, h2⟩⟩⟩
   ·obtain rfl : x.1 = k := by omega
    obtain ⟨f1, f2, f3, f4, f5, f6⟩ := hZ x.2 W hlt hJx hW
    exact ⟨f1, f2, f3, f4, f5, f6.mono fun e W' ⟨h1, h2⟩ => ⟨by rw [h1, decide_eq_false hlk], .inr ⟨hlk, h2⟩⟩⟩
  refine l_yieldS hYY rfl rfl rfl rfl rfl ?_
  intro W hR
  refine l_split ?_ ?_
  ·intro hc2
   have hlk : x.1 < k := of_decide_eq_true hc2
   obtain ⟨Lc1, hJ1, hW⟩ : ∃ Lc', J (x.1 + 1) Lc' ∧ Cl ⟨w, r⟩ Lc' W := by
    rcases hR with ⟨-, h⟩ | ⟨h, -⟩
    ·exact h
    ·omega
   refine l_val (r_not rfl rfl) rfl rfl ?_
   refine l_end (n_then ?_)
   refine c_false rfl ?_
   refine c_skip (n_block (n_then ?_))
   exact loop_next (x.1 + 1, Lc1) (by kernel_rfl) hW ⟨by simp only; omega, hJ1⟩ (by simp only; omega)
  ·intro hc2
   have hlk : ¬ x.1 < k := of_decide_eq_false hc2
   have hZ1 : Z W := by
    rcases hR with ⟨h, -⟩ | ⟨-, h⟩
    ·omega
    ·exact h
   refine l_val (r_not rfl rfl) rfl rfl ?_
   refine l_end (n_then ?_)
   refine c_true rfl ?_
   refine c_ret (r_block (r_then (r_block ?_)))
   refine postM_of ?_
   refine ret_none rfl ?_
   exact ⟨⟨_, rfl⟩, .inr ⟨by omega, hZ1⟩⟩
 ·intro hc1
  replace hc1 := of_decide_eq_false hc1
  have hxn : x.1 = n := Classical.byContradiction fun hne => by rw [show sh y (n - x.1) = y by omega] at hlv; omega
  refine l_end (n_then ?_)
  refine c_false rfl ?_
  refine c_exit (x_then (x_then ?_))
  refine x_hit ?_
  refine postM_of ?_
  refine end_none rfl ?_
  exact ⟨⟨_, rfl⟩, .inl ⟨by omega, x.2, hxn ▸ hJx, hW⟩⟩

end Go.Proofs.YtoegpalacppllaaGreat

/- Cuts, by the program. -/
namespace Go.Proofs.YtoegpalacppllaaGreat
open Go.RowKit Pl
open Tr Hn
set_option maxRecDepth 10000 in
/-- headend/cover.path -/
theorem g_ppath (v y : Nat) : GivesX Tryz.prog 101 [.int .i64 (v : Int), .int .i64 (y : Int)].toArray (fun _ => True) (fun u Bs => ∃ g1 g2, u = .func (.func 137) #[] #[.pointer (some ⟨g1, 0, none⟩), .pointer (some ⟨g2, 0, none⟩)] ∧ Bs = [⟨g2, [.int .i64 (y : Int)], 111⟩, ⟨g1, [.int .i64 (v : Int)], 111⟩]) := by
 refine givesX_of Tryz.func101 rfl (bs := [.int .i64 (v : Int), .int .i64 (y : Int), undef, undef, undef, undef]) rfl ?_
 intro w hP hW
 refine c_seq (c_reg ?_)
 refine l_boxC hW (v := .int _ _) rfl rfl rfl rfl rfl ?_
 intro g1 W hW
 refine l_boxC hW (v := .int _ _) rfl rfl rfl rfl rfl ?_
 intro g2 W hW
 refine l_val (r_assign (v := .nilFunc) rfl rfl) rfl rfl ?_
 refine l_end (n_then (c_seq (c_reg ?_)))
 refine l_val (r_closure (vs := [.pointer (some ⟨g1, 0, none⟩), .pointer (some ⟨g2, 0, none⟩)]) rfl rfl) rfl rfl ?_
 refine l_val (r_assign (v := .func _ _ _) rfl rfl) rfl rfl ?_
 refine l_end (n_then (c_ret ?_))
 refine ret_tmp (v := .func _ _ _) rfl rfl ?_
 exact ⟨_, _, rfl, ⟨_, _, rfl, rfl⟩, hW⟩

set_option maxRecDepth 10000 in
/-- headend/cover.first -/
theorem g_pfirstX (s : Sc) (z n gf gt : Nat) (z0 : 1 < z) (zz : z < 128) (hn : n ≤ lev (sh z 1)) : GivesX Tryz.prog 100 [.func (.func 137) #[] #[.pointer (some ⟨gf, 0, none⟩), .pointer (some ⟨gt, 0, none⟩)], .func (.func 57) #[.agg [.int .u8 s.k, .int .i64 s.d, .int .i64 (strideN s.d : Int)].toArray] #[]].toArray (fun w => w.cell? ⟨gf, 0, none⟩ = some (.int .i64 ((sh (sh z 1) n : Nat) : Int)) ∧ w.cell? ⟨gt, 0, none⟩ = some (.int .i64 ((sh z 1 : Nat) : Int))) (fun v Bs => v = .int .i64 ((bet s.d z n : Nat) : Int) ∧ Bs = []) := by
 refine givesXM_of Tryz.func100 rfl (bs := [.func (.func 137) #[] #[.pointer (some ⟨gf, 0, none⟩), .pointer (some ⟨gt, 0, none⟩)], .func (.func 57) #[.agg [.int .u8 s.k, .int .i64 s.d, .int .i64 (strideN s.d : Int)].toArray] #[], undef, undef, undef, undef, undef, undef, undef, undef, undef, undef]) rfl ?_
 intro w hP hW
 obtain ⟨k, hkn0, hk1, hk2, hk3⟩ := bet_first s.d z n
 have hz1 : 0 < sh z 1 := by show 0 < z / 2; omega
 have hz2 : sh z 1 < 128 := by show z / 2 < 128; omega
 have hnd : ∀ i, i < n → sh z (n - i) = sh (sh z 1) (n - (i + 1)) := fun i hi => by rw [sh_add]; congr 1; omega
 refine c_seq (c_reg ?_)
 refine l_boxC hW (v := .func _ _ _) rfl rfl rfl rfl rfl ?_
 intro g1 W hW
 refine l_allocC hW tyZ111 rfl rfl rfl rfl ?_
 intro g2 W hW
 refine l_end (n_then (c_seq (c_seq (c_reg ?_))))
 refine l_val (r_move (v := .func _ _ _) rfl rfl) rfl rfl ?_
 refine l_end (n_then (c_block ?_))
 refine c_rangeS (j_path (sh z 1) n gf gt hz1 hz2 hn hP) hkn0 en137 rfl (fun _ => rfl) (fun _ Lc => Lc = [⟨g2, [z111], 111⟩, ⟨g1, [.func (.func 57) #[.agg [.int .u8 s.k, .int .i64 s.d, .int .i64 (strideN s.d : Int)].toArray] #[]], 117⟩]) (fun Lc => Lc = [⟨g2, [.int .i64 ((sh (sh z 1) (n - (k + 1)) : Nat) : Int)], 111⟩, ⟨g1, [.func (.func 57) #[.agg [.int .u8 s.k, .int .i64 s.d, .int .i64 (strideN s.d : Int)].toArray] #[]], 117⟩]) rfl hW (fun (i : Nat) => fr [.func (.func 137) #[] #[.pointer (some ⟨gf, 0, none⟩), .pointer (some ⟨gt, 0, none⟩)], .func (.func 57) #[.agg [.int .u8 s.k, .int .i64 s.d, .int .i64 (strideN s.d : Int)].toArray] #[], undef, .pointer (some ⟨g1, 0, none⟩), .pointer (some ⟨g2, 0, none⟩), .int .i64 ((sh (sh z 1) (n - (i + 1)) : Nat) : Int), .func (.func 137) #[] #[.pointer (some ⟨gf, 0, none⟩), .pointer (some ⟨gt, 0, none⟩)], .int .i64 ((sh (sh z 1) (n - (i + 1)) : Nat) : Int), undef, undef, undef, undef] [] []) (fun (i : Nat) => [.func (.func 137) #[] #[.pointer (some ⟨gf, 0, none⟩), .pointer (some ⟨gt, 0, none⟩)], .func (.func 57) #[.agg [.int .u8 s.k, .int .i64 s.d, .int .i64 (strideN s.d : Int)].toArray] #[], undef, .pointer (some ⟨g1, 0, none⟩), .pointer (some ⟨g2, 0, none⟩), undef, .func (.func 137) #[] #[.pointer (some ⟨gf, 0, none⟩), .pointer (some ⟨gt, 0, none⟩)], .int .i64 ((sh (sh z 1) (n - (i + 1)) : Nat) : Int), undef, undef, undef, undef]) (fun _ => by kernel_rfl) ?_ ?_ ?_ ?_ ?_
 ·intro lq i W
  refine c_reg ?_
  refine bI ?_
  refine l_end ?_
  refine n_then ⟨?_, rfl⟩
  exact congrArg (fun x => (fr x [] [] : Act)) (by kernel_rfl)
 ·intro l r i Lc W hi hJ hW
  subst hJ
  refine c_block (c_seq (c_reg ?_))
  refine dC hW 1 tyC117 ?_
  refine aI ?_
  refine l_callB hW (bnd := [.agg [.int .u8 s.k, .int .i64 s.d, .int .i64 (strideN s.d : Int)].toArray]) (args := [.int .i64 ((sh (sh z 1) (n - (i + 1)) : Nat) : Int)]) (g_pspecial s (sh (sh z 1) (n - (i + 1))) (sh_pos hz1 hz2 (by omega)) (Nat.lt_of_le_of_lt (sh_le _ _) hz2)) en57 rfl rfl rfl rfl rfl ?_
  intro W hW
  rw [show specN s.d (sh (sh z 1) (n - (i + 1))) = false from (hnd i (by omega)) ▸ hk1 i (by omega)]
  refine l_end (n_then ?_)
  refine c_false rfl ?_
  refine c_skip (n_block ?_)
  exact ⟨rfl, _, rfl, hW⟩
 ·intro l r Lc W hi hJ hW
  subst hJ
  refine c_block (c_seq (c_reg ?_))
  refine dC hW 1 tyC117 ?_
  refine aI ?_
  refine l_callB hW (bnd := [.agg [.int .u8 s.k, .int .i64 s.d, .int .i64 (strideN s.d : Int)].toArray]) (args := [.int .i64 ((sh (sh z 1) (n - (k + 1)) : Nat) : Int)]) (g_pspecial s (sh (sh z 1) (n - (k + 1))) (sh_pos hz1 hz2 (by omega)) (Nat.lt_of_le_of_lt (sh_le _ _) hz2)) en57 rfl rfl rfl rfl rfl ?_
  intro W hW
  rw [show specN s.d (sh (sh z 1) (n - (k + 1))) = true from (hnd k (by omega)) ▸ hk2 (by omega)]
  refine l_end (n_then ?_)
  refine c_true rfl ?_
  refine c_seq (c_reg ?_)
  refine aI ?_
  refine l_storeC hW 0 tyC111 (v := .int _ _) rfl rfl rfl rfl rfl rfl (by first | rfl | omega | (simp; done) | (simp; omega)) rfl ?_
  intro W hW
  refine l_end (n_then (c_ret (r_block ?_)))
  exact ⟨rfl, _, rfl, hW⟩
 ·intro D r Lc W hkn hDb hJ hW hD
  subst hJ
  refine n_block (n_then (c_seq (c_reg ?_)))
  refine l_storeC hW 0 tyC111 (v := .int _ _) rfl rfl rfl rfl rfl rfl (by first | rfl | omega | (simp; done) | (simp; omega)) rfl ?_
  intro W hW
  refine l_end (n_then (c_ret ?_))
  refine r_mark hW hDb hD ?_
  intro r W hW
  refine ret_cellC hW 0 tyC111 rfl rfl rfl ?_
  exact ⟨_, [], rfl, ⟨by rw [hk3, if_neg (by omega)]; rfl, rfl⟩, (hW.tobase).sub (List.nil_sublist _)⟩
 ·intro D r Lc W hkn hDb hJ hW hD
  subst hJ
  refine r_block (r_then ?_)
  refine r_mark hW hDb hD ?_
  intro r W hW
  refine ret_cellC hW 0 tyC111 rfl rfl rfl ?_
  exact ⟨_, [], rfl, ⟨by rw [hk3, if_pos hkn, hnd k hkn], rfl⟩, (hW.tobase).sub (List.nil_sublist _)⟩

theorem g_pfirst (s : Sc) (z n gf gt : Nat) (z0 : 1 < z) (zz : z < 128) (hn : n ≤ lev (sh z 1)) : GivesR Tryz.prog 100 [.func (.func 137) #[] #[.pointer (some ⟨gf, 0, none⟩), .pointer (some ⟨gt, 0, none⟩)], .func (.func 57) #[.agg [.int .u8 s.k, .int .i64 s.d, .int .i64 (strideN s.d : Int)].toArray] #[]].toArray (fun w => w.cell? ⟨gf, 0, none⟩ = some (.int .i64 ((sh (sh z 1) n : Nat) : Int)) ∧ w.cell? ⟨gt, 0, none⟩ = some (.int .i64 ((sh z 1 : Nat) : Int))) (.int .i64 ((bet s.d z n : Nat) : Int)) := fun w hp =>
 (g_pfirstX s z n gf gt z0 zz hn w hp).mono fun e w' ⟨v, Bs, he, ⟨hv, hb⟩, hC⟩ => ⟨by rw [he, hv], hC.below⟩
set_option maxRecDepth 10000 in
/-- (headend/cover.tree).cut -/
theorem g_pcut (s : Sc) (v z : Nat) (hz : 1 < z) (hz2 : z < 128) (hb : belowN z v = true) (hne : lev v < lev z) : Gives Tryz.prog 56 [.agg [.int .u8 s.k, .int .i64 s.d, .int .i64 (strideN s.d : Int)].toArray, .int .i64 (v : Int), .int .i64 (z : Int)].toArray (.int .i64 ((bet s.d z (lev z - lev v - 1) : Nat) : Int)) := by
 refine gives_of Tryz.func56 rfl (bs := [.agg [.int .u8 s.k, .int .i64 s.d, .int .i64 (strideN s.d : Int)].toArray, .int .i64 (v : Int), .int .i64 (z : Int), undef, undef, undef, undef, undef, undef, undef, undef, undef, undef, undef]) rfl ?_
 intro w hW
 have hb2 := (below_iff.1 hb).2
 have hlz : lev (sh z 1) = lev z - 1 := sh_lev hz2 (by omega)
 have hvs : v = sh (sh z 1) (lev z - lev v - 1) := by rw [sh_add, show 1 + (lev z - lev v - 1) = lev z - lev v by omega]; exact hb2.symm
 refine c_seq (c_reg ?_)
 refine xB hW ?_
 intro g1 W hW
 refine bI ?_
 refine l_end (n_then (c_seq ?_))
 refine c_regM hW [] [.q, .q, .q, .mk 0, .q, .q, .rd 0, .q] [⟨10, fun _ u Bs => ∃ g1 g2, u = .func (.func 137) #[] #[.pointer (some ⟨g1, 0, none⟩), .pointer (some ⟨g2, 0, none⟩)] ∧ Bs = [⟨g2, [.int .i64 ((z / 2 ^ 1 : Nat) : Int)], 111⟩, ⟨g1, [.int .i64 (v : Int)], 111⟩]⟩] [[]] [3] [0, 0, 2, 7, 0, 16, 63, 127] (by kernel_rfl) (by kernel_rfl) rfl (by kernel_rfl) ?_
 refine yI ?_
 refine yI ?_
 refine y_val (r_shr_i64N (n := z) (s := 1) rfl rfl rfl (by omega)) rfl rfl ?_
 refine y_callX 0 (g_ppath v (z / 2 ^ 1)) en101 rfl rfl (fun _ _ _ _ => trivial) rfl rfl ?_
 refine y_loadA 0 tyA106 rfl rfl rfl rfl rfl (by first | rfl | exact kc_len _ | exact kcf_len _ | exact boC_len _ _ | (simp; done)) (by decide) ?_
 refine y_val (r_bound (vs := [.agg [.int .u8 s.k, .int .i64 s.d, .int .i64 (strideN s.d : Int)].toArray]) rfl rfl) rfl rfl ?_
 refine y_callRd (v := .int .i64 ((bet s.d z (lev z - lev v - 1) : Nat) : Int)) 0 rfl rfl ?_ en100 rfl rfl rfl ?_
 ·rintro _ Bs ⟨ga, gb, rfl, rfl⟩
  exact ⟨_, _, g_pfirst s z (lev z - lev v - 1) ga gb hz hz2 (by omega), fun M w hC => ⟨(cell_at ((hC.sub (List.sublist_append_right M _)).holds ⟨ga, [.int .i64 (v : Int)], 111⟩ (by simp)) 0).trans (by rw [← hvs]; rfl), (cell_at ((hC.sub (List.sublist_append_right M _)).holds ⟨gb, [.int .i64 ((z / 2 ^ 1 : Nat) : Int)], 111⟩ (by simp)) 0).trans rfl⟩, rfl⟩
 refine y_val (r_assign (v := .int _ _) rfl rfl) rfl rfl ?_
 refine y_end ?_
 refine y_made ?_
 rintro _ Bs1 -
 intro W hW
 refine n_then (c_ret ?_)
 refine ret_tmp (v := .int .i64 ((bet s.d z (lev z - lev v - 1) : Nat) : Int)) rfl ?_ ⟨rfl, hW.below⟩
 rfl

end Go.Proofs.YtoegpalacppllaaGreat

/- Subsets, by the program. -/
namespace Go.Proofs.YtoegpalacppllaaGreat
open Go.RowKit Pl
open Tr Hn
theorem g_pbelowZZ (y : Int) (v : Int) (hy : 0 < y) (hy2 : y < 128) (hv : 0 < v) (hv2 : v < 128) : Gives Tryz.prog 114 [.int .i64 y, .int .i64 v].toArray (.bool (belowN y.toNat v.toNat)) := by
 obtain ⟨y', rfl⟩ : ∃ n : Nat, y = n := ⟨y.toNat, by omega⟩
 obtain ⟨v', rfl⟩ : ∃ n : Nat, v = n := ⟨v.toNat, by omega⟩
 exact g_pbelow y' v' (by omega) (by omega) (by omega) (by omega)
theorem g_pspecialZ (s : Sc) (v : Int) (hv : 0 < v) (hv2 : v < 128) : Gives Tryz.prog 57 [.agg [.int .u8 s.k, .int .i64 s.d, .int .i64 (strideN s.d : Int)].toArray, .int .i64 v].toArray (.bool (specN s.d v.toNat)) := by
 obtain ⟨v', rfl⟩ : ∃ n : Nat, v = n := ⟨v.toNat, by omega⟩
 exact g_pspecial s v' (by omega) (by omega)
theorem g_pcutZ (s : Sc) (v : Int) (z : Int) (hv : 0 < v) (hz : 0 < z) (hz2 : z < 128) (hb : belowN z.toNat v.toNat = true) (hne : z ≠ v) : Gives Tryz.prog 56 [.agg [.int .u8 s.k, .int .i64 s.d, .int .i64 (strideN s.d : Int)].toArray, .int .i64 v, .int .i64 z].toArray (.int .i64 ((bet s.d z.toNat (lev z.toNat - lev v.toNat - 1) : Nat) : Int)) := by
 obtain ⟨v', rfl⟩ : ∃ n : Nat, v = n := ⟨v.toNat, by omega⟩
 obtain ⟨z', rfl⟩ : ∃ n : Nat, z = n := ⟨z.toNat, by omega⟩
 have hlt : lev v' < lev z' := Nat.lt_of_le_of_ne (below_iff.1 (by simpa using hb)).1 fun e => by
  have h1 := (below_iff.1 (show belowN z' v' = true by simpa using hb)).2
  rw [e, Nat.sub_self] at h1
  exact hne (by rw [show z' = v' from h1])
 exact g_pcut s v' z' (by rcases Nat.lt_or_ge 1 z' with h | h; exact h; rw [lev_one h] at hlt; omega) (by omega) (by simpa using hb) hlt
set_option maxRecDepth 10000 in
/-- (headend/cover.tree).subset -/
theorem g_psubset (s : Sc) (v x : Int) (d0 : 0 ≤ s.d) (d6 : s.d ≤ 6) : Gives Tryz.prog 71 [.agg [.int .u8 s.k, .int .i64 s.d, .int .i64 (strideN s.d : Int)].toArray, .agg [.int .i64 v, .int .i64 x].toArray].toArray (.bool (subB s v x)) := by
 refine gives_of Tryz.func71 rfl (bs := [.agg [.int .u8 s.k, .int .i64 s.d, .int .i64 (strideN s.d : Int)].toArray, .agg [.int .i64 v, .int .i64 x].toArray, undef, undef, undef, undef, undef, undef, undef, undef, undef, undef, undef, undef, undef, undef, undef, undef, undef, undef, undef, undef, undef, undef, undef, undef, undef, undef, undef, undef, undef, undef, undef, undef, undef, undef, undef, undef, undef, undef, undef, undef, undef, undef, undef, undef, undef, undef, undef, undef, undef, undef, undef, undef, undef, undef, undef, undef, undef, undef, undef, undef, undef, undef, undef, undef, undef, undef]) rfl ?_
 intro w hW
 refine c_seq (c_reg ?_)
 refine xB hW ?_
 intro g1 W hW
 refine xB hW ?_
 intro g2 W hW
 refine bB ?_
 refine l_end (n_then (c_seq ?_))
 refine c_regY hW [] [.q, .q, .q, .q, .q, .q] [0, 1, 0, 4, 3, 31] (by kernel_rfl) (by kernel_rfl) ?_
 refine y_val (r_fieldAddr 0 Tryz.underlying64 rfl tyC3.size rfl rfl rfl) rfl rfl ?_
 refine y_loadC 0 tyC3 rfl rfl rfl rfl rfl rfl (by decide) ?_
 refine y_val (r_fieldAddr 1 Tryz.underlying64 rfl tyC3.size rfl rfl rfl) rfl rfl ?_
 refine y_loadC 0 tyC3 rfl rfl rfl rfl rfl rfl (by decide) ?_
 refine y_val (r_assign (v := .int _ _) rfl rfl) rfl rfl ?_
 refine y_val (r_assign (v := .int _ _) rfl rfl) rfl rfl ?_
 refine y_end ?_
 intro W hW
 refine n_then (c_seq (c_block (c_seq (c_reg ?_))))
 refine dA hW 1 tyA106 ?_
 refine l_val (r_fieldAddr 0 Tryz.underlying64 rfl tyC3.size rfl rfl rfl) rfl rfl ?_
 refine dC hW 0 tyC3 ?_
 refine l_call hW (g_phas s _ (by omega) (by omega)) en113 rfl rfl rfl rfl ?_
 intro W hW
 refine l_split ?_ ?_
 ·intro hc1
  have hv := node_lt hc1 d6
  refine l_val (r_not rfl rfl) rfl rfl ?_
  refine bB ?_
  refine l_end (n_then ?_)
  refine c_false rfl ?_
  refine c_seq (c_reg ?_)
  refine l_val (r_fieldAddr 0 Tryz.underlying106 rfl tyC5.size rfl rfl rfl) rfl rfl ?_
  refine dC hW 1 tyC5 ?_
  refine l_val (r_eql rfl rfl rfl rfl) rfl rfl ?_
  refine l_split ?_ ?_
  ·intro hc2
   replace hc2 := of_decide_eq_true hc2
   refine aB ?_
   refine lN ?_
   refine lN ?_
   refine kB ?_
   refine bB ?_
   refine l_end (n_then ?_)
   refine c_true rfl ?_
   refine c_seq (c_reg ?_)
   refine aI ?_
   refine l_val (r_eql rfl rfl rfl rfl) rfl rfl ?_
   refine l_split ?_ ?_
   ·intro hc3
    replace hc3 := of_decide_eq_true hc3
    refine aB ?_
    refine l_valG (r_fieldAddr 0 Tryz.underlying106 rfl tyC5.size rfl rfl rfl) (by kernel_rfl) rfl ?_
    refine dG hW 1 tyC5 ?_
    refine l_valG (r_eql rfl rfl rfl rfl) (by kernel_rfl) rfl ?_
    refine l_split ?_ ?_
    ·intro hc4
     replace hc4 := of_decide_eq_true hc4
     refine l_valG (r_move (v := .bool _) rfl rfl) (by kernel_rfl) rfl ?_
     refine lN ?_
     refine lN ?_
     refine l_valG (r_pick (v := .bool _) rfl rfl rfl) (by kernel_rfl) rfl ?_
     refine kB ?_
     refine bB ?_
     refine l_end (n_then (c_ret (r_block (r_then ?_))))
     refine ret_tmp (v := .bool (subB s v x)) rfl ?_ ⟨rfl, hW.below⟩
     exact congrArg Value.bool (by rw [sub_k1 hc1 (by omega), decide_eq_true (by omega)])
    ·intro hc4
     replace hc4 := of_decide_eq_false hc4
     refine l_valG (r_move (v := .bool _) rfl rfl) (by kernel_rfl) rfl ?_
     refine gI ?_
     refine l_valG (r_eql rfl rfl rfl rfl) (by kernel_rfl) rfl ?_
     refine l_valG (r_pick (v := .bool _) rfl rfl rfl) (by kernel_rfl) rfl ?_
     refine kB ?_
     refine bB ?_
     refine l_end (n_then (c_ret (r_block (r_then ?_))))
     refine ret_tmp (v := .bool (subB s v x)) rfl ?_ ⟨rfl, hW.below⟩
     exfalso; omega
   ·intro hc3
    replace hc3 := of_decide_eq_false hc3
    refine aB ?_
    refine lN ?_
    refine lN ?_
    refine lN ?_
    refine lN ?_
    refine lN ?_
    refine lN ?_
    refine lN ?_
    refine kB ?_
    refine bB ?_
    refine l_end (n_then (c_ret (r_block (r_then ?_))))
    refine ret_tmp (v := .bool (subB s v x)) rfl ?_ ⟨rfl, hW.below⟩
    exact congrArg Value.bool (by rw [sub_k1 hc1 (by omega), decide_eq_false (by omega)])
  ·intro hc2
   replace hc2 := of_decide_eq_false hc2
   refine aB ?_
   refine gI ?_
   refine l_valG (r_eql rfl rfl rfl rfl) (by kernel_rfl) rfl ?_
   refine l_split ?_ ?_
   ·intro hc5
    replace hc5 := of_decide_eq_true hc5
    refine kB ?_
    refine bB ?_
    refine l_end (n_then ?_)
    refine c_true rfl ?_
    refine c_seq (c_reg ?_)
    refine aI ?_
    refine l_val (r_eql rfl rfl rfl rfl) rfl rfl ?_
    refine l_split ?_ ?_
    ·intro hc6
     replace hc6 := of_decide_eq_true hc6
     refine aB ?_
     refine l_valG (r_fieldAddr 0 Tryz.underlying106 rfl tyC5.size rfl rfl rfl) (by kernel_rfl) rfl ?_
     refine dG hW 1 tyC5 ?_
     refine l_valG (r_eql rfl rfl rfl rfl) (by kernel_rfl) rfl ?_
     refine l_split ?_ ?_
     ·intro hc7
      replace hc7 := of_decide_eq_true hc7
      refine l_valG (r_move (v := .bool _) rfl rfl) (by kernel_rfl) rfl ?_
      refine lN ?_
      refine lN ?_
      refine l_valG (r_pick (v := .bool _) rfl rfl rfl) (by kernel_rfl) rfl ?_
      refine kB ?_
      refine bB ?_
      refine l_end (n_then (c_ret (r_block (r_then ?_))))
      refine ret_tmp (v := .bool (subB s v x)) rfl ?_ ⟨rfl, hW.below⟩
      exfalso; omega
     ·intro hc7
      replace hc7 := of_decide_eq_false hc7
      refine l_valG (r_move (v := .bool _) rfl rfl) (by kernel_rfl) rfl ?_
      refine gI ?_
      refine l_valG (r_eql rfl rfl rfl rfl) (by kernel_rfl) rfl ?_
      refine l_valG (r_pick (v := .bool _) rfl rfl rfl) (by kernel_rfl) rfl ?_
      refine kB ?_
      refine bB ?_
      refine l_end (n_then (c_ret (r_block (r_then ?_))))
      refine ret_tmp (v := .bool (subB s v x)) rfl ?_ ⟨rfl, hW.below⟩
      exact congrArg Value.bool (sub_w0 hc1 (by omega) (by omega)).symm
    ·intro hc6
     replace hc6 := of_decide_eq_false hc6
     refine aB ?_
     refine lN ?_
     refine lN ?_
     refine lN ?_
     refine lN ?_
     refine lN ?_
     refine lN ?_
     refine lN ?_
     refine kB ?_
     refine bB ?_
     refine l_end (n_then (c_ret (r_block (r_then ?_))))
     refine ret_tmp (v := .bool (subB s v x)) rfl ?_ ⟨rfl, hW.below⟩
     exfalso; omega
   ·intro hc5
    replace hc5 := of_decide_eq_false hc5
    refine kB ?_
    refine bB ?_
    refine l_end (n_then ?_)
    refine c_false rfl ?_
    refine c_seq (c_reg ?_)
    refine dA hW 1 tyA106 ?_
    refine l_val (r_fieldAddr 1 Tryz.underlying64 rfl tyC3.size rfl rfl rfl) rfl rfl ?_
    refine dC hW 0 tyC3 ?_
    refine l_call hW (g_phas s _ (by omega) (by omega)) en113 rfl rfl rfl rfl ?_
    intro W hW
    refine l_split ?_ ?_
    ·intro hc8
     have hx := node_lt hc8 d6
     refine l_val (r_not rfl rfl) rfl rfl ?_
     refine aB ?_
     refine gI ?_
     refine gI ?_
     refine l_valG (r_eql rfl rfl rfl rfl) (by kernel_rfl) rfl ?_
     refine l_split ?_ ?_
     ·intro hc9
      replace hc9 := of_decide_eq_true hc9
      refine kB ?_
      refine aB ?_
      refine lN ?_
      refine lN ?_
      refine lN ?_
      refine lN ?_
      refine kB ?_
      refine bB ?_
      refine l_end (n_then ?_)
      refine c_true rfl ?_
      refine c_seq (c_reg ?_)
      refine bB ?_
      refine l_end (n_then (c_ret (r_block (r_then ?_))))
      refine ret_tmp (v := .bool (subB s v x)) rfl ?_ ⟨rfl, hW.below⟩
      exact congrArg Value.bool (sub_no hc1 (by omega) (by omega) (.inr (.inl (by omega)))).symm
     ·intro hc9
      replace hc9 := of_decide_eq_false hc9
      refine kB ?_
      refine aB ?_
      refine gI ?_
      refine gI ?_
      refine l_callG hW (g_pbelowZZ x v (by omega) (by omega) (by omega) (by omega)) en114 (by kernel_rfl) rfl rfl rfl ?_
      intro W hW
      refine l_split ?_ ?_
      ·intro hc10
       refine l_valG (r_not rfl rfl) (by kernel_rfl) rfl ?_
       refine kB ?_
       refine bB ?_
       refine l_end (n_then ?_)
       refine c_false rfl ?_
       refine c_skip (n_block (n_then (c_seq (c_reg ?_))))
       refine l_val (r_fieldAddr 0 Tryz.underlying106 rfl tyC5.size rfl rfl rfl) rfl rfl ?_
       refine dC hW 1 tyC5 ?_
       refine l_val (r_eql rfl rfl rfl rfl) rfl rfl ?_
       refine l_split ?_ ?_
       ·intro hc11
        replace hc11 := of_decide_eq_true hc11
        refine aB ?_
        refine lN ?_
        refine lN ?_
        refine lN ?_
        refine kB ?_
        refine aB ?_
        refine lN ?_
        refine lN ?_
        refine lN ?_
        refine lN ?_
        refine lN ?_
        refine kB ?_
        refine bB ?_
        refine l_end (n_then (c_ret ?_))
        refine ret_tmp (v := .bool (subB s v x)) rfl ?_ ⟨rfl, hW.below⟩
        rw [sub_end hc1 (by omega) (by omega) hc8 (by omega) hc10]
        rw [decide_eq_true (show s.k = 2 by omega)]; rfl
       ·intro hc11
        replace hc11 := of_decide_eq_false hc11
        refine aB ?_
        refine l_loadAG hW 1 tyA106 (by kernel_rfl) rfl rfl rfl rfl (by first | rfl | exact kc_len _ | exact kcf_len _ | exact boC_len _ _ | (simp; done)) ?_
        refine gI ?_
        refine l_callG hW (g_pspecialZ s v (by omega) (by omega)) en57 (by kernel_rfl) rfl rfl rfl ?_
        intro W hW
        refine l_split ?_ ?_
        ·intro hc12
         refine kB ?_
         refine aB ?_
         refine lN ?_
         refine lN ?_
         refine lN ?_
         refine lN ?_
         refine lN ?_
         refine kB ?_
         refine bB ?_
         refine l_end (n_then (c_ret ?_))
         refine ret_tmp (v := .bool (subB s v x)) rfl ?_ ⟨rfl, hW.below⟩
         rw [sub_end hc1 (by omega) (by omega) hc8 (by omega) hc10]
         rw [hc12, Bool.or_true]; rfl
        ·intro hc12
         refine kB ?_
         refine aB ?_
         refine l_loadAG hW 1 tyA106 (by kernel_rfl) rfl rfl rfl rfl (by first | rfl | exact kc_len _ | exact kcf_len _ | exact boC_len _ _ | (simp; done)) ?_
         refine gI ?_
         refine gI ?_
         refine l_callG hW (g_pcutZ s v x (by omega) (by omega) (by omega) hc10 (by omega)) en56 (by kernel_rfl) rfl rfl rfl ?_
         intro W hW
         refine l_valG (r_eqlN (n := 0) rfl rfl rfl rfl) (by kernel_rfl) rfl ?_
         refine kB ?_
         refine bB ?_
         refine l_end (n_then (c_ret ?_))
         refine ret_tmp (v := .bool (subB s v x)) rfl ?_ ⟨rfl, hW.below⟩
         rw [sub_end hc1 (by omega) (by omega) hc8 (by omega) hc10]
         rw [decide_eq_false (show ¬ s.k = 2 by omega), hc12]
         exact congrArg Value.bool (by rw [Bool.eq_iff_iff]; simp)
      ·intro hc10
       refine l_valG (r_not rfl rfl) (by kernel_rfl) rfl ?_
       refine kB ?_
       refine bB ?_
       refine l_end (n_then ?_)
       refine c_true rfl ?_
       refine c_seq (c_reg ?_)
       refine bB ?_
       refine l_end (n_then (c_ret (r_block (r_then ?_))))
       refine ret_tmp (v := .bool (subB s v x)) rfl ?_ ⟨rfl, hW.below⟩
       exact congrArg Value.bool (sub_no hc1 (by omega) (by omega) (.inr (.inr hc10))).symm
    ·intro hc8
     refine l_val (r_not rfl rfl) rfl rfl ?_
     refine aB ?_
     refine lN ?_
     refine lN ?_
     refine lN ?_
     refine kB ?_
     refine aB ?_
     refine lN ?_
     refine lN ?_
     refine lN ?_
     refine lN ?_
     refine kB ?_
     refine bB ?_
     refine l_end (n_then ?_)
     refine c_true rfl ?_
     refine c_seq (c_reg ?_)
     refine bB ?_
     refine l_end (n_then (c_ret (r_block (r_then ?_))))
     refine ret_tmp (v := .bool (subB s v x)) rfl ?_ ⟨rfl, hW.below⟩
     exact congrArg Value.bool (sub_no hc1 (by omega) (by omega) (.inl hc8)).symm
 ·intro hc1
  refine l_val (r_not rfl rfl) rfl rfl ?_
  refine bB ?_
  refine l_end (n_then ?_)
  refine c_true rfl ?_
  refine c_seq (c_reg ?_)
  refine bB ?_
  refine l_end (n_then (c_ret (r_block (r_then ?_))))
  refine ret_tmp (v := .bool (subB s v x)) rfl ?_ ⟨rfl, hW.below⟩
  exact congrArg Value.bool (sub_no1 hc1).symm

end Go.Proofs.YtoegpalacppllaaGreat

/- Members of subsets, by the program. -/
namespace Go.Proofs.YtoegpalacppllaaGreat
open Go.RowKit Pl
open Tr Hn
set_option maxRecDepth 10000 in
/-- headend/cover.enter -/
theorem g_enter (s : Sc) (ra : Option Addr) (rn rc : Nat) (l : List (Int × Int)) (hs : schB s = true) (hq : l.length ≤ 100) : GivesR Tryz.prog 51 [.agg [.int .u8 s.k, .int .i64 s.d, .int .i64 s.g, .int .u64 s.p, .int .u64 s.q, .int .u64 s.r].toArray, .slice ra rn rc].toArray (fun w => RdB w ⟨ra, rn, rc⟩ l) (.tuple #[.agg (entT s l).toArray, .int .i64 (entE s l)]) := by
 refine givesR_of Tryz.func51 rfl (bs := [.agg [.int .u8 s.k, .int .i64 s.d, .int .i64 s.g, .int .u64 s.p, .int .u64 s.q, .int .u64 s.r].toArray, .slice ra rn rc, undef, undef, undef, undef, undef, undef, undef, undef, undef, undef, undef, undef, undef, undef, undef, undef, undef, undef, undef, undef, undef, undef, undef, undef, undef, undef, undef, undef, undef]) rfl ?_
 intro w hP hW
 obtain ⟨k1, k3, d0, d6, -⟩ := schB_iff.1 hs
 have hn : rn = l.length := hP.len
 refine c_seq (c_reg ?_)
 refine xB hW ?_
 intro g1 W hW
 refine l_alloc hW tyZ106 rfl rfl rfl ?_
 intro g2 W hW
 refine bI ?_
 refine l_end (n_then (c_seq (c_reg ?_)))
 refine dA hW 1 tyA26 ?_
 refine l_call hW (g_treeOf s) en98 rfl rfl rfl rfl ?_
 intro W hW
 rw [treeC_yes hs rfl, hs]
 refine l_val (r_move (v := .tuple _) rfl rfl) rfl rfl ?_
 refine l_val (r_extract (v := .agg _) rfl rfl rfl) rfl rfl ?_
 refine l_val (r_extract (v := .bool _) rfl rfl rfl) rfl rfl ?_
 refine l_alloc hW tyZ106 rfl rfl rfl ?_
 intro g3 W hW
 refine sA hW 0 tyA106 ?_
 intro W hW
 refine bB ?_
 refine l_end (n_then (c_seq (c_seq (c_reg ?_))))
 refine aB ?_
 refine l_val (r_not rfl rfl) rfl rfl ?_
 refine l_end (n_then ?_)
 refine c_false rfl ?_
 refine c_skip (n_then (c_seq (c_seq (c_reg ?_))))
 refine aS ?_
 refine l_val (r_lenSlice Tryz.underlying33 rfl rfl) rfl rfl ?_
 refine aI ?_
 refine l_end (n_then (c_block ?_))
 refine c_loop (fun (i : Nat) (j : Nat → Value) => [.agg [.int .u8 s.k, .int .i64 s.d, .int .i64 s.g, .int .u64 s.p, .int .u64 s.q, .int .u64 s.r].toArray, .slice ra rn rc, .pointer (some ⟨g1, 0, none⟩), j 3, .pointer (some ⟨g2, 0, none⟩), j 5, .pointer (some ⟨g3, 0, none⟩), .bool true, j 8, j 9, .tuple #[.agg [.int .u8 s.k, .int .i64 s.d, .int .i64 (strideN s.d : Int)].toArray, .bool true], .agg ([.int .u8 s.k, .int .i64 s.d, .int .i64 s.g, .int .u64 s.p, .int .u64 s.q, .int .u64 s.r]).toArray, .tuple #[.agg [.int .u8 s.k, .int .i64 s.d, .int .i64 (strideN s.d : Int)].toArray, .bool true], .agg [.int .u8 s.k, .int .i64 s.d, .int .i64 (strideN s.d : Int)].toArray, .bool true, .bool true, .bool false, j 17, .slice ra rn rc, .int .i64 (rn : Int), .int .i64 (i : Int), j 21, j 22, j 23, j 24, j 25, j 26, j 27, j 28, j 29, j 30]) (fun (i : Nat) => [⟨g3, [.int .u8 s.k, .int .i64 s.d, .int .i64 (strideN s.d : Int)], 106⟩, ⟨g2, z106, 106⟩, ⟨g1, [.int .u8 s.k, .int .i64 s.d, .int .i64 s.g, .int .u64 s.p, .int .u64 s.q, .int .u64 s.r], 26⟩]) (fun (i : Nat) => i ≤ rn ∧ ∀ k, k < i → subB s (qn l k) (qm l k) = true) (fun (i : Nat) => rn - i) 0 (by kernel_rfl) hW ⟨by omega, all_zero⟩ ?_
 intro i j W hx hW
 obtain ⟨hi0, hib⟩ := hx
 refine c_seq (c_reg ?_)
 refine l_val (r_lssN rfl rfl rfl rfl) rfl rfl ?_
 refine l_split ?_ ?_
 ·intro hc1
  replace hc1 := of_decide_eq_true hc1
  obtain ⟨b0, o0, ha, hc⟩ := hP.ptr (by omega)
  simp only at ha
  subst ha
  refine l_end (n_then (c_seq ?_))
  refine c_true rfl ?_
  refine c_skip (n_then (c_seq (c_block (c_seq (c_reg ?_)))))
  refine l_val (r_indexAddrSlB (n := i) Tryz.underlying33 tyA64.size rfl rfl rfl (by omega)) rfl rfl ?_
  refine l_loadF2 hW tyA64 (hc i (by omega)).1 (hc i (by omega)).2 rfl rfl rfl rfl ?_
  refine l_alloc hW tyZ64 rfl rfl rfl ?_
  intro g4 W hW
  refine sA hW 0 tyA64 ?_
  intro W hW
  refine l_end (n_then (c_seq (c_reg ?_)))
  refine dA hW 1 tyA106 ?_
  refine dA hW 0 tyA64 ?_
  refine l_call hW (g_psubset s _ _ d0 d6) en71 rfl rfl rfl rfl ?_
  intro W hW
  refine l_split ?_ ?_
  ·intro hc2
   refine l_val (r_not rfl rfl) rfl rfl ?_
   refine l_end (n_then ?_)
   refine c_false rfl ?_
   refine c_skip (n_block (n_then (c_reg ?_)))
   refine l_val (r_addN (n := 1) rfl rfl rfl (by omega)) rfl rfl ?_
   refine aI ?_
   refine l_end (n_then ?_)
   exact loop_next (i + 1) (by kernel_rfl) (hW.drop 1) ⟨by omega, all_upto hib hc2⟩ (by omega)
  ·intro hc2
   refine l_val (r_not rfl rfl) rfl rfl ?_
   refine l_end (n_then ?_)
   refine c_true rfl ?_
   refine c_seq (c_reg ?_)
   refine l_val (r_build (ps := []) (bld106_) rfl rfl) rfl rfl ?_
   refine sA hW 2 tyA106 ?_
   intro W hW
   refine bI ?_
   refine l_end (n_then (c_ret (r_block (r_then (r_then (r_block (r_then ?_)))))))
   refine rT hW 2 tyA106 ?_
   exact ⟨by rw [entE_no (i := i) (by omega) hc2, entT_no (entE_no (i := i) (by omega) hc2)]; rfl, hW.below⟩
 ·intro hc1
  replace hc1 := of_decide_eq_false hc1
  refine l_end (n_then (c_seq ?_))
  refine c_false rfl ?_
  refine c_exit (x_then (x_then ?_))
  refine x_hit ?_
  refine n_then (c_seq (c_reg ?_))
  refine dA hW 0 tyA106 ?_
  refine sA hW 1 tyA106 ?_
  intro W hW
  refine bI ?_
  refine l_end (n_then (c_ret ?_))
  refine rT hW 1 tyA106 ?_
  have hall := entE_yes (s := s) (l := l) fun k hk => hib k (by omega)
  exact ⟨by rw [hall, entT_yes hall]; rfl, hW.below⟩

set_option maxRecDepth 10000 in
/-- headend/cover.Members -/
theorem g_Members (s : Sc) (v x : Int) (hs : schB s = true) : GivesX Tryz.prog 43 [.agg [.int .u8 s.k, .int .i64 s.d, .int .i64 s.g, .int .u64 s.p, .int .u64 s.q, .int .u64 s.r].toArray, .agg [.int .i64 v, .int .i64 x].toArray].toArray (fun _ => True) (fun u Bs => ∃ t : Sl, u = .tuple #[t.v, .int .i64 (if subB s v x then 0 else 31)] ∧ (subB s v x = true → NewI t (membersN s v x (p2 s.d.toNat)) Bs)) := by
 refine givesX_of Tryz.func43 rfl (bs := [.agg [.int .u8 s.k, .int .i64 s.d, .int .i64 s.g, .int .u64 s.p, .int .u64 s.q, .int .u64 s.r].toArray, .agg [.int .i64 v, .int .i64 x].toArray, undef, undef, undef, undef, undef, undef, undef, undef, undef, undef, undef, undef, undef, undef, undef, undef, undef, undef, undef]) rfl ?_
 intro w hP hW
 obtain ⟨k1, k3, d0, d6, -⟩ := schB_iff.1 hs
 refine c_seq (c_reg ?_)
 refine xB hW ?_
 intro g1 W hW
 refine xB hW ?_
 intro g2 W hW
 refine bS ?_
 refine bI ?_
 refine l_end (n_then (c_seq (c_reg ?_)))
 refine dA hW 1 tyA26 ?_
 refine dA hW 0 tyA64 ?_
 refine l_buildSliceF hW (bsl33_1_0 _ _) rfl rfl rfl rfl ?_
 intro gb W hW
 refine l_callR hW (g_enter s (some ⟨gb, 0, none⟩) 1 1 [(v, x)] hs (by simp)) en51 (RdB.one hW 0 rfl) rfl rfl rfl rfl ?_
 intro W hW
 obtain ⟨ee, hee⟩ : ∃ ee, ee = entE s [(v, x)] := ⟨_, rfl⟩
 have heo := hee.trans (entE_one s v x)
 have he0 : subB s v x = true → ee = 0 := fun h => heo.trans (by rw [h]; rfl)
 have he1 : subB s v x = false → ee = 31 := fun h => heo.trans (by rw [h]; rfl)
 rw [← hee]
 refine l_val (r_move (v := .tuple _) rfl rfl) rfl rfl ?_
 refine l_val (r_extract (v := .agg _) rfl rfl rfl) rfl rfl ?_
 refine l_val (r_extract (v := .int _ _) rfl rfl rfl) rfl rfl ?_
 refine l_alloc hW tyZ106 rfl rfl rfl ?_
 intro g3 W hW
 refine l_storeA hW 0 tyA106 rfl rfl rfl rfl rfl rfl rfl (entT_len _ _) (entT_one _ _) ?_
 intro W hW
 refine bI ?_
 refine l_end (n_then (c_seq (c_seq (c_reg ?_))))
 refine aI ?_
 refine l_val (r_neq rfl rfl rfl rfl) rfl rfl ?_
 refine l_split ?_ ?_
 ·intro hc1
  replace hc1 := of_decide_eq_true hc1
  have hb : subB s v x = false := by
   cases hb : subB s v x with
   | true => exact absurd (he0 hb) hc1
   | false => rfl
  refine l_end (n_then ?_)
  refine c_true rfl ?_
  refine c_seq (c_reg ?_)
  refine aI ?_
  refine bS ?_
  refine bI ?_
  refine l_end (n_then (c_ret (r_then ?_)))
  refine ret_tmp2 rfl rfl rfl ?_
  exact ⟨_, [], rfl, ⟨Sl.no, by rw [hb, he1 hb]; rfl, fun h => by rw [hb] at h; cases h⟩, hW.sub (List.nil_sublist _)⟩
 ·intro hc1
  replace hc1 := of_decide_eq_false hc1
  have hb : subB s v x = true := by
   cases hb : subB s v x with
   | false => have := he1 hb; omega
   | true => rfl
  have htt : entT s [(v, x)] = [.int .u8 s.k, .int .i64 s.d, .int .i64 (strideN s.d : Int)] := entT_yes (by rw [← hee]; omega)
  obtain ⟨hx1, hx2, hx3, hx4⟩ := sub_x d6 hb
  replace hW := (show Cl _ (⟨_, entT s [(v, x)], _⟩ :: _) _ from hW)
  rw [htt] at hW
  refine l_end (n_then ?_)
  refine c_false rfl ?_
  refine c_skip (n_then (c_seq (c_reg ?_)))
  refine dA hW 0 tyA106 ?_
  refine dA hW 2 tyA64 ?_
  refine l_callX hW (g_pmembers s v x d0 d6 hx1 hx2 hx3 hx4) en89 trivial rfl rfl rfl rfl ?_
  rintro _ Bs W ⟨am, cm, rfl, hO⟩ hW
  refine bS ?_
  refine bI ?_
  refine l_end (n_then (c_ret ?_))
  refine ret_tmp2 rfl rfl rfl ?_
  exact ⟨_, Bs, rfl, ⟨⟨am, _, cm⟩, by rw [hb]; rfl, fun _ => hO.newI⟩, hW.sub (List.sublist_append_right _ _)⟩

end Go.Proofs.YtoegpalacppllaaGreat

/- Lists of subsets, by the program. -/
namespace Go.Proofs.YtoegpalacppllaaGreat
open Go.RowKit Pl
open Tr Hn
set_option maxRecDepth 10000 in
/-- headend/trace.subsets -/
theorem g_psubsets (s : Sc) (ra : Option Addr) (rn rc : Nat) (l : List (Int × Int)) (hs : schB s = true) (hq : l.length ≤ 100) : GivesX Tryz.prog 83 [.agg [.int .u8 s.k, .int .i64 s.d, .int .i64 s.g, .int .u64 s.p, .int .u64 s.q, .int .u64 s.r].toArray, .slice ra rn rc].toArray (fun w => RdB w ⟨ra, rn, rc⟩ l) (fun u Bs => ∃ (t : Sl) (ss : List Sl), u = .tuple #[t.v, .int .i64 (subsE s l)] ∧ (subsE s l = 0 → Rep Bs fun W => RdG W t ss (mems s l))) := by
 refine givesX_of Tryz.func83 rfl (bs := [.agg [.int .u8 s.k, .int .i64 s.d, .int .i64 s.g, .int .u64 s.p, .int .u64 s.q, .int .u64 s.r].toArray, .slice ra rn rc, undef, undef, undef, undef, undef, undef, undef, undef, undef, undef, undef, undef, undef, undef, undef, undef, undef, undef, undef, undef, undef, undef, undef, undef, undef, undef, undef, undef, undef, undef, undef, undef, undef]) rfl ?_
 intro w hP hW
 obtain ⟨k1, k3, d0, d6, -⟩ := schB_iff.1 hs
 have hn : rn = l.length := hP.len
 refine c_seq (c_reg ?_)
 refine xB hW ?_
 intro g1 W hW
 refine bS ?_
 refine bI ?_
 refine l_end (n_then (c_seq (c_seq (c_reg ?_))))
 refine aS ?_
 refine l_val (r_lenSlice Tryz.underlying33 rfl rfl) rfl rfl ?_
 refine l_val (r_gtrN (n := 64) rfl rfl rfl rfl) rfl rfl ?_
 refine l_split ?_ ?_
 ·intro hc1
  replace hc1 := of_decide_eq_true hc1
  refine l_end (n_then ?_)
  refine c_true rfl ?_
  refine c_seq (c_reg ?_)
  refine bS ?_
  refine bI ?_
  refine l_end (n_then (c_ret (r_then ?_)))
  refine ret_tmp2 rfl rfl rfl ?_
  exact ⟨_, [], rfl, ⟨Sl.no, [], by rw [subsE_many (by omega)]; rfl, fun h => absurd h (by rw [subsE_many (by omega)]; decide)⟩, hW.sub (List.nil_sublist _)⟩
 ·intro hc1
  replace hc1 := of_decide_eq_false hc1
  refine l_end (n_then ?_)
  refine c_false rfl ?_
  refine c_skip (n_then (c_seq (c_reg ?_)))
  refine bS ?_
  refine l_end (n_then (c_seq (c_seq (c_reg ?_))))
  refine aS ?_
  refine l_val (r_lenSlice Tryz.underlying33 rfl rfl) rfl rfl ?_
  refine aI ?_
  refine l_end (n_then (c_block ?_))
  refine c_loop (fun (z : Nat × Option Addr × Nat × List Blk × List Blk × List Sl) (j : Nat → Value) => [.agg [.int .u8 s.k, .int .i64 s.d, .int .i64 s.g, .int .u64 s.p, .int .u64 s.q, .int .u64 s.r].toArray, .slice ra rn rc, .pointer (some ⟨g1, 0, none⟩), j 3, j 4, j 5, .slice z.2.1 z.1 z.2.2.1, j 7, j 8, j 9, j 10, .slice ra rn rc, j 12, .bool false, .slice ra rn rc, .int .i64 (rn : Int), .int .i64 (z.1 : Int), j 17, j 18, j 19, j 20, j 21, j 22, j 23, j 24, j 25, j 26, j 27, j 28, j 29, j 30, j 31, j 32, j 33, j 34]) (fun (z : Nat × Option Addr × Nat × List Blk × List Blk × List Sl) => [⟨g1, [.int .u8 s.k, .int .i64 s.d, .int .i64 s.g, .int .u64 s.p, .int .u64 s.q, .int .u64 s.r], 26⟩] ++ (z.2.2.2.1 ++ z.2.2.2.2.1)) (fun (z : Nat × Option Addr × Nat × List Blk × List Blk × List Sl) => z.1 ≤ rn ∧ (∀ k, k < z.1 → subB s (qn l k) (qm l k) = true) ∧ OwnSl 27 1 z.2.1 z.1 z.2.2.1 (z.2.2.2.2.2.map Sl.v) z.2.2.2.1 ∧ z.2.2.2.2.2.length = z.1 ∧ NewSs z.2.2.2.2.2 (mems s l) z.2.2.2.2.1) (fun (z : Nat × Option Addr × Nat × List Blk × List Blk × List Sl) => rn - z.1) (0, none, 0, [], [], []) (by kernel_rfl) (by simpa using hW) ⟨Nat.zero_le _, fun k hk => by omega, OwnSl.nil 27 1, rfl, NewSs.nil _ _⟩ ?_
  intro z j W hx hW
  obtain ⟨hi0, hib, hO, hzl, hN⟩ := hx
  refine c_seq (c_reg ?_)
  refine l_val (r_lssN rfl rfl rfl rfl) rfl rfl ?_
  refine l_split ?_ ?_
  ·intro hc2
   replace hc2 := of_decide_eq_true hc2
   obtain ⟨b0, o0, ha, hc⟩ := hP.ptr (by omega)
   simp only at ha
   subst ha
   refine l_end (n_then (c_seq ?_))
   refine c_true rfl ?_
   refine c_skip (n_then (c_seq (c_block (c_seq (c_reg ?_)))))
   refine l_val (r_indexAddrSlB (n := z.1) Tryz.underlying33 tyA64.size rfl rfl rfl (by omega)) rfl rfl ?_
   refine l_loadF2 hW tyA64 (hc z.1 (by omega)).1 (hc z.1 (by omega)).2 rfl rfl rfl rfl ?_
   refine l_alloc hW tyZ64 rfl rfl rfl ?_
   intro g2 W hW
   refine sA hW 0 tyA64 ?_
   intro W hW
   refine l_end (n_then (c_seq (c_reg ?_)))
   refine dA hW 1 tyA26 ?_
   refine dA hW 0 tyA64 ?_
   refine l_callX hW (g_Members s (qn l z.1) (qm l z.1) hs) en43 trivial rfl rfl rfl rfl ?_
   rintro _ BsM W ⟨tm, rfl, hm⟩ hW
   obtain ⟨ee, hee⟩ : ∃ ee : Int, ee = (if subB s (qn l z.1) (qm l z.1) = true then 0 else 31) := ⟨_, rfl⟩
   have he0 : subB s (qn l z.1) (qm l z.1) = true → ee = 0 := fun h => hee.trans (by rw [h]; rfl)
   have he1 : subB s (qn l z.1) (qm l z.1) = false → ee = 31 := fun h => hee.trans (by rw [h]; rfl)
   rw [← hee]
   refine l_val (r_move (v := .tuple _) rfl rfl) rfl rfl ?_
   refine l_val (r_extract (v := .slice _ _ _) rfl rfl rfl) rfl rfl ?_
   refine l_val (r_extract (v := .int _ _) rfl rfl rfl) rfl rfl ?_
   refine bS ?_
   refine bI ?_
   refine l_end (n_then (c_seq (c_seq (c_reg ?_))))
   refine aI ?_
   refine l_val (r_neq rfl rfl rfl rfl) rfl rfl ?_
   refine l_split ?_ ?_
   ·intro hc3
    replace hc3 := of_decide_eq_true hc3
    have hb : subB s (qn l z.1) (qm l z.1) = false := by
     cases hb : subB s (qn l z.1) (qm l z.1) with
     | true => exact absurd (he0 hb) hc3
     | false => rfl
    refine l_end (n_then ?_)
    refine c_true rfl ?_
    refine c_seq (c_reg ?_)
    refine aI ?_
    refine bS ?_
    refine bI ?_
    refine l_end (n_then (c_ret (r_then (r_block (r_then (r_then (r_block (r_then ?_))))))))
    refine ret_tmp2 rfl rfl rfl ?_
    exact ⟨_, [], rfl, ⟨Sl.no, [], by rw [subsE_no (i := z.1) (by omega) (by omega) hb, he1 hb]; rfl, fun h => absurd h (by rw [subsE_no (i := z.1) (by omega) (by omega) hb]; decide)⟩, hW.sub (List.nil_sublist _)⟩
   ·intro hc3
    replace hc3 := of_decide_eq_false hc3
    have hb : subB s (qn l z.1) (qm l z.1) = true := by
     cases hb : subB s (qn l z.1) (qm l z.1) with
     | false => have := he1 hb; omega
     | true => rfl
    refine l_end (n_then ?_)
    refine c_false rfl ?_
    refine c_skip (n_then (c_reg ?_))
    refine aS ?_
    refine aS ?_
    refine l_buildSliceF hW (bsl150_1_0 _ _ _) rfl rfl rfl rfl ?_
    intro gb W hW
    replace hW := (show Cl _ (_ :: (([_, _] ++ (z.2.2.2.1 ++ z.2.2.2.2.1)) ++ BsM)) _ from hW).perm permS
    refine l_appendB tyE150 (L := _ :: ([_, _] ++ (z.2.2.2.2.1 ++ BsM))) hO hW 0 (N := z.1 + 1) rfl rfl rfl rfl rfl rfl rfl rfl (by simp [Value.oneCell']) (by unfold maxLen; omega) (by omega) ?_
    intro a1 c1 Bs1 W hO1 hW
    replace hO1 := hO1.castx rfl (xs' := (z.2.2.2.2.2 ++ [tm]).map Sl.v) (by simp)
    refine bS ?_
    refine l_end (n_block (n_then (c_reg ?_)))
    refine l_val (r_addN (n := 1) rfl rfl rfl (by omega)) rfl rfl ?_
    refine aI ?_
    refine l_end (n_then ?_)
    exact loop_next (z.1 + 1, a1, c1, Bs1, z.2.2.2.2.1 ++ BsM, z.2.2.2.2.2 ++ [tm]) (by kernel_rfl) ((show Cl _ (_ :: ((z.2.2.2.2.1 ++ BsM) ++ Bs1)) _ from (hW.drop 2)).perm (List.Perm.cons _ List.perm_append_comm)) ⟨by simp only; omega, all_upto hib hb, hO1, by simp only [List.length_append, hzl]; rfl, hN.one (by rw [hzl]; exact mems_get (by omega)) (hm hb) (List.sublist_append_left _ _) (List.sublist_append_right _ _)⟩ (by simp only; omega)
  ·intro hc2
   replace hc2 := of_decide_eq_false hc2
   refine l_end (n_then (c_seq ?_))
   refine c_false rfl ?_
   refine c_exit (x_then (x_then ?_))
   refine x_hit ?_
   refine n_then (c_seq (c_reg ?_))
   refine aS ?_
   refine bS ?_
   refine bI ?_
   refine l_end (n_then (c_ret ?_))
   refine ret_tmp2 rfl rfl rfl ?_
   have hall := subsE_yes (s := s) (l := l) (by omega) fun k hk => hib k (by omega)
   exact ⟨_, _, rfl, ⟨⟨z.2.1, z.1, z.2.2.1⟩, z.2.2.2.2.2, by rw [hall]; rfl, fun _ => RdG.of hO hN (by rw [mems_len]; omega) (List.sublist_append_left _ _) (List.sublist_append_right _ _)⟩, hW.drop 1⟩

end Go.Proofs.YtoegpalacppllaaGreat

/- Which lists are open to a box, by the program. -/
namespace Go.Proofs.YtoegpalacppllaaGreat
open Go.RowKit Pl
open Tr Hn
theorem g_BSearch (aa : Option Addr) (an ac : Nat) (l : List Int) (x : Int) (hs : l.Pairwise (· ≤ ·)) (hl : l.length ≤ 4294967296) : ∃ q : Int, GivesR Tryz.prog 132 [.slice aa an ac, .int .i64 x].toArray (fun w => RdI w ⟨aa, an, ac⟩ l) (.tuple #[.int .i64 q, .bool (l.contains x)]) := by
 by_cases h0 : l.length = 0
 ·obtain rfl : l = [] := List.eq_nil_of_length_eq_zero h0
  refine ⟨0, fun w hp => ?_⟩
  obtain rfl : an = 0 := hp.len
  exact (Tryz.slices_BinarySearch_int_empty aa ac x w).mono fun e w' ⟨he, hw⟩ => ⟨he, hw ▸ Below.refl _ _⟩
 ·refine ⟨((l.countP (· < x) : Nat) : Int), fun w hp => ?_⟩
  have hn : an = l.length := hp.len
  obtain ⟨b, i, ha, hc⟩ := hp.ptr (by omega)
  simp only at ha
  subst ha
  subst hn
  have := Tryz.slices_BinarySearch_int b i l.length ac l x w (Nat.le_refl _) (by omega) hc (by rw [List.take_length]; exact hs)
  rw [List.take_length] at this
  exact this.mono fun e w' ⟨he, q, hw⟩ => ⟨he, hw ▸ below_drewN (Below.refl _ _) q⟩
set_option maxRecDepth 10000 in
/-- headend/trace.opens$1 -/
theorem g_opens1 (t : Sl) (c : List Int) (gx : Nat) (hc : c.Pairwise (· ≤ ·)) (hcl : c.length ≤ 100) (x : Int) : GivesR Tryz.prog 131 [.int .i64 x, .pointer (some ⟨gx, 0, none⟩)].toArray (fun w => w.cell? ⟨gx, 6, none⟩ = some t.v ∧ RdI w t c) (.bool (c.contains x)) := by
 refine givesR_of Tryz.func131 rfl (bs := [.int .i64 x, .pointer (some ⟨gx, 0, none⟩), undef, undef, undef, undef, undef, undef, undef, undef, undef, undef, undef, undef]) rfl ?_
 intro w hP hW
 obtain ⟨q, hbs⟩ := g_BSearch t.a t.n t.c c x hc (by omega)
 refine c_seq (c_reg ?_)
 refine bB ?_
 refine l_end (n_then (c_seq (c_reg ?_)))
 refine l_val (r_fieldAddr 6 Tryz.underlying31 rfl tyC27.size rfl rfl rfl) rfl rfl ?_
 refine l_loadF hW tyC27 (v := t.v) hP.1 rfl rfl rfl rfl ?_
 refine aI ?_
 refine l_callR hW hbs en132 (hP.2.past hW.below) rfl rfl rfl rfl ?_
 intro W hW
 refine l_val (r_move (v := .tuple _) rfl rfl) rfl rfl ?_
 refine l_val (r_extract (v := .int _ _) rfl rfl rfl) rfl rfl ?_
 refine l_val (r_extract (v := .bool _) rfl rfl rfl) rfl rfl ?_
 refine bI ?_
 refine bB ?_
 refine l_end (n_then (c_seq (c_reg ?_)))
 refine aB ?_
 refine bB ?_
 refine l_end (n_then (c_ret ?_))
 refine ret_tmp (v := .bool (c.contains x)) rfl ?_ ⟨rfl, hW.below⟩
 rfl

set_option maxRecDepth 10000 in
/-- slices.IndexFunc[[]int,int] -/
theorem g_IndexFunc (t : Sl) (c : List Int) (gx : Nat) (hc : c.Pairwise (· ≤ ·)) (hcl : c.length ≤ 100) (aa : Option Addr) (an ac : Nat) (l : List Int) (hl : l.length ≤ 4294967296) : GivesR Tryz.prog 134 [.slice aa an ac, .func (.func 131) #[] #[.pointer (some ⟨gx, 0, none⟩)]].toArray (fun w => (w.cell? ⟨gx, 6, none⟩ = some t.v ∧ RdI w t c) ∧ RdI w ⟨aa, an, ac⟩ l) (.int .i64 (findI l.length fun k => c.contains (at_ l k))) := by
 refine givesR_of Tryz.func134 rfl (bs := [.slice aa an ac, .func (.func 131) #[] #[.pointer (some ⟨gx, 0, none⟩)], undef, undef, undef, undef, undef, undef, undef, undef, undef, undef, undef, undef, undef, undef, undef, undef, undef]) rfl ?_
 intro w hP hW
 have hn : an = l.length := hP.2.len
 refine c_seq (c_reg ?_)
 refine bI ?_
 refine l_end (n_then (c_seq (c_seq (c_reg ?_))))
 refine aS ?_
 refine l_val (r_lenSlice Tryz.underlying27 rfl rfl) rfl rfl ?_
 refine aI ?_
 refine l_end (n_then (c_block ?_))
 refine c_loop (fun (i : Nat) (j : Nat → Value) => [.slice aa an ac, .func (.func 131) #[] #[.pointer (some ⟨gx, 0, none⟩)], j 2, j 3, j 4, j 5, .slice aa an ac, .int .i64 (an : Int), .int .i64 (i : Int), j 9, j 10, j 11, j 12, j 13, j 14, j 15, j 16, j 17, j 18]) (fun (i : Nat) => []) (fun (i : Nat) => i ≤ an ∧ ∀ k, k < i → c.contains (at_ l k) = false) (fun (i : Nat) => an - i) 0 (by kernel_rfl) hW ⟨by omega, all_zero⟩ ?_
 intro i j W hx hW
 obtain ⟨hi0, hib⟩ := hx
 refine c_seq (c_reg ?_)
 refine l_val (r_lssN rfl rfl rfl rfl) rfl rfl ?_
 refine l_split ?_ ?_
 ·intro hc1
  replace hc1 := of_decide_eq_true hc1
  obtain ⟨b0, o0, ha, hq⟩ := hP.2.ptr (by omega)
  simp only at ha
  subst ha
  refine l_end (n_then (c_seq ?_))
  refine c_true rfl ?_
  refine c_skip (n_then (c_seq (c_block (c_seq (c_reg ?_)))))
  refine aI ?_
  refine bI ?_
  refine l_end (n_then (c_seq (c_reg ?_)))
  refine l_val (r_move (v := .func _ _ _) rfl rfl) rfl rfl ?_
  refine aS ?_
  refine aI ?_
  refine l_val (r_indexAddrSl2 (n := i) Tryz.underlying27 tyC3.size rfl rfl rfl (by omega)) rfl rfl ?_
  refine l_loadF hW tyC3 (v := .int .i64 (at_ l (i))) (hq (i) (by omega)) rfl rfl rfl rfl ?_
  refine l_callVR hW (args := [.int .i64 (at_ l i)]) (cap := [.pointer (some ⟨gx, 0, none⟩)]) (g_opens1 t c gx hc hcl (at_ l i)) en131 ⟨cell_past hW.below hP.1.1, hP.1.2.past hW.below⟩ rfl rfl rfl rfl rfl ?_
  intro W hW
  refine l_split ?_ ?_
  ·intro hc2
   refine l_end (n_then ?_)
   refine c_true rfl ?_
   refine c_seq (c_reg ?_)
   refine aI ?_
   refine bI ?_
   refine l_end (n_then (c_ret (r_block (r_then (r_then (r_block (r_then ?_)))))))
   refine ret_tmp (v := .int .i64 (findI l.length fun k => c.contains (at_ l k))) rfl ?_ ⟨rfl, hW.below⟩
   exact congrArg (Value.int .i64) (find_yes (by omega) hc2 hib).symm
  ·intro hc2
   refine l_end (n_then ?_)
   refine c_false rfl ?_
   refine c_skip (n_block (n_then (c_reg ?_)))
   refine l_val (r_addN (n := 1) rfl rfl rfl (by omega)) rfl rfl ?_
   refine aI ?_
   refine l_end (n_then ?_)
   exact loop_next (i + 1) (by kernel_rfl) hW ⟨by omega, all_upto hib hc2⟩ (by omega)
 ·intro hc1
  replace hc1 := of_decide_eq_false hc1
  refine l_end (n_then (c_seq ?_))
  refine c_false rfl ?_
  refine c_exit (x_then (x_then ?_))
  refine x_hit ?_
  refine n_then (c_seq (c_reg ?_))
  refine bI ?_
  refine l_end (n_then (c_ret ?_))
  refine ret_tmp (v := .int .i64 (findI l.length fun k => c.contains (at_ l k))) rfl ?_ ⟨rfl, hW.below⟩
  exact congrArg (Value.int .i64) (find_no fun k hk => hib k (by omega)).symm

set_option maxRecDepth 10000 in
/-- slices.ContainsFunc[[]int,int] -/
theorem g_ContainsFunc (t : Sl) (c : List Int) (gx : Nat) (hc : c.Pairwise (· ≤ ·)) (hcl : c.length ≤ 100) (aa : Option Addr) (an ac : Nat) (l : List Int) (hl : l.length ≤ 4294967296) : GivesR Tryz.prog 90 [.slice aa an ac, .func (.func 131) #[] #[.pointer (some ⟨gx, 0, none⟩)]].toArray (fun w => (w.cell? ⟨gx, 6, none⟩ = some t.v ∧ RdI w t c) ∧ RdI w ⟨aa, an, ac⟩ l) (.bool (hasP c l)) := by
 refine givesR_of Tryz.func90 rfl (bs := [.slice aa an ac, .func (.func 131) #[] #[.pointer (some ⟨gx, 0, none⟩)], undef, undef, undef, undef, undef, undef, undef]) rfl ?_
 intro w hP hW
 refine c_seq (c_reg ?_)
 refine bB ?_
 refine l_end (n_then (c_seq (c_reg ?_)))
 refine aS ?_
 refine l_val (r_move (v := .func _ _ _) rfl rfl) rfl rfl ?_
 refine l_callR hW (g_IndexFunc t c gx hc hcl aa an ac l hl) en134 ⟨⟨cell_past hW.below hP.1.1, hP.1.2.past hW.below⟩, hP.2.past hW.below⟩ rfl rfl rfl rfl ?_
 intro W hW
 refine l_val (r_geq rfl rfl rfl rfl) rfl rfl ?_
 refine bB ?_
 refine l_end (n_then (c_ret ?_))
 refine ret_tmp (v := .bool (hasP c l)) rfl ?_ ⟨rfl, hW.below⟩
 exact congrArg Value.bool (find_any _ _)

set_option maxRecDepth 10000 in
/-- headend/trace.opens -/
theorem g_opens (b : Bo) (t : Sl) (ra : Option Addr) (rn rc : Nat) (ss : List Sl) (gs : List (List Int)) (hc : b.l.Pairwise (· ≤ ·)) (hl : b.l.length ≤ 100) (hg : gs.length ≤ 100) (hgl : ∀ m ∈ gs, m.length ≤ 4294967296) : GivesX Tryz.prog 85 [.agg (boC b t).toArray, .slice ra rn rc].toArray (fun w => RdI w t b.l ∧ RdG w ⟨ra, rn, rc⟩ ss gs) (NewSl 4 1 gs.length (tl (opl b.l gs gs.length))) := by
 refine givesX_of Tryz.func85 rfl (bs := [.agg (boC b t).toArray, .slice ra rn rc, undef, undef, undef, undef, undef, undef, undef, undef, undef, undef, undef, undef, undef, undef, undef, undef, undef, undef, undef, undef]) rfl ?_
 intro w hP hW
 have hn := hP.2.n
 have hn2 := hP.2.len
 simp only at hn
 refine c_seq (c_reg ?_)
 refine xB hW ?_
 intro g1 W hW
 refine bS ?_
 refine l_end (n_then (c_seq (c_reg ?_)))
 refine bS ?_
 refine l_end (n_then (c_seq (c_seq (c_reg ?_))))
 refine aS ?_
 refine l_val (r_lenSlice Tryz.underlying150 rfl rfl) rfl rfl ?_
 refine aI ?_
 refine l_end (n_then (c_block ?_))
 refine c_loop (fun (x : Nat × Option Addr × Nat × List Blk) (j : Nat → Value) => [.agg (boC b t).toArray, .slice ra rn rc, .pointer (some ⟨g1, 0, none⟩), j 3, j 4, .slice x.2.1 x.1 x.2.2.1, j 6, j 7, .slice ra rn rc, .int .i64 (rn : Int), .int .i64 (x.1 : Int), j 11, j 12, j 13, j 14, j 15, j 16, j 17, j 18, j 19, j 20, j 21]) (fun (x : Nat × Option Addr × Nat × List Blk) => [⟨g1, (boC b t), 31⟩] ++ x.2.2.2) (fun (x : Nat × Option Addr × Nat × List Blk) => x.1 ≤ rn ∧ OwnSl 4 1 x.2.1 x.1 x.2.2.1 (tl (opl b.l gs x.1)) x.2.2.2) (fun (x : Nat × Option Addr × Nat × List Blk) => rn - x.1) (0, none, 0, []) (by kernel_rfl) (by simpa using hW) ⟨Nat.zero_le _, OwnSl.nil 4 1⟩ ?_
 intro x j W hx hW
 obtain ⟨hx, hO⟩ := hx
 refine c_seq (c_reg ?_)
 refine l_val (r_lssN rfl rfl rfl rfl) rfl rfl ?_
 refine l_split ?_ ?_
 ·intro hc1
  replace hc1 := of_decide_eq_true hc1
  obtain ⟨b0, o0, rfl⟩ := hP.2.ptr (by omega)
  obtain ⟨sm, m, hs1, hm1, hcell, hrd⟩ := hP.2.get (i := x.1) (by omega)
  have hgd : gs.getD x.1 [] = m := by rw [List.getD_eq_getElem?_getD, hm1]; rfl
  refine l_end (n_then (c_seq ?_))
  refine c_true rfl ?_
  refine c_skip (n_then (c_seq (c_block (c_seq (c_reg ?_)))))
  refine l_val (r_indexAddrSl2 (n := x.1) Tryz.underlying150 tyC27.size rfl rfl rfl (by omega)) rfl rfl ?_
  refine l_loadF hW tyC27 (v := sm.v) hcell rfl rfl rfl rfl ?_
  refine bS ?_
  refine l_end (n_then (c_reg ?_))
  refine aS ?_
  refine aS ?_
  refine l_val (r_closure (vs := [.pointer (some ⟨g1, 0, none⟩)]) rfl rfl) rfl rfl ?_
  refine l_callR hW (g_ContainsFunc t b.l g1 hc hl sm.a sm.n sm.c m (hgl m (List.mem_of_getElem? hm1))) en90 ⟨⟨(cell_at (hW.at 0 rfl) 6).trans rfl, hP.1.past hW.below⟩, hrd.past hW.below⟩ rfl rfl rfl rfl ?_
  intro W hW
  refine l_buildSliceF hW (bsl155_1_0 _) rfl rfl rfl rfl ?_
  intro gb W hW
  refine l_appendB tyE155 (L := [_, _]) hO hW 0 (N := x.1 + 1) rfl rfl rfl rfl rfl rfl rfl rfl (by simp [Value.oneCell']) (by unfold maxLen; omega) (by omega) ?_
  intro a1 c1 Bs1 W hO1 hW
  replace hO1 := hO1.castx rfl (xs' := tl (opl b.l gs (x.1 + 1))) (by rw [opl_succ, tl_append, hgd]; rfl)
  refine bS ?_
  refine l_end (n_block (n_then (c_reg ?_)))
  refine l_val (r_addN (n := 1) rfl rfl rfl (by omega)) rfl rfl ?_
  refine aI ?_
  refine l_end (n_then ?_)
  exact loop_next (x.1 + 1, a1, c1, Bs1) (by kernel_rfl) (hW.drop 1) ⟨by simp only; omega, hO1⟩ (by simp only; omega)
 ·intro hc1
  replace hc1 := of_decide_eq_false hc1
  refine l_end (n_then (c_seq ?_))
  refine c_false rfl ?_
  refine c_exit (x_then (x_then ?_))
  refine x_hit ?_
  refine n_then (c_seq (c_reg ?_))
  refine aS ?_
  refine bS ?_
  refine l_end (n_then (c_ret ?_))
  refine ret_tmp (v := .slice _ _ _) rfl rfl ?_
  have e : x.1 = gs.length := by omega
  exact ⟨_, _, rfl, ⟨_, _, by rw [e], by rw [← e]; exact hO⟩, hW.sub (List.sublist_append_right _ _)⟩

end Go.Proofs.YtoegpalacppllaaGreat

/- A map of the call's own, with small numbers for keys. No function of the program is in sight here. -/
namespace Go.Proofs.YtoegpalacppllaaGreat
open Go.RowKit Go.MapKept

section
variable {P : Program} {ops : Array Oper} {Q : Exit → Act → World → Prop} {bs : List Value} {us : List (Nat × Value)} {ds : List Deferred} {b : Base} {W : World} {rest : List Oper} {o : Oper} {L : List Blk} {d : Nat} {v : Value} {r : Option (Option Nat)} {n : Nat}
theorem l_makeMap (hW : Cl b L W) {t : TypeId} (hg : o.guard = none) (ho : o.op = .makeMap t none) (hd : o.dst = some d)
    (h : ∀ m W', Cl ⟨b.w, W'⟩ L W' → W'.heap[m]? = some (.map #[] 0) → b.w.heap.size ≤ m → LW r n P ops Q rest (fr bs ((d, .map (some m)) :: us) ds) W') : LW r n P ops Q (o :: rest) (fr bs us ds) W := by
  have hrun : (execOp (ev bs us) o).run P W = .ok (.value (.map (some W.heap.size))) (W.alloc (.map #[] 0)) := by
    unfold execOp
    simp [ho, Instr.makeMap]
  exact l_run hg hrun hd (h _ _ (hW.rebase ((Below.refl _ W).alloc (Nat.le_refl _) _)) (World.alloc_heap_new W _) hW.below.size)
theorem l_insert (hW : Cl b L W) {m k : Nat} {es : Array MapEntry} {clock : Nat} {t kt et : TypeId} {x y z : Operand} (hm : W.heap[m]? = some (.map es clock)) (hb : b.w.heap.size ≤ m) (ht : P.underlying t = some (.map kt et)) (hk : P.underlying kt = some (.int .u8)) (hg : o.guard = none) (ho : o.op = .insert t x y z)
    (hx : ev bs us x = .map (some m)) (hy : ev bs us y = .int .u8 (k : Int)) (hz : ev bs us z = v) (hd : o.dst = none) (hf : Instr.findNow (.int .u8) (.int .u8 (k : Int)) es.toList 0 = some none)
    (h : ∀ W', Cl ⟨b.w, W'⟩ L W' → W'.heap[m]? = some (.map (es.push { key := .int .u8 (k : Int), val := v, born := clock }) (clock + 1)) → LW r n P ops Q rest (fr bs us ds) W') : LW r n P ops Q (o :: rest) (fr bs us ds) W := by
  have hrun : (execOp (ev bs us) o).run P W = .ok .skip (W.putObj m (.map (es.push { key := .int .u8 (k : Int), val := v, born := clock }) (clock + 1))) := by
    unfold execOp
    simp only [ho, hx, hy, hz, Instr.mapUpdate, Sem.run_bind, run_underlying ht, Result.andThen_ok, Go.MapKept.run_getObj_map hm, Go.MapKept.run_checkKey hk (show IsKey (.int .u8) (.int .u8 (k : Int)) from rfl) false 9999, Go.MapKept.run_findKey hk hf, Go.MapKept.run_setObj_map _ hm, Sem.run_pure]
    rfl
  refine LW.skip (wanted_none hg) (by rw [eval_ev]; exact hrun) ?_
  rw [hd, put_none]
  exact h _ (hW.put _ hm rfl hb) (World.putObj_heap_same (Array.getElem?_eq_some_iff.1 hm).1)
theorem r_nilCheck {x : Operand} {g i : Nat} (ho : o.op = .nilCheck x) (hx : ev bs us x = .pointer (some ⟨g, i, none⟩)) : Runs P bs us o (.pointer (some ⟨g, i, none⟩)) := fun w => by
  unfold execOp
  simp [ho, hx]
theorem r_lookup {m k i : Nat} {es : Array MapEntry} {clock : Nat} {t kt et : TypeId} {x y : Operand} (hm : W.heap[m]? = some (.map es clock)) (ht : P.underlying t = some (.map kt et)) (hk : P.underlying kt = some (.int .u8)) (ho : o.op = .lookup t x y false)
    (hx : ev bs us x = .map (some m)) (hy : ev bs us y = .int .u8 (k : Int)) (hf : Instr.findNow (.int .u8) (.int .u8 (k : Int)) es.toList 0 = some (some (i, v))) : (execOp (ev bs us) o).run P W = .ok (.value v) W := by
  unfold execOp
  simp only [ho, hx, hy, Instr.lookup, Sem.run_bind, run_underlying ht, Result.andThen_ok, Go.MapKept.run_getObj_map hm, Sem.run_pure, Go.MapKept.run_checkKey hk (show IsKey (.int .u8) (.int .u8 (k : Int)) from rfl) es.isEmpty 9999, Go.MapKept.run_findKey hk hf]
  rfl
end
end Go.Proofs.YtoegpalacppllaaGreat

/- How a box plays, by the program. -/
namespace Go.Proofs.YtoegpalacppllaaGreat
open Go.RowKit Pl
open Tr Hn
set_option maxRecDepth 10000 in
/-- headend/trace.plays$1 -/
theorem g_plays1 (gv : Nat) (fi : Bool) : GivesR Tryz.prog 165 [.pointer (some ⟨gv, 0, none⟩)].toArray (fun w => w.cell? ⟨gv, 2, none⟩ = some (.bool fi)) (.bool fi) := by
 refine givesR_of Tryz.func165 rfl (bs := [.pointer (some ⟨gv, 0, none⟩), undef, undef, undef]) rfl ?_
 intro w hP hW
 refine c_seq (c_reg ?_)
 refine bB ?_
 refine l_end (n_then (c_seq (c_reg ?_)))
 refine l_val (r_fieldAddr 2 Tryz.underlying206 rfl tyC4.size rfl rfl rfl) rfl rfl ?_
 refine l_loadF hW tyC4 (v := .bool fi) hP rfl rfl rfl rfl ?_
 refine bB ?_
 refine l_end (n_then (c_ret ?_))
 refine ret_tmp (v := .bool fi) rfl ?_ ⟨rfl, hW.below⟩
 rfl

set_option maxRecDepth 10000 in
/-- headend/trace.plays$2 -/
theorem g_plays2  : Gives Tryz.prog 166 [].toArray (.bool false) := by
 refine gives_of Tryz.func166 rfl (bs := [undef]) rfl ?_
 intro w hW
 refine c_seq (c_reg ?_)
 refine bB ?_
 refine l_end (n_then (c_seq (c_reg ?_)))
 refine bB ?_
 refine l_end (n_then (c_ret ?_))
 refine ret_tmp (v := .bool false) rfl ?_ ⟨rfl, hW.below⟩
 rfl

set_option maxRecDepth 10000 in
/-- headend/trace.plays$3 -/
theorem g_plays3  : Gives Tryz.prog 167 [].toArray (.bool true) := by
 refine gives_of Tryz.func167 rfl (bs := [undef]) rfl ?_
 intro w hW
 refine c_seq (c_reg ?_)
 refine bB ?_
 refine l_end (n_then (c_seq (c_reg ?_)))
 refine bB ?_
 refine l_end (n_then (c_ret ?_))
 refine ret_tmp (v := .bool true) rfl ?_ ⟨rfl, hW.below⟩
 rfl

set_option maxRecDepth 10000 in
/-- headend/trace.plays$4 -/
theorem g_plays4 (b : Bo) (r wr gx gv : Nat) (h1 : r ≤ 100) (h2 : wr ≤ 100) : GivesR Tryz.prog 168 [.pointer (some ⟨gx, 0, none⟩), .pointer (some ⟨gv, 0, none⟩)].toArray (fun w => w.cell? ⟨gv, 0, none⟩ = some (.int .i64 (r : Int)) ∧ w.cell? ⟨gv, 1, none⟩ = some (.int .i64 (wr : Int)) ∧ ∀ j v, (kc b.k)[j]? = some v → w.cell? ⟨gx, 10 + j, none⟩ = some v) (.bool (oddB b r wr)) := by
 refine givesR_of Tryz.func168 rfl (bs := [.pointer (some ⟨gx, 0, none⟩), .pointer (some ⟨gv, 0, none⟩), undef, undef, undef, undef, undef, undef, undef, undef, undef, undef, undef, undef, undef]) rfl ?_
 intro w hP hW
 refine c_seq (c_reg ?_)
 refine bB ?_
 refine l_end (n_then (c_seq (c_reg ?_)))
 refine l_val (r_fieldAddr 10 Tryz.underlying31 rfl tyA29.size rfl rfl rfl) rfl rfl ?_
 refine l_loadFs hW tyA29 hP.2.2 (kc_len _) rfl rfl rfl rfl ?_
 refine l_val (r_fieldAddr 1 Tryz.underlying206 rfl tyC3.size rfl rfl rfl) rfl rfl ?_
 refine l_loadF hW tyC3 (v := .int .i64 (wr : Int)) hP.2.1 rfl rfl rfl rfl ?_
 refine l_val (r_mulN (m := 64) rfl rfl rfl (by omega)) rfl rfl ?_
 refine l_val (r_addN (m := 4294967296) rfl rfl rfl (by omega)) rfl rfl ?_
 refine l_val (r_fieldAddr 0 Tryz.underlying206 rfl tyC3.size rfl rfl rfl) rfl rfl ?_
 refine l_loadF hW tyC3 (v := .int .i64 (r : Int)) hP.1 rfl rfl rfl rfl ?_
 refine l_val (r_addN rfl rfl rfl (by omega)) rfl rfl ?_
 refine l_val (r_conv_i64_u64 Tryz.underlying3 Tryz.underlying22 rfl rfl) rfl rfl ?_
 refine l_call hW (g_Number b.k (BitVec.ofNat 64 (4294967296 + 64 * wr + r)) 2#64) en129 rfl rfl rfl rfl ?_
 intro W hW
 refine l_val (r_eql_u64 (y := 1#64) rfl rfl rfl rfl) rfl rfl ?_
 refine bB ?_
 refine l_end (n_then (c_ret ?_))
 refine ret_tmp (v := .bool (oddB b r wr)) rfl ?_ ⟨rfl, hW.below⟩
 rfl

theorem boC_kc (b : Bo) (t : Sl) {j : Nat} {v : Value} (h : (kc b.k)[j]? = some v) : (boC b t)[10 + j]? = some v := by
 have hj : j < 16 := by have := (List.getElem?_eq_some_iff.1 h).1; rw [kc_len] at this; exact this
 show ([_, _, _, _, _, _, _, _, _, _] ++ (kc b.k ++ [_, _]))[10 + j]? = _
 rw [List.getElem?_append_right (by simp), List.getElem?_append_left (by rw [kc_len]; simp; omega)]
 simpa using h
set_option maxRecDepth 10000 in
/-- headend/trace.plays -/
theorem g_plays_m1 (b : Bo) (t : Sl) (r wr : Nat) (fi : Bool) (hm : b.m = 1) : Gives Tryz.prog 130 [.agg (boC b t).toArray, .agg [.int .i64 (r : Int), .int .i64 (wr : Int), .bool fi].toArray].toArray (.bool (playB b r wr fi)) := by
 refine gives_of Tryz.func130 rfl (bs := [.agg (boC b t).toArray, .agg [.int .i64 (r : Int), .int .i64 (wr : Int), .bool fi].toArray, undef, undef, undef, undef, undef, undef, undef, undef, undef, undef, undef, undef, undef]) rfl ?_
 intro w hW
 refine c_seq (c_reg ?_)
 refine xB hW ?_
 intro g1 W hW
 refine xB hW ?_
 intro g2 W hW
 refine bB ?_
 refine l_end (n_then (c_seq (c_reg ?_)))
 refine l_makeMap hW rfl rfl rfl ?_
 intro gm W hW hM hbm
 refine l_val (r_closure (vs := [.pointer (some ⟨g2, 0, none⟩)]) rfl rfl) rfl rfl ?_
 refine l_insert (k := 1) hW hM hbm Tryz.underlying241 Tryz.underlying5 rfl rfl rfl rfl rfl rfl (by first | rfl | (simp [Go.Instr.findNow, Go.Instr.sameNow]; done)) ?_
 intro W hW hM
 refine l_insert (k := 2) hW hM hbm Tryz.underlying241 Tryz.underlying5 rfl rfl rfl rfl rfl rfl (by first | rfl | (simp [Go.Instr.findNow, Go.Instr.sameNow]; done)) ?_
 intro W hW hM
 refine l_insert (k := 3) hW hM hbm Tryz.underlying241 Tryz.underlying5 rfl rfl rfl rfl rfl rfl (by first | rfl | (simp [Go.Instr.findNow, Go.Instr.sameNow]; done)) ?_
 intro W hW hM
 refine l_val (r_closure (vs := [.pointer (some ⟨g1, 0, none⟩), .pointer (some ⟨g2, 0, none⟩)]) rfl rfl) rfl rfl ?_
 refine l_insert (k := 4) hW hM hbm Tryz.underlying241 Tryz.underlying5 rfl rfl rfl rfl rfl rfl (by first | rfl | (simp [Go.Instr.findNow, Go.Instr.sameNow]; done)) ?_
 intro W hW hM
 refine l_val (r_move (v := .map _) rfl rfl) rfl rfl ?_
 refine l_val (r_assign (v := .map _) rfl rfl) rfl rfl ?_
 refine l_end (n_then (c_seq (c_reg ?_)))
 refine l_val (r_move (v := .map _) rfl rfl) rfl rfl ?_
 refine l_val (r_fieldAddr 7 Tryz.underlying31 rfl tyC5.size rfl rfl rfl) rfl rfl ?_
 refine dC hW 1 tyC5 ?_
 refine l_run rfl (r_lookup (v := .func (.func 165) #[] #[.pointer (some ⟨g2, 0, none⟩)]) (k := 1) (i := 0) hM Tryz.underlying241 Tryz.underlying5 rfl rfl (congrArg (Value.int .u8) hm) (by first | rfl | (simp [Go.Instr.findNow, Go.Instr.sameNow]; done))) rfl ?_
 refine l_callVR hW (args := []) (cap := [.pointer (some ⟨g2, 0, none⟩)]) (g_plays1 g2 fi) en165 ((cell_at (hW.at 0 rfl) 2).trans rfl) rfl rfl rfl rfl rfl ?_
 intro W hW
 refine bB ?_
 refine l_end (n_then (c_ret ?_))
 refine ret_tmp (v := .bool (playB b r wr fi)) rfl ?_ ⟨rfl, hW.below⟩
 exact congrArg Value.bool (play_1 hm).symm

set_option maxRecDepth 10000 in
/-- headend/trace.plays -/
theorem g_plays_m2 (b : Bo) (t : Sl) (r wr : Nat) (fi : Bool) (hm : b.m = 2) : Gives Tryz.prog 130 [.agg (boC b t).toArray, .agg [.int .i64 (r : Int), .int .i64 (wr : Int), .bool fi].toArray].toArray (.bool (playB b r wr fi)) := by
 refine gives_of Tryz.func130 rfl (bs := [.agg (boC b t).toArray, .agg [.int .i64 (r : Int), .int .i64 (wr : Int), .bool fi].toArray, undef, undef, undef, undef, undef, undef, undef, undef, undef, undef, undef, undef, undef]) rfl ?_
 intro w hW
 refine c_seq (c_reg ?_)
 refine xB hW ?_
 intro g1 W hW
 refine xB hW ?_
 intro g2 W hW
 refine bB ?_
 refine l_end (n_then (c_seq (c_reg ?_)))
 refine l_makeMap hW rfl rfl rfl ?_
 intro gm W hW hM hbm
 refine l_val (r_closure (vs := [.pointer (some ⟨g2, 0, none⟩)]) rfl rfl) rfl rfl ?_
 refine l_insert (k := 1) hW hM hbm Tryz.underlying241 Tryz.underlying5 rfl rfl rfl rfl rfl rfl (by first | rfl | (simp [Go.Instr.findNow, Go.Instr.sameNow]; done)) ?_
 intro W hW hM
 refine l_insert (k := 2) hW hM hbm Tryz.underlying241 Tryz.underlying5 rfl rfl rfl rfl rfl rfl (by first | rfl | (simp [Go.Instr.findNow, Go.Instr.sameNow]; done)) ?_
 intro W hW hM
 refine l_insert (k := 3) hW hM hbm Tryz.underlying241 Tryz.underlying5 rfl rfl rfl rfl rfl rfl (by first | rfl | (simp [Go.Instr.findNow, Go.Instr.sameNow]; done)) ?_
 intro W hW hM
 refine l_val (r_closure (vs := [.pointer (some ⟨g1, 0, none⟩), .pointer (some ⟨g2, 0, none⟩)]) rfl rfl) rfl rfl ?_
 refine l_insert (k := 4) hW hM hbm Tryz.underlying241 Tryz.underlying5 rfl rfl rfl rfl rfl rfl (by first | rfl | (simp [Go.Instr.findNow, Go.Instr.sameNow]; done)) ?_
 intro W hW hM
 refine l_val (r_move (v := .map _) rfl rfl) rfl rfl ?_
 refine l_val (r_assign (v := .map _) rfl rfl) rfl rfl ?_
 refine l_end (n_then (c_seq (c_reg ?_)))
 refine l_val (r_move (v := .map _) rfl rfl) rfl rfl ?_
 refine l_val (r_fieldAddr 7 Tryz.underlying31 rfl tyC5.size rfl rfl rfl) rfl rfl ?_
 refine dC hW 1 tyC5 ?_
 refine l_run rfl (r_lookup (v := .func (.func 166) #[] #[]) (k := 2) (i := 1) hM Tryz.underlying241 Tryz.underlying5 rfl rfl (congrArg (Value.int .u8) hm) (by first | rfl | (simp [Go.Instr.findNow, Go.Instr.sameNow]; done))) rfl ?_
 refine l_callV hW (args := []) (cap := []) g_plays2 en166 rfl rfl rfl rfl rfl ?_
 intro W hW
 refine bB ?_
 refine l_end (n_then (c_ret ?_))
 refine ret_tmp (v := .bool (playB b r wr fi)) rfl ?_ ⟨rfl, hW.below⟩
 exact congrArg Value.bool (play_2 (by omega) (by omega) (by omega)).symm

set_option maxRecDepth 10000 in
/-- headend/trace.plays -/
theorem g_plays_m3 (b : Bo) (t : Sl) (r wr : Nat) (fi : Bool) (hm : b.m = 3) : Gives Tryz.prog 130 [.agg (boC b t).toArray, .agg [.int .i64 (r : Int), .int .i64 (wr : Int), .bool fi].toArray].toArray (.bool (playB b r wr fi)) := by
 refine gives_of Tryz.func130 rfl (bs := [.agg (boC b t).toArray, .agg [.int .i64 (r : Int), .int .i64 (wr : Int), .bool fi].toArray, undef, undef, undef, undef, undef, undef, undef, undef, undef, undef, undef, undef, undef]) rfl ?_
 intro w hW
 refine c_seq (c_reg ?_)
 refine xB hW ?_
 intro g1 W hW
 refine xB hW ?_
 intro g2 W hW
 refine bB ?_
 refine l_end (n_then (c_seq (c_reg ?_)))
 refine l_makeMap hW rfl rfl rfl ?_
 intro gm W hW hM hbm
 refine l_val (r_closure (vs := [.pointer (some ⟨g2, 0, none⟩)]) rfl rfl) rfl rfl ?_
 refine l_insert (k := 1) hW hM hbm Tryz.underlying241 Tryz.underlying5 rfl rfl rfl rfl rfl rfl (by first | rfl | (simp [Go.Instr.findNow, Go.Instr.sameNow]; done)) ?_
 intro W hW hM
 refine l_insert (k := 2) hW hM hbm Tryz.underlying241 Tryz.underlying5 rfl rfl rfl rfl rfl rfl (by first | rfl | (simp [Go.Instr.findNow, Go.Instr.sameNow]; done)) ?_
 intro W hW hM
 refine l_insert (k := 3) hW hM hbm Tryz.underlying241 Tryz.underlying5 rfl rfl rfl rfl rfl rfl (by first | rfl | (simp [Go.Instr.findNow, Go.Instr.sameNow]; done)) ?_
 intro W hW hM
 refine l_val (r_closure (vs := [.pointer (some ⟨g1, 0, none⟩), .pointer (some ⟨g2, 0, none⟩)]) rfl rfl) rfl rfl ?_
 refine l_insert (k := 4) hW hM hbm Tryz.underlying241 Tryz.underlying5 rfl rfl rfl rfl rfl rfl (by first | rfl | (simp [Go.Instr.findNow, Go.Instr.sameNow]; done)) ?_
 intro W hW hM
 refine l_val (r_move (v := .map _) rfl rfl) rfl rfl ?_
 refine l_val (r_assign (v := .map _) rfl rfl) rfl rfl ?_
 refine l_end (n_then (c_seq (c_reg ?_)))
 refine l_val (r_move (v := .map _) rfl rfl) rfl rfl ?_
 refine l_val (r_fieldAddr 7 Tryz.underlying31 rfl tyC5.size rfl rfl rfl) rfl rfl ?_
 refine dC hW 1 tyC5 ?_
 refine l_run rfl (r_lookup (v := .func (.func 167) #[] #[]) (k := 3) (i := 2) hM Tryz.underlying241 Tryz.underlying5 rfl rfl (congrArg (Value.int .u8) hm) (by first | rfl | (simp [Go.Instr.findNow, Go.Instr.sameNow]; done))) rfl ?_
 refine l_callV hW (args := []) (cap := []) g_plays3 en167 rfl rfl rfl rfl rfl ?_
 intro W hW
 refine bB ?_
 refine l_end (n_then (c_ret ?_))
 refine ret_tmp (v := .bool (playB b r wr fi)) rfl ?_ ⟨rfl, hW.below⟩
 exact congrArg Value.bool (play_3 hm).symm

set_option maxRecDepth 10000 in
/-- headend/trace.plays -/
theorem g_plays_m4 (b : Bo) (t : Sl) (r wr : Nat) (fi : Bool) (hm : b.m = 4) (h1 : r ≤ 100) (h2 : wr ≤ 100) : Gives Tryz.prog 130 [.agg (boC b t).toArray, .agg [.int .i64 (r : Int), .int .i64 (wr : Int), .bool fi].toArray].toArray (.bool (playB b r wr fi)) := by
 refine gives_of Tryz.func130 rfl (bs := [.agg (boC b t).toArray, .agg [.int .i64 (r : Int), .int .i64 (wr : Int), .bool fi].toArray, undef, undef, undef, undef, undef, undef, undef, undef, undef, undef, undef, undef, undef]) rfl ?_
 intro w hW
 refine c_seq (c_reg ?_)
 refine xB hW ?_
 intro g1 W hW
 refine xB hW ?_
 intro g2 W hW
 refine bB ?_
 refine l_end (n_then (c_seq (c_reg ?_)))
 refine l_makeMap hW rfl rfl rfl ?_
 intro gm W hW hM hbm
 refine l_val (r_closure (vs := [.pointer (some ⟨g2, 0, none⟩)]) rfl rfl) rfl rfl ?_
 refine l_insert (k := 1) hW hM hbm Tryz.underlying241 Tryz.underlying5 rfl rfl rfl rfl rfl rfl (by first | rfl | (simp [Go.Instr.findNow, Go.Instr.sameNow]; done)) ?_
 intro W hW hM
 refine l_insert (k := 2) hW hM hbm Tryz.underlying241 Tryz.underlying5 rfl rfl rfl rfl rfl rfl (by first | rfl | (simp [Go.Instr.findNow, Go.Instr.sameNow]; done)) ?_
 intro W hW hM
 refine l_insert (k := 3) hW hM hbm Tryz.underlying241 Tryz.underlying5 rfl rfl rfl rfl rfl rfl (by first | rfl | (simp [Go.Instr.findNow, Go.Instr.sameNow]; done)) ?_
 intro W hW hM
 refine l_val (r_closure (vs := [.pointer (some ⟨g1, 0, none⟩), .pointer (some ⟨g2, 0, none⟩)]) rfl rfl) rfl rfl ?_
 refine l_insert (k := 4) hW hM hbm Tryz.underlying241 Tryz.underlying5 rfl rfl rfl rfl rfl rfl (by first | rfl | (simp [Go.Instr.findNow, Go.Instr.sameNow]; done)) ?_
 intro W hW hM
 refine l_val (r_move (v := .map _) rfl rfl) rfl rfl ?_
 refine l_val (r_assign (v := .map _) rfl rfl) rfl rfl ?_
 refine l_end (n_then (c_seq (c_reg ?_)))
 refine l_val (r_move (v := .map _) rfl rfl) rfl rfl ?_
 refine l_val (r_fieldAddr 7 Tryz.underlying31 rfl tyC5.size rfl rfl rfl) rfl rfl ?_
 refine dC hW 1 tyC5 ?_
 refine l_run rfl (r_lookup (v := .func (.func 168) #[] #[.pointer (some ⟨g1, 0, none⟩), .pointer (some ⟨g2, 0, none⟩)]) (k := 4) (i := 3) hM Tryz.underlying241 Tryz.underlying5 rfl rfl (congrArg (Value.int .u8) hm) (by first | rfl | (simp [Go.Instr.findNow, Go.Instr.sameNow]; done))) rfl ?_
 refine l_callVR hW (args := []) (cap := [.pointer (some ⟨g1, 0, none⟩), .pointer (some ⟨g2, 0, none⟩)]) (g_plays4 b r wr g1 g2 h1 h2) en168 ⟨(cell_at (hW.at 0 rfl) 0).trans rfl, (cell_at (hW.at 0 rfl) 1).trans rfl, fun j v hj => (cell_at (hW.at 1 rfl) (10 + j)).trans (boC_kc b t hj)⟩ rfl rfl rfl rfl rfl ?_
 intro W hW
 refine bB ?_
 refine l_end (n_then (c_ret ?_))
 refine ret_tmp (v := .bool (playB b r wr fi)) rfl ?_ ⟨rfl, hW.below⟩
 exact congrArg Value.bool (play_4 hm).symm

/-- how a box plays -/
theorem g_plays (b : Bo) (t : Sl) (r wr : Nat) (fi : Bool) (h0 : 1 ≤ b.m) (h4 : b.m ≤ 4) (h1 : r ≤ 100) (h2 : wr ≤ 100) : Gives Tryz.prog 130 [.agg (boC b t).toArray, .agg [.int .i64 (r : Int), .int .i64 (wr : Int), .bool fi].toArray].toArray (.bool (playB b r wr fi)) := by
 have : b.m = 1 ∨ b.m = 2 ∨ b.m = 3 ∨ b.m = 4 := by omega
 rcases this with h | h | h | h
 ·exact g_plays_m1 b t r wr fi h
 ·exact g_plays_m2 b t r wr fi h
 ·exact g_plays_m3 b t r wr fi h
 ·exact g_plays_m4 b t r wr fi h h1 h2
end Go.Proofs.YtoegpalacppllaaGreat

