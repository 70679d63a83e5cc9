/- Part 4 of 5: what the law of this claim leans on -/
import Derived.Test.YtoegpalacppllaaGreatPkB3
import Derived.Lib.AppendZerosOnto
import Derived.Lib.Overlaps
import Derived.Scope
import Derived.Control
/- A query, by the program: the box. -/
namespace Go.Proofs.YtoegpalacppllaaGreat
open Go.RowKit Pl
open Tr Hn
theorem play_congr {b b2 : Bo} {r w : Nat} {fi : Bool} (em : b2.m = b.m) (ek : b2.k = b.k) : playB b2 r w fi = playB b r w fi := by unfold playB oddB; rw [em, ek]
theorem boC_setAR (b : Bo) (t : Sl) (z : Int) (R : List Value) : (boC b t ++ R).set 26 (.int .i64 z) = boC { b with a := z } t ++ R := rfl
theorem boC_setXR (b : Bo) (t : Sl) (z : Int) (R : List Value) : (boC b t ++ R).set 27 (.int .i64 z) = boC { b with x := z } t ++ R := rfl
theorem boC_keyR (b : Bo) (t : Sl) (R : List Value) : ((boC b t ++ R).drop 10).take 16 = kc b.k := by
 rw [List.drop_append_of_le_length (by rw [boC_len]; decide), List.take_append_of_le_length (by rw [List.length_drop, boC_len]; decide)]
 exact boC_key b t
theorem boC_boxR (b : Bo) (t : Sl) (R : List Value) : ((boC b t ++ R).drop 0).take 28 = boC b t := by
 rw [List.drop_zero]
 exact List.take_left' (boC_len b t)
set_option maxRecDepth 10000 in
set_option maxHeartbeats 4000000 in
/-- headend/trace.ask -/
theorem g_askG (R : List Value) (ty : TypeId) (q : Bo) (t : Sl) (gx : Nat) (oa : Option Addr) (on oc : Nat) (o : List Bool) (f : Int) (n0 : 0 ≤ q.n) (n8 : q.n ≤ 8) (a0 : 0 ≤ q.a) (a1 : q.a ≤ 100000) (x1 : q.x ≤ q.a) (x0 : 0 ≤ q.x) (m1 : 1 ≤ q.m) (m4 : q.m ≤ 4) (ho : o.length ≤ 100) : GivesS Tryz.prog 84 [.pointer (some ⟨gx, 0, none⟩), .slice oa on oc, .int .i64 f].toArray (fun b0 L => ∀ W, Cl b0 L W → RdT W ⟨oa, on, oc⟩ o) [⟨gx, (boC q t ++ R), ty⟩] (fun v B => v = .bool (plays q o f) ∧ B = [⟨gx, boC (askd q o f) t ++ R, ty⟩]) := by
 refine givesS_of Tryz.func84 rfl (bs := [.pointer (some ⟨gx, 0, none⟩), .slice oa on oc, .int .i64 f, undef, undef, undef, undef, undef, undef, undef, undef, undef, undef, undef, undef, undef, undef, undef, undef, undef, undef, undef, undef, undef, undef, undef, undef, undef, undef, undef, undef, undef, undef, undef, undef, undef, undef, undef, undef, undef, undef, undef, undef, undef, undef, undef, undef, undef, undef, undef, undef, undef, undef, undef, undef, undef, undef, undef, undef, undef, undef, undef, undef, undef, undef, undef, undef, undef, undef, undef, undef, undef, undef, undef, undef, undef, undef, undef, undef, undef, undef, undef, undef, undef, undef, undef, undef, undef, undef, undef, undef, undef, undef, undef, undef, undef, undef, undef, undef, undef, undef, undef, undef, undef, undef, undef, undef, undef, undef, undef, undef, undef, undef, undef, undef, undef, undef, undef, undef, undef, undef, undef, undef, undef, undef, undef, undef, undef, undef, undef]) rfl ?_
 intro b L w hP hW
 have hn : on = o.length := (hP w (hW.sub (List.sublist_append_right _ _))).len
 have ha : q.a = (q.a.toNat : Int) := by omega
 have hb : q.n + 1 = ((q.n.toNat + 1 : Nat) : Int) := by omega
 refine c_seq (c_reg ?_)
 refine bB ?_
 refine l_end (n_then (c_seq (c_reg ?_)))
 refine l_alloc hW tyZ206 rfl rfl rfl ?_
 intro g1 W hW
 refine l_end (n_then (c_seq (c_seq (c_reg ?_))))
 refine aS ?_
 refine l_val (r_lenSlice Tryz.underlying155 rfl rfl) rfl rfl ?_
 refine aI ?_
 refine l_end (n_then (c_block ?_))
 refine c_loop (fun (x : Nat × Nat × Nat × Bool) (j : Nat → Value) => [.pointer (some ⟨gx, 0, none⟩), .slice oa on oc, .int .i64 f, j 3, j 4, j 5, .bool false, .pointer (some ⟨g1, 0, none⟩), j 8, j 9, j 10, j 11, j 12, j 13, .slice oa on oc, .int .i64 (on : Int), .int .i64 (x.1 : Int), j 17, j 18, j 19, j 20, j 21, j 22, j 23, j 24, j 25, j 26, j 27, j 28, j 29, j 30, j 31, j 32, j 33, j 34, j 35, j 36, j 37, j 38, j 39, j 40, j 41, j 42, j 43, j 44, j 45, j 46, j 47, j 48, j 49, j 50, j 51, j 52, j 53, j 54, j 55, j 56, j 57, j 58, j 59, j 60, j 61, j 62, j 63, j 64, j 65, j 66, j 67, j 68, j 69, j 70, j 71, j 72, j 73, j 74, j 75, j 76, j 77, j 78, j 79, j 80, j 81, j 82, j 83, j 84, j 85, j 86, j 87, j 88, j 89, j 90, j 91, j 92, j 93, j 94, j 95, j 96, j 97, j 98, j 99, j 100, j 101, j 102, j 103, j 104, j 105, j 106, j 107, j 108, j 109, j 110, j 111, j 112, j 113, j 114, j 115, j 116, j 117, j 118, j 119, j 120, j 121, j 122, j 123, j 124, j 125, j 126, j 127, j 128, j 129]) (fun (x : Nat × Nat × Nat × Bool) => [⟨g1, [.int .i64 (x.2.1 : Int), .int .i64 (x.2.2.1 : Int), .bool x.2.2.2], 206⟩, ⟨gx, (boC q t ++ R), ty⟩] ++ L) (fun (x : Nat × Nat × Nat × Bool) => x.1 ≤ on ∧ stp o f x.1 = x.2) (fun (x : Nat × Nat × Nat × Bool) => on - x.1) (0, 0, 0, false) (by kernel_rfl) hW ⟨Nat.zero_le _, rfl⟩ ?_
 intro x j W hx hW
 obtain ⟨hx, hst⟩ := hx
 have hle := stp_le o f x.1
 rw [hst] at hle
 refine c_seq (c_reg ?_)
 refine l_val (r_lssN rfl rfl rfl rfl) rfl rfl ?_
 refine l_split ?_ ?_
 ·intro hc1
  replace hc1 := of_decide_eq_true hc1
  obtain ⟨b0, o0, hao, hc⟩ := (hP W (hW.sub (List.sublist_append_right _ _))).ptr (by omega)
  simp only at hao
  subst hao
  refine l_end (n_then (c_seq ?_))
  refine c_true rfl ?_
  refine c_skip (n_then (c_seq (c_block (c_seq (c_reg ?_)))))
  refine aI ?_
  refine l_val (r_indexAddrSl2 (n := x.1) Tryz.underlying155 tyC4.size rfl rfl rfl (by omega)) rfl rfl ?_
  refine l_loadW tyC4 (v := .bool (o.getD x.1 false)) (hc x.1 (by omega)) rfl rfl rfl rfl ?_
  refine l_split ?_ ?_
  ·intro hc2
   refine bI ?_
   refine bB ?_
   refine l_end (n_then (c_block (c_seq (c_reg ?_))))
   refine aB ?_
   refine l_val (r_not rfl rfl) rfl rfl ?_
   refine bB ?_
   refine l_end (n_then ?_)
   refine c_false rfl ?_
   refine c_seq (c_reg ?_)
   refine aI ?_
   refine aI ?_
   refine l_val (r_lss rfl rfl rfl rfl) rfl rfl ?_
   refine l_split ?_ ?_
   ·intro hc3
    replace hc3 := of_decide_eq_true hc3
    refine bB ?_
    refine l_end (n_then ?_)
    refine c_true rfl ?_
    refine c_reg ?_
    refine l_val (r_fieldAddr 1 Tryz.underlying206 rfl tyC3.size rfl rfl rfl) rfl rfl ?_
    refine dC hW 0 tyC3 ?_
    refine l_val (r_addN (n := 1) rfl rfl rfl (by omega)) rfl rfl ?_
    refine l_val (r_fieldAddr 1 Tryz.underlying206 rfl tyC3.size rfl rfl rfl) rfl rfl ?_
    refine l_storeC hW 0 tyC3 (v := .int _ _) rfl rfl rfl rfl rfl rfl (by first | rfl | omega | (simp; done) | (simp; omega)) rfl ?_
    intro W hW
    refine l_end (n_block (n_block (n_then (c_reg ?_))))
    refine l_val (r_addN (n := 1) rfl rfl rfl (by omega)) rfl rfl ?_
    refine aI ?_
    refine l_end (n_then ?_)
    exact loop_next (x.1 + 1, x.2.1, x.2.2.1 + 1, x.2.2.2) (by kernel_rfl) hW ⟨by simp only; omega, by simp only [stp_wrong hc2 hc3, hst]⟩ (by simp only; omega)
   ·intro hc3
    replace hc3 := of_decide_eq_false hc3
    refine bB ?_
    refine l_end (n_then ?_)
    refine c_false rfl ?_
    refine c_seq (c_reg ?_)
    refine l_val (r_fieldAddr 2 Tryz.underlying206 rfl tyC4.size rfl rfl rfl) rfl rfl ?_
    refine dC hW 0 tyC4 ?_
    refine l_split ?_ ?_
    ·intro hc4
     refine aB ?_
     refine lN ?_
     refine lN ?_
     refine lN ?_
     refine lN ?_
     refine lN ?_
     refine lN ?_
     refine kB ?_
     refine l_val (r_fieldAddr 2 Tryz.underlying206 rfl tyC4.size rfl rfl rfl) rfl rfl ?_
     refine l_storeC hW 0 tyC4 (v := .bool _) rfl rfl rfl rfl rfl rfl (by first | rfl | omega | (simp; done) | (simp; omega)) rfl ?_
     intro W hW
     refine l_end (n_then (c_reg ?_))
     refine l_val (r_fieldAddr 0 Tryz.underlying206 rfl tyC3.size rfl rfl rfl) rfl rfl ?_
     refine dC hW 0 tyC3 ?_
     refine l_val (r_addN (n := 1) rfl rfl rfl (by omega)) rfl rfl ?_
     refine l_val (r_fieldAddr 0 Tryz.underlying206 rfl tyC3.size rfl rfl rfl) rfl rfl ?_
     refine l_storeC hW 0 tyC3 (v := .int _ _) rfl rfl rfl rfl rfl rfl (by first | rfl | omega | (simp; done) | (simp; omega)) rfl ?_
     intro W hW
     refine l_end (n_block (n_block (n_then (c_reg ?_))))
     refine l_val (r_addN (n := 1) rfl rfl rfl (by omega)) rfl rfl ?_
     refine aI ?_
     refine l_end (n_then ?_)
     exact loop_next (x.1 + 1, x.2.1 + 1, x.2.2.1, true) (by kernel_rfl) hW ⟨by simp only; omega, by simp only [stp_right hc2 hc3, hst]; exact congrArg (fun z => (x.2.1 + 1, x.2.2.1, z)) (by rw [hc4]; rfl)⟩ (by simp only; omega)
    ·intro hc4
     refine aB ?_
     refine l_valG (r_fieldAddr 1 Tryz.underlying206 rfl tyC3.size rfl rfl rfl) (by kernel_rfl) rfl ?_
     refine dG hW 0 tyC3 ?_
     refine l_valG (r_fieldAddr 0 Tryz.underlying206 rfl tyC3.size rfl rfl rfl) (by kernel_rfl) rfl ?_
     refine dG hW 0 tyC3 ?_
     refine l_valG (r_addN rfl rfl rfl (by omega)) (by kernel_rfl) rfl ?_
     refine l_valG (r_eqlN (n := 0) rfl rfl rfl rfl) (by kernel_rfl) rfl ?_
     refine l_split ?_ ?_
     ·intro hc5
      replace hc5 := of_decide_eq_true hc5
      refine kB ?_
      refine l_val (r_fieldAddr 2 Tryz.underlying206 rfl tyC4.size rfl rfl rfl) rfl rfl ?_
      refine l_storeC hW 0 tyC4 (v := .bool _) rfl rfl rfl rfl rfl rfl (by first | rfl | omega | (simp; done) | (simp; omega)) rfl ?_
      intro W hW
      refine l_end (n_then (c_reg ?_))
      refine l_val (r_fieldAddr 0 Tryz.underlying206 rfl tyC3.size rfl rfl rfl) rfl rfl ?_
      refine dC hW 0 tyC3 ?_
      refine l_val (r_addN (n := 1) rfl rfl rfl (by omega)) rfl rfl ?_
      refine l_val (r_fieldAddr 0 Tryz.underlying206 rfl tyC3.size rfl rfl rfl) rfl rfl ?_
      refine l_storeC hW 0 tyC3 (v := .int _ _) rfl rfl rfl rfl rfl rfl (by first | rfl | omega | (simp; done) | (simp; omega)) rfl ?_
      intro W hW
      refine l_end (n_block (n_block (n_then (c_reg ?_))))
      refine l_val (r_addN (n := 1) rfl rfl rfl (by omega)) rfl rfl ?_
      refine aI ?_
      refine l_end (n_then ?_)
      exact loop_next (x.1 + 1, x.2.1 + 1, x.2.2.1, true) (by kernel_rfl) hW ⟨by simp only; omega, by simp only [stp_right hc2 hc3, hst]; exact congrArg (fun z => (x.2.1 + 1, x.2.2.1, z)) (by rw [hc4, decide_eq_true (by omega)]; rfl)⟩ (by simp only; omega)
     ·intro hc5
      replace hc5 := of_decide_eq_false hc5
      refine kB ?_
      refine l_val (r_fieldAddr 2 Tryz.underlying206 rfl tyC4.size rfl rfl rfl) rfl rfl ?_
      refine l_storeC hW 0 tyC4 (v := .bool _) rfl rfl rfl rfl rfl rfl (by first | rfl | omega | (simp; done) | (simp; omega)) rfl ?_
      intro W hW
      refine l_end (n_then (c_reg ?_))
      refine l_val (r_fieldAddr 0 Tryz.underlying206 rfl tyC3.size rfl rfl rfl) rfl rfl ?_
      refine dC hW 0 tyC3 ?_
      refine l_val (r_addN (n := 1) rfl rfl rfl (by omega)) rfl rfl ?_
      refine l_val (r_fieldAddr 0 Tryz.underlying206 rfl tyC3.size rfl rfl rfl) rfl rfl ?_
      refine l_storeC hW 0 tyC3 (v := .int _ _) rfl rfl rfl rfl rfl rfl (by first | rfl | omega | (simp; done) | (simp; omega)) rfl ?_
      intro W hW
      refine l_end (n_block (n_block (n_then (c_reg ?_))))
      refine l_val (r_addN (n := 1) rfl rfl rfl (by omega)) rfl rfl ?_
      refine aI ?_
      refine l_end (n_then ?_)
      exact loop_next (x.1 + 1, x.2.1 + 1, x.2.2.1, false) (by kernel_rfl) hW ⟨by simp only; omega, by simp only [stp_right hc2 hc3, hst]; exact congrArg (fun z => (x.2.1 + 1, x.2.2.1, z)) (by rw [hc4, decide_eq_false (by omega)]; rfl)⟩ (by simp only; omega)
  ·intro hc2
   refine bI ?_
   refine bB ?_
   refine l_end (n_then (c_block (c_seq (c_reg ?_))))
   refine aB ?_
   refine l_val (r_not rfl rfl) rfl rfl ?_
   refine bB ?_
   refine l_end (n_then ?_)
   refine c_true rfl ?_
   refine c_skip (n_block (n_block (n_then (c_reg ?_))))
   refine l_val (r_addN (n := 1) rfl rfl rfl (by omega)) rfl rfl ?_
   refine aI ?_
   refine l_end (n_then ?_)
   exact loop_next (x.1 + 1, x.2) (by kernel_rfl) hW ⟨by simp only; omega, (stp_no hc2).trans hst⟩ (by simp only; omega)
 ·intro hc1
  replace hc1 := of_decide_eq_false hc1
  refine l_end (n_then (c_seq ?_))
  refine c_false rfl ?_
  refine c_exit (x_then (x_then ?_))
  refine x_hit ?_
  refine n_then (c_seq ?_)
  refine c_regY hW [] [.q, .q, .q, .q, .q, .q, .q, .q, .q, .q, .q] [0, 1, 3, 7, 0, 16, 48, 112, 240, 15, 1023] (by kernel_rfl) (by kernel_rfl) ?_
  refine y_val (r_move (v := .pointer _) rfl rfl) rfl rfl ?_
  refine y_val (r_nilCheck rfl rfl) rfl rfl ?_
  refine y_val (r_fieldAddr 26 Tryz.underlying31 rfl tyC3.size rfl rfl rfl) rfl rfl ?_
  refine y_loadC 1 tyC3 rfl rfl rfl rfl rfl rfl (by decide) ?_
  refine y_val (r_move (v := .pointer _) rfl rfl) rfl rfl ?_
  refine y_val (r_nilCheck rfl rfl) rfl rfl ?_
  refine y_val (r_fieldAddr 8 Tryz.underlying31 rfl tyC3.size rfl rfl rfl) rfl rfl ?_
  refine y_loadC 1 tyC3 rfl rfl rfl rfl rfl rfl (by decide) ?_
  refine y_val (r_addZ rfl rfl rfl (by omega)) rfl rfl ?_
  refine y_val (r_assign (v := .int _ _) rfl rfl) rfl rfl ?_
  refine y_val (r_assign (v := .int _ _) rfl rfl) rfl rfl ?_
  refine y_end ?_
  intro W hW
  refine n_then (c_seq (c_reg ?_))
  refine aP ?_
  refine l_val (r_nilCheck rfl rfl) rfl rfl ?_
  refine l_val (r_fieldAddr 26 Tryz.underlying31 rfl tyC3.size rfl rfl rfl) rfl rfl ?_
  refine dC hW 1 tyC3 ?_
  refine l_val (r_addZ rfl rfl rfl (by omega)) rfl rfl ?_
  refine l_val (r_nilCheck rfl rfl) rfl rfl ?_
  refine l_val (r_fieldAddr 26 Tryz.underlying31 rfl tyC3.size rfl rfl rfl) rfl rfl ?_
  refine l_storeC hW 1 tyC3 (v := .int .i64 (q.a + 1)) rfl rfl rfl rfl rfl rfl (by rw [List.length_append, boC_len]; omega) rfl ?_
  intro W hW
  replace hW := (show Cl _ ([_, ⟨_, (boC q t ++ R).set 26 (.int .i64 (q.a + 1)), _⟩] ++ L) _ from hW)
  rw [boC_setAR] at hW
  refine l_end (n_then (c_seq (c_seq (c_reg ?_))))
  refine l_val (r_fieldAddr 0 Tryz.underlying206 rfl tyC3.size rfl rfl rfl) rfl rfl ?_
  refine dC hW 0 tyC3 ?_
  refine l_val (r_gtrN (n := 0) rfl rfl rfl rfl) rfl rfl ?_
  refine l_split ?_ ?_
  ·intro hc6
   replace hc6 := of_decide_eq_true hc6
   refine aB ?_
   refine l_valG (r_fieldAddr 1 Tryz.underlying206 rfl tyC3.size rfl rfl rfl) (by kernel_rfl) rfl ?_
   refine dG hW 0 tyC3 ?_
   refine l_valG (r_gtrN (n := 0) rfl rfl rfl rfl) (by kernel_rfl) rfl ?_
   refine l_split ?_ ?_
   ·intro hc7
    replace hc7 := of_decide_eq_true hc7
    refine kB ?_
    refine l_end (n_then ?_)
    refine c_true rfl ?_
    refine c_reg ?_
    refine aP ?_
    refine l_val (r_nilCheck rfl rfl) rfl rfl ?_
    refine l_val (r_fieldAddr 27 Tryz.underlying31 rfl tyC3.size rfl rfl rfl) rfl rfl ?_
    refine l_loadC hW 1 tyC3 (v := .int .i64 q.x) rfl rfl rfl rfl rfl rfl ?_
    refine l_val (r_addZ rfl rfl rfl (by omega)) rfl rfl ?_
    refine l_val (r_nilCheck rfl rfl) rfl rfl ?_
    refine l_val (r_fieldAddr 27 Tryz.underlying31 rfl tyC3.size rfl rfl rfl) rfl rfl ?_
    refine l_storeC hW 1 tyC3 (v := .int .i64 (q.x + 1)) rfl rfl rfl rfl rfl rfl (by rw [List.length_append, boC_len]; omega) rfl ?_
    intro W hW
    replace hW := (show Cl _ ([_, ⟨_, (boC { q with a := q.a + 1 } t ++ R).set 27 (.int .i64 (q.x + 1)), _⟩] ++ L) _ from hW)
    rw [boC_setXR] at hW
    refine l_end ?_
    have hax := after_p (b := q) (r := x.2.1) (w := x.2.2.1) ⟨by omega, by omega⟩
    obtain ⟨b1, hb1⟩ : ∃ b1, b1 = after q x.2.1 x.2.2.1 := ⟨_, rfl⟩
    have es : b1 = { q with a := q.a + 1, x := q.x + 1 } := hb1.trans hax
    have ev : b1.v = q.v := by rw [es]
    have en : b1.n = q.n := by rw [es]
    have em : b1.m = q.m := by rw [es]
    have ek : b1.k = q.k := by rw [es]
    have ex : b1.x = q.x + 1 := by rw [es]
    rw [← es] at hW
    refine n_then (c_seq ?_)
    refine c_regY hW [] [.q, .q, .q, .q, .q, .q, .q, .q, .q, .q, .q, .q, .q, .q, .q, .q, .q] [0, 1, 3, 7, 15, 31, 63, 127, 255, 511, 63, 1087, 3135, 7231, 16383, 32767, 65535] (by kernel_rfl) (by kernel_rfl) ?_
    refine y_val (r_move (v := .pointer _) rfl rfl) rfl rfl ?_
    refine y_val (r_nilCheck rfl rfl) rfl rfl ?_
    refine y_val (r_fieldAddr 9 Tryz.underlying31 rfl tyC3.size rfl rfl rfl) rfl rfl ?_
    refine y_loadC 1 tyC3 rfl rfl rfl rfl rfl rfl (by decide) ?_
    refine y_val (r_gtr rfl rfl rfl rfl) rfl rfl ?_
    refine y_split ?_ ?_
    ·intro hc8
     replace hc8 := of_decide_eq_true hc8
     refine yB ?_
     refine y_val (r_move (v := .pointer _) rfl rfl) (by kernel_rfl) rfl ?_
     refine y_val (r_nilCheck rfl rfl) (by kernel_rfl) rfl ?_
     refine y_val (r_fieldAddr 27 Tryz.underlying31 rfl tyC3.size rfl rfl rfl) (by kernel_rfl) rfl ?_
     refine y_loadC 1 tyC3 (by kernel_rfl) rfl rfl rfl rfl rfl (by decide) ?_
     refine y_val (r_move (v := .pointer _) rfl rfl) (by kernel_rfl) rfl ?_
     refine y_val (r_nilCheck rfl rfl) (by kernel_rfl) rfl ?_
     refine y_val (r_fieldAddr 9 Tryz.underlying31 rfl tyC3.size rfl rfl rfl) (by kernel_rfl) rfl ?_
     refine y_loadC 1 tyC3 (by kernel_rfl) rfl rfl rfl rfl rfl (by decide) ?_
     refine y_val (r_gtr rfl rfl rfl rfl) (by kernel_rfl) rfl ?_
     refine y_split ?_ ?_
     ·intro hc9
      replace hc9 := of_decide_eq_true hc9
      refine yK ?_
      refine y_val (r_assign (v := .bool _) rfl rfl) rfl rfl ?_
      refine y_end ?_
      intro W hW
      refine n_then (c_seq ?_)
      refine c_regY hW [] [.q, .q, .q, .q, .q, .q, .q, .q, .q, .q, .q, .q, .q, .q, .q, .q, .q] [0, 1, 3, 7, 0, 0, 48, 112, 0, 256, 1023, 0, 0, 6144, 14336, 32767, 65535] (by kernel_rfl) (by kernel_rfl) ?_
      refine y_val (r_move (v := .pointer _) rfl rfl) rfl rfl ?_
      refine y_val (r_nilCheck rfl rfl) rfl rfl ?_
      refine y_val (r_fieldAddr 10 Tryz.underlying31 rfl tyA29.size rfl rfl rfl) rfl rfl ?_
      refine y_loadP 1 tyA29 (by kernel_rfl) rfl rfl rfl rfl (by rw [List.length_append, boC_len]; omega) (boC_keyR _ _ _) (by decide) ?_
      refine yI ?_
      refine yI ?_
      refine y_val (r_quoN (m := q.a.toNat) (n := q.n.toNat + 1) rfl (congrArg (Value.int .i64) ha) (congrArg (Value.int .i64) hb) (by omega) (by omega)) rfl rfl ?_
      refine y_val (r_conv_i64_u64 Tryz.underlying3 Tryz.underlying22 rfl rfl) rfl rfl ?_
      refine yI ?_
      refine y_val (r_conv_i64_u64 (n := q.n.toNat + 1) Tryz.underlying3 Tryz.underlying22 rfl (congrArg (Value.int .i64) hb)) rfl rfl ?_
      refine y_call (g_Number _ _ _) en129 rfl rfl rfl rfl ?_
      refine yI ?_
      refine yI ?_
      refine y_val (r_remN (m := q.a.toNat) (n := q.n.toNat + 1) rfl (congrArg (Value.int .i64) ha) (congrArg (Value.int .i64) hb) (by omega)) rfl rfl ?_
      refine y_val (r_conv_i64_u64 Tryz.underlying3 Tryz.underlying22 rfl rfl) rfl rfl ?_
      refine y_val (r_neqN rfl rfl rfl rfl) rfl rfl ?_
      refine y_split ?_ ?_
      ·intro hc10
       replace hc10 := of_decide_eq_true hc10
       refine y_val (r_assign (v := .bool _) rfl rfl) rfl rfl ?_
       refine y_end ?_
       intro W hW
       refine n_then (c_seq (c_seq (c_reg ?_)))
       refine l_val (r_fieldAddr 0 Tryz.underlying206 rfl tyC3.size rfl rfl rfl) rfl rfl ?_
       refine dC hW 0 tyC3 ?_
       refine l_val (r_eqlN (n := 0) rfl rfl rfl rfl) rfl rfl ?_
       refine l_split ?_ ?_
       ·intro hc11
        replace hc11 := of_decide_eq_true hc11
        refine aB ?_
        refine lN ?_
        refine kB ?_
        refine aB ?_
        refine lN ?_
        refine kB ?_
        refine l_end (n_then ?_)
        refine c_true rfl ?_
        refine c_seq (c_reg ?_)
        refine bB ?_
        refine l_end (n_then (c_ret (r_then ?_)))
        refine ret_tmp (v := .bool _) rfl rfl ?_
        have e1 : stp o f o.length = x.2 := by rw [show o.length = x.1 by omega]; exact hst
        have hv : askW q x.2.1 x.2.2.1 x.2.2.2 = _ := ask_no (by rw [← hb1]; omega)
        exact ⟨_, [_], rfl, ⟨by rw [plays, e1]; exact congrArg Value.bool hv.symm, by rw [askd, e1, ← hb1]⟩, hW.drop 1⟩
       ·intro hc11
        replace hc11 := of_decide_eq_false hc11
        refine aB ?_
        refine l_valG (r_move (v := .bool _) rfl rfl) (by kernel_rfl) rfl ?_
        refine kB ?_
        refine aB ?_
        refine lN ?_
        refine kB ?_
        refine l_end (n_then ?_)
        refine c_true rfl ?_
        refine c_seq (c_reg ?_)
        refine bB ?_
        refine l_end (n_then (c_ret (r_then ?_)))
        refine ret_tmp (v := .bool _) rfl rfl ?_
        have e1 : stp o f o.length = x.2 := by rw [show o.length = x.1 by omega]; exact hst
        have hv : askW q x.2.1 x.2.2.1 x.2.2.2 = _ := ask_no (by rw [← hb1]; omega)
        exact ⟨_, [_], rfl, ⟨by rw [plays, e1]; exact congrArg Value.bool hv.symm, by rw [askd, e1, ← hb1]⟩, hW.drop 1⟩
      ·intro hc10
       replace hc10 := of_decide_eq_false hc10
       refine y_val (r_assign (v := .bool _) rfl rfl) rfl rfl ?_
       refine y_end ?_
       intro W hW
       refine n_then (c_seq (c_seq (c_reg ?_)))
       refine l_val (r_fieldAddr 0 Tryz.underlying206 rfl tyC3.size rfl rfl rfl) rfl rfl ?_
       refine dC hW 0 tyC3 ?_
       refine l_val (r_eqlN (n := 0) rfl rfl rfl rfl) rfl rfl ?_
       refine l_split ?_ ?_
       ·intro hc12
        replace hc12 := of_decide_eq_true hc12
        refine aB ?_
        refine lN ?_
        refine kB ?_
        refine aB ?_
        refine lN ?_
        refine kB ?_
        refine l_end (n_then ?_)
        refine c_true rfl ?_
        refine c_seq (c_reg ?_)
        refine bB ?_
        refine l_end (n_then (c_ret (r_then ?_)))
        refine ret_tmp (v := .bool _) rfl rfl ?_
        have e1 : stp o f o.length = x.2 := by rw [show o.length = x.1 by omega]; exact hst
        have hv : askW q x.2.1 x.2.2.1 x.2.2.2 = _ := ask_no (by rw [← hb1]; omega)
        exact ⟨_, [_], rfl, ⟨by rw [plays, e1]; exact congrArg Value.bool hv.symm, by rw [askd, e1, ← hb1]⟩, hW.drop 1⟩
       ·intro hc12
        replace hc12 := of_decide_eq_false hc12
        refine aB ?_
        refine l_valG (r_move (v := .bool _) rfl rfl) (by kernel_rfl) rfl ?_
        refine kB ?_
        refine aB ?_
        refine lN ?_
        refine kB ?_
        refine l_end (n_then ?_)
        refine c_true rfl ?_
        refine c_seq (c_reg ?_)
        refine bB ?_
        refine l_end (n_then (c_ret (r_then ?_)))
        refine ret_tmp (v := .bool _) rfl rfl ?_
        have e1 : stp o f o.length = x.2 := by rw [show o.length = x.1 by omega]; exact hst
        have hv : askW q x.2.1 x.2.2.1 x.2.2.2 = _ := ask_no (by rw [← hb1]; omega)
        exact ⟨_, [_], rfl, ⟨by rw [plays, e1]; exact congrArg Value.bool hv.symm, by rw [askd, e1, ← hb1]⟩, hW.drop 1⟩
     ·intro hc9
      replace hc9 := of_decide_eq_false hc9
      refine yK ?_
      refine y_val (r_assign (v := .bool _) rfl rfl) rfl rfl ?_
      refine y_end ?_
      intro W hW
      refine n_then (c_seq ?_)
      refine c_regY hW [] [.q, .q, .q, .q, .q, .q, .q, .q, .q, .q, .q, .q, .q, .q, .q, .q, .q] [0, 1, 3, 7, 0, 0, 48, 112, 0, 256, 1023, 0, 0, 6144, 14336, 32767, 65535] (by kernel_rfl) (by kernel_rfl) ?_
      refine y_val (r_move (v := .pointer _) rfl rfl) rfl rfl ?_
      refine y_val (r_nilCheck rfl rfl) rfl rfl ?_
      refine y_val (r_fieldAddr 10 Tryz.underlying31 rfl tyA29.size rfl rfl rfl) rfl rfl ?_
      refine y_loadP 1 tyA29 (by kernel_rfl) rfl rfl rfl rfl (by rw [List.length_append, boC_len]; omega) (boC_keyR _ _ _) (by decide) ?_
      refine yI ?_
      refine yI ?_
      refine y_val (r_quoN (m := q.a.toNat) (n := q.n.toNat + 1) rfl (congrArg (Value.int .i64) ha) (congrArg (Value.int .i64) hb) (by omega) (by omega)) rfl rfl ?_
      refine y_val (r_conv_i64_u64 Tryz.underlying3 Tryz.underlying22 rfl rfl) rfl rfl ?_
      refine yI ?_
      refine y_val (r_conv_i64_u64 (n := q.n.toNat + 1) Tryz.underlying3 Tryz.underlying22 rfl (congrArg (Value.int .i64) hb)) rfl rfl ?_
      refine y_call (g_Number _ _ _) en129 rfl rfl rfl rfl ?_
      refine yI ?_
      refine yI ?_
      refine y_val (r_remN (m := q.a.toNat) (n := q.n.toNat + 1) rfl (congrArg (Value.int .i64) ha) (congrArg (Value.int .i64) hb) (by omega)) rfl rfl ?_
      refine y_val (r_conv_i64_u64 Tryz.underlying3 Tryz.underlying22 rfl rfl) rfl rfl ?_
      refine y_val (r_neqN rfl rfl rfl rfl) rfl rfl ?_
      refine y_split ?_ ?_
      ·intro hc13
       replace hc13 := of_decide_eq_true hc13
       refine y_val (r_assign (v := .bool _) rfl rfl) rfl rfl ?_
       refine y_end ?_
       intro W hW
       refine n_then (c_seq (c_seq (c_reg ?_)))
       refine l_val (r_fieldAddr 0 Tryz.underlying206 rfl tyC3.size rfl rfl rfl) rfl rfl ?_
       refine dC hW 0 tyC3 ?_
       refine l_val (r_eqlN (n := 0) rfl rfl rfl rfl) rfl rfl ?_
       refine l_split ?_ ?_
       ·intro hc14
        replace hc14 := of_decide_eq_true hc14
        refine aB ?_
        refine lN ?_
        refine kB ?_
        refine aB ?_
        refine lN ?_
        refine kB ?_
        refine l_end (n_then ?_)
        refine c_true rfl ?_
        refine c_seq (c_reg ?_)
        refine bB ?_
        refine l_end (n_then (c_ret (r_then ?_)))
        refine ret_tmp (v := .bool _) rfl rfl ?_
        have e1 : stp o f o.length = x.2 := by rw [show o.length = x.1 by omega]; exact hst
        have hv : askW q x.2.1 x.2.2.1 x.2.2.2 = _ := ask_no (by rw [← hb1]; omega)
        exact ⟨_, [_], rfl, ⟨by rw [plays, e1]; exact congrArg Value.bool hv.symm, by rw [askd, e1, ← hb1]⟩, hW.drop 1⟩
       ·intro hc14
        replace hc14 := of_decide_eq_false hc14
        refine aB ?_
        refine l_valG (r_move (v := .bool _) rfl rfl) (by kernel_rfl) rfl ?_
        refine kB ?_
        refine aB ?_
        refine l_valG (r_move (v := .bool _) rfl rfl) (by kernel_rfl) rfl ?_
        refine kB ?_
        refine l_end (n_then ?_)
        refine c_true rfl ?_
        refine c_seq (c_reg ?_)
        refine bB ?_
        refine l_end (n_then (c_ret (r_then ?_)))
        refine ret_tmp (v := .bool _) rfl rfl ?_
        have e1 : stp o f o.length = x.2 := by rw [show o.length = x.1 by omega]; exact hst
        have hv : askW q x.2.1 x.2.2.1 x.2.2.2 = _ := ask_no (.inr (.inr (decide_eq_true (by rw [← ek]; exact hc13))))
        exact ⟨_, [_], rfl, ⟨by rw [plays, e1]; exact congrArg Value.bool hv.symm, by rw [askd, e1, ← hb1]⟩, hW.drop 1⟩
      ·intro hc13
       replace hc13 := of_decide_eq_false hc13
       refine y_val (r_assign (v := .bool _) rfl rfl) rfl rfl ?_
       refine y_end ?_
       intro W hW
       refine n_then (c_seq (c_seq (c_reg ?_)))
       refine l_val (r_fieldAddr 0 Tryz.underlying206 rfl tyC3.size rfl rfl rfl) rfl rfl ?_
       refine dC hW 0 tyC3 ?_
       refine l_val (r_eqlN (n := 0) rfl rfl rfl rfl) rfl rfl ?_
       refine l_split ?_ ?_
       ·intro hc15
        replace hc15 := of_decide_eq_true hc15
        refine aB ?_
        refine lN ?_
        refine kB ?_
        refine aB ?_
        refine lN ?_
        refine kB ?_
        refine l_end (n_then ?_)
        refine c_true rfl ?_
        refine c_seq (c_reg ?_)
        refine bB ?_
        refine l_end (n_then (c_ret (r_then ?_)))
        refine ret_tmp (v := .bool _) rfl rfl ?_
        have e1 : stp o f o.length = x.2 := by rw [show o.length = x.1 by omega]; exact hst
        have hv : askW q x.2.1 x.2.2.1 x.2.2.2 = _ := ask_no (by rw [← hb1]; omega)
        exact ⟨_, [_], rfl, ⟨by rw [plays, e1]; exact congrArg Value.bool hv.symm, by rw [askd, e1, ← hb1]⟩, hW.drop 1⟩
       ·intro hc15
        replace hc15 := of_decide_eq_false hc15
        refine aB ?_
        refine l_valG (r_move (v := .bool _) rfl rfl) (by kernel_rfl) rfl ?_
        refine kB ?_
        refine aB ?_
        refine l_valG (r_move (v := .bool _) rfl rfl) (by kernel_rfl) rfl ?_
        refine kB ?_
        refine l_end (n_then ?_)
        refine c_false rfl ?_
        refine c_skip (n_then (c_seq ?_))
        refine c_regY hW [] [.q, .q, .q, .q, .q, .q, .q, .q, .q, .q, .q] [0, 1, 3, 7, 15, 31, 63, 15, 255, 511, 1023] (by kernel_rfl) (by kernel_rfl) ?_
        refine y_val (r_fieldAddr 1 Tryz.underlying206 rfl tyC3.size rfl rfl rfl) rfl rfl ?_
        refine y_loadC 0 tyC3 rfl rfl rfl rfl rfl rfl (by decide) ?_
        refine y_val (r_eqlN (n := 0) rfl rfl rfl rfl) rfl rfl ?_
        refine y_split ?_ ?_
        ·intro hc16
         replace hc16 := of_decide_eq_true hc16
         refine yB ?_
         refine yN ?_
         refine yN ?_
         refine yN ?_
         refine yN ?_
         refine yN ?_
         refine yK ?_
         refine y_val (r_assign (v := .bool _) rfl rfl) rfl rfl ?_
         refine y_end ?_
         intro W hW
         refine n_then (c_ret ?_)
         refine ret_tmp (v := .bool _) rfl rfl ?_
         have e1 : stp o f o.length = x.2 := by rw [show o.length = x.1 by omega]; exact hst
         have hneg : ¬ (x.2.1 = 0 ∨ (0 < q.v ∧ q.v < (after q x.2.1 x.2.2.1).x) ∨ noiseB q = true) := by
          rw [← hb1, show noiseB q = false from decide_eq_false (by rw [← ek]; exact hc13)]
          rintro (h | ⟨h1, h2⟩ | h)
          ·omega
          ·omega
          ·cases h
         have hv : askW q x.2.1 x.2.2.1 x.2.2.2 = _ := ask_y0 hneg (by omega)
         exact ⟨_, [_], rfl, ⟨by rw [plays, e1]; exact congrArg Value.bool hv.symm, by rw [askd, e1, ← hb1]⟩, hW.drop 1⟩
        ·intro hc16
         replace hc16 := of_decide_eq_false hc16
         refine yB ?_
         refine y_val (r_move (v := .pointer _) rfl rfl) (by kernel_rfl) rfl ?_
         refine y_val (r_nilCheck rfl rfl) (by kernel_rfl) rfl ?_
         refine y_loadP 1 tyA31 (by kernel_rfl) rfl rfl rfl rfl (by rw [List.length_append, boC_len]; omega) (boC_boxR _ _ _) (by decide) ?_
         refine y_loadA 0 tyA206 (by kernel_rfl) rfl rfl rfl rfl (by first | rfl | exact kc_len _ | exact kcf_len _ | exact boC_len _ _ | (simp; done)) (by decide) ?_
         refine y_call (g_plays b1 t x.2.1 x.2.2.1 x.2.2.2 (by omega) (by omega) (by omega) (by omega)) en130 (by kernel_rfl) rfl rfl rfl ?_
         refine yK ?_
         refine y_val (r_assign (v := .bool _) rfl rfl) rfl rfl ?_
         refine y_end ?_
         intro W hW
         refine n_then (c_ret ?_)
         refine ret_tmp (v := .bool _) rfl rfl ?_
         have e1 : stp o f o.length = x.2 := by rw [show o.length = x.1 by omega]; exact hst
         have hneg : ¬ (x.2.1 = 0 ∨ (0 < q.v ∧ q.v < (after q x.2.1 x.2.2.1).x) ∨ noiseB q = true) := by
          rw [← hb1, show noiseB q = false from decide_eq_false (by rw [← ek]; exact hc13)]
          rintro (h | ⟨h1, h2⟩ | h)
          ·omega
          ·omega
          ·cases h
         have hv : askW q x.2.1 x.2.2.1 x.2.2.2 = _ := (ask_w hneg (by omega)).trans (play_congr em ek).symm
         exact ⟨_, [_], rfl, ⟨by rw [plays, e1]; exact congrArg Value.bool hv.symm, by rw [askd, e1, ← hb1]⟩, hW.drop 1⟩
    ·intro hc8
     replace hc8 := of_decide_eq_false hc8
     refine yB ?_
     refine yN ?_
     refine yN ?_
     refine yN ?_
     refine yN ?_
     refine yN ?_
     refine yN ?_
     refine yN ?_
     refine yN ?_
     refine yN ?_
     refine yK ?_
     refine y_val (r_assign (v := .bool _) rfl rfl) rfl rfl ?_
     refine y_end ?_
     intro W hW
     refine n_then (c_seq ?_)
     refine c_regY hW [] [.q, .q, .q, .q, .q, .q, .q, .q, .q, .q, .q, .q, .q, .q, .q, .q, .q] [0, 1, 3, 7, 0, 0, 48, 112, 0, 256, 1023, 0, 0, 6144, 14336, 32767, 65535] (by kernel_rfl) (by kernel_rfl) ?_
     refine y_val (r_move (v := .pointer _) rfl rfl) rfl rfl ?_
     refine y_val (r_nilCheck rfl rfl) rfl rfl ?_
     refine y_val (r_fieldAddr 10 Tryz.underlying31 rfl tyA29.size rfl rfl rfl) rfl rfl ?_
     refine y_loadP 1 tyA29 (by kernel_rfl) rfl rfl rfl rfl (by rw [List.length_append, boC_len]; omega) (boC_keyR _ _ _) (by decide) ?_
     refine yI ?_
     refine yI ?_
     refine y_val (r_quoN (m := q.a.toNat) (n := q.n.toNat + 1) rfl (congrArg (Value.int .i64) ha) (congrArg (Value.int .i64) hb) (by omega) (by omega)) rfl rfl ?_
     refine y_val (r_conv_i64_u64 Tryz.underlying3 Tryz.underlying22 rfl rfl) rfl rfl ?_
     refine yI ?_
     refine y_val (r_conv_i64_u64 (n := q.n.toNat + 1) Tryz.underlying3 Tryz.underlying22 rfl (congrArg (Value.int .i64) hb)) rfl rfl ?_
     refine y_call (g_Number _ _ _) en129 rfl rfl rfl rfl ?_
     refine yI ?_
     refine yI ?_
     refine y_val (r_remN (m := q.a.toNat) (n := q.n.toNat + 1) rfl (congrArg (Value.int .i64) ha) (congrArg (Value.int .i64) hb) (by omega)) rfl rfl ?_
     refine y_val (r_conv_i64_u64 Tryz.underlying3 Tryz.underlying22 rfl rfl) rfl rfl ?_
     refine y_val (r_neqN rfl rfl rfl rfl) rfl rfl ?_
     refine y_split ?_ ?_
     ·intro hc17
      replace hc17 := of_decide_eq_true hc17
      refine y_val (r_assign (v := .bool _) rfl rfl) rfl rfl ?_
      refine y_end ?_
      intro W hW
      refine n_then (c_seq (c_seq (c_reg ?_)))
      refine l_val (r_fieldAddr 0 Tryz.underlying206 rfl tyC3.size rfl rfl rfl) rfl rfl ?_
      refine dC hW 0 tyC3 ?_
      refine l_val (r_eqlN (n := 0) rfl rfl rfl rfl) rfl rfl ?_
      refine l_split ?_ ?_
      ·intro hc18
       replace hc18 := of_decide_eq_true hc18
       refine aB ?_
       refine lN ?_
       refine kB ?_
       refine aB ?_
       refine lN ?_
       refine kB ?_
       refine l_end (n_then ?_)
       refine c_true rfl ?_
       refine c_seq (c_reg ?_)
       refine bB ?_
       refine l_end (n_then (c_ret (r_then ?_)))
       refine ret_tmp (v := .bool _) rfl rfl ?_
       have e1 : stp o f o.length = x.2 := by rw [show o.length = x.1 by omega]; exact hst
       have hv : askW q x.2.1 x.2.2.1 x.2.2.2 = _ := ask_no (by rw [← hb1]; omega)
       exact ⟨_, [_], rfl, ⟨by rw [plays, e1]; exact congrArg Value.bool hv.symm, by rw [askd, e1, ← hb1]⟩, hW.drop 1⟩
      ·intro hc18
       replace hc18 := of_decide_eq_false hc18
       refine aB ?_
       refine l_valG (r_move (v := .bool _) rfl rfl) (by kernel_rfl) rfl ?_
       refine kB ?_
       refine aB ?_
       refine l_valG (r_move (v := .bool _) rfl rfl) (by kernel_rfl) rfl ?_
       refine kB ?_
       refine l_end (n_then ?_)
       refine c_true rfl ?_
       refine c_seq (c_reg ?_)
       refine bB ?_
       refine l_end (n_then (c_ret (r_then ?_)))
       refine ret_tmp (v := .bool _) rfl rfl ?_
       have e1 : stp o f o.length = x.2 := by rw [show o.length = x.1 by omega]; exact hst
       have hv : askW q x.2.1 x.2.2.1 x.2.2.2 = _ := ask_no (.inr (.inr (decide_eq_true (by rw [← ek]; exact hc17))))
       exact ⟨_, [_], rfl, ⟨by rw [plays, e1]; exact congrArg Value.bool hv.symm, by rw [askd, e1, ← hb1]⟩, hW.drop 1⟩
     ·intro hc17
      replace hc17 := of_decide_eq_false hc17
      refine y_val (r_assign (v := .bool _) rfl rfl) rfl rfl ?_
      refine y_end ?_
      intro W hW
      refine n_then (c_seq (c_seq (c_reg ?_)))
      refine l_val (r_fieldAddr 0 Tryz.underlying206 rfl tyC3.size rfl rfl rfl) rfl rfl ?_
      refine dC hW 0 tyC3 ?_
      refine l_val (r_eqlN (n := 0) rfl rfl rfl rfl) rfl rfl ?_
      refine l_split ?_ ?_
      ·intro hc19
       replace hc19 := of_decide_eq_true hc19
       refine aB ?_
       refine lN ?_
       refine kB ?_
       refine aB ?_
       refine lN ?_
       refine kB ?_
       refine l_end (n_then ?_)
       refine c_true rfl ?_
       refine c_seq (c_reg ?_)
       refine bB ?_
       refine l_end (n_then (c_ret (r_then ?_)))
       refine ret_tmp (v := .bool _) rfl rfl ?_
       have e1 : stp o f o.length = x.2 := by rw [show o.length = x.1 by omega]; exact hst
       have hv : askW q x.2.1 x.2.2.1 x.2.2.2 = _ := ask_no (by rw [← hb1]; omega)
       exact ⟨_, [_], rfl, ⟨by rw [plays, e1]; exact congrArg Value.bool hv.symm, by rw [askd, e1, ← hb1]⟩, hW.drop 1⟩
      ·intro hc19
       replace hc19 := of_decide_eq_false hc19
       refine aB ?_
       refine l_valG (r_move (v := .bool _) rfl rfl) (by kernel_rfl) rfl ?_
       refine kB ?_
       refine aB ?_
       refine l_valG (r_move (v := .bool _) rfl rfl) (by kernel_rfl) rfl ?_
       refine kB ?_
       refine l_end (n_then ?_)
       refine c_false rfl ?_
       refine c_skip (n_then (c_seq ?_))
       refine c_regY hW [] [.q, .q, .q, .q, .q, .q, .q, .q, .q, .q, .q] [0, 1, 3, 7, 15, 31, 63, 15, 255, 511, 1023] (by kernel_rfl) (by kernel_rfl) ?_
       refine y_val (r_fieldAddr 1 Tryz.underlying206 rfl tyC3.size rfl rfl rfl) rfl rfl ?_
       refine y_loadC 0 tyC3 rfl rfl rfl rfl rfl rfl (by decide) ?_
       refine y_val (r_eqlN (n := 0) rfl rfl rfl rfl) rfl rfl ?_
       refine y_split ?_ ?_
       ·intro hc20
        replace hc20 := of_decide_eq_true hc20
        refine yB ?_
        refine yN ?_
        refine yN ?_
        refine yN ?_
        refine yN ?_
        refine yN ?_
        refine yK ?_
        refine y_val (r_assign (v := .bool _) rfl rfl) rfl rfl ?_
        refine y_end ?_
        intro W hW
        refine n_then (c_ret ?_)
        refine ret_tmp (v := .bool _) rfl rfl ?_
        have e1 : stp o f o.length = x.2 := by rw [show o.length = x.1 by omega]; exact hst
        have hneg : ¬ (x.2.1 = 0 ∨ (0 < q.v ∧ q.v < (after q x.2.1 x.2.2.1).x) ∨ noiseB q = true) := by
         rw [← hb1, show noiseB q = false from decide_eq_false (by rw [← ek]; exact hc17)]
         rintro (h | ⟨h1, h2⟩ | h)
         ·omega
         ·omega
         ·cases h
        have hv : askW q x.2.1 x.2.2.1 x.2.2.2 = _ := ask_y0 hneg (by omega)
        exact ⟨_, [_], rfl, ⟨by rw [plays, e1]; exact congrArg Value.bool hv.symm, by rw [askd, e1, ← hb1]⟩, hW.drop 1⟩
       ·intro hc20
        replace hc20 := of_decide_eq_false hc20
        refine yB ?_
        refine y_val (r_move (v := .pointer _) rfl rfl) (by kernel_rfl) rfl ?_
        refine y_val (r_nilCheck rfl rfl) (by kernel_rfl) rfl ?_
        refine y_loadP 1 tyA31 (by kernel_rfl) rfl rfl rfl rfl (by rw [List.length_append, boC_len]; omega) (boC_boxR _ _ _) (by decide) ?_
        refine y_loadA 0 tyA206 (by kernel_rfl) rfl rfl rfl rfl (by first | rfl | exact kc_len _ | exact kcf_len _ | exact boC_len _ _ | (simp; done)) (by decide) ?_
        refine y_call (g_plays b1 t x.2.1 x.2.2.1 x.2.2.2 (by omega) (by omega) (by omega) (by omega)) en130 (by kernel_rfl) rfl rfl rfl ?_
        refine yK ?_
        refine y_val (r_assign (v := .bool _) rfl rfl) rfl rfl ?_
        refine y_end ?_
        intro W hW
        refine n_then (c_ret ?_)
        refine ret_tmp (v := .bool _) rfl rfl ?_
        have e1 : stp o f o.length = x.2 := by rw [show o.length = x.1 by omega]; exact hst
        have hneg : ¬ (x.2.1 = 0 ∨ (0 < q.v ∧ q.v < (after q x.2.1 x.2.2.1).x) ∨ noiseB q = true) := by
         rw [← hb1, show noiseB q = false from decide_eq_false (by rw [← ek]; exact hc17)]
         rintro (h | ⟨h1, h2⟩ | h)
         ·omega
         ·omega
         ·cases h
        have hv : askW q x.2.1 x.2.2.1 x.2.2.2 = _ := (ask_w hneg (by omega)).trans (play_congr em ek).symm
        exact ⟨_, [_], rfl, ⟨by rw [plays, e1]; exact congrArg Value.bool hv.symm, by rw [askd, e1, ← hb1]⟩, hW.drop 1⟩
   ·intro hc7
    replace hc7 := of_decide_eq_false hc7
    refine kB ?_
    refine l_end ?_
    have hax := after_n (b := q) (r := x.2.1) (w := x.2.2.1) (by omega)
    obtain ⟨b1, hb1⟩ : ∃ b1, b1 = after q x.2.1 x.2.2.1 := ⟨_, rfl⟩
    have es : b1 = { q with a := q.a + 1 } := hb1.trans hax
    have ev : b1.v = q.v := by rw [es]
    have en : b1.n = q.n := by rw [es]
    have em : b1.m = q.m := by rw [es]
    have ek : b1.k = q.k := by rw [es]
    have ex : b1.x = q.x := by rw [es]
    rw [← es] at hW
    refine n_then ?_
    refine c_false rfl ?_
    refine c_skip (n_then (c_seq ?_))
    refine c_regY hW [] [.q, .q, .q, .q, .q, .q, .q, .q, .q, .q, .q, .q, .q, .q, .q, .q, .q] [0, 1, 3, 7, 15, 31, 63, 127, 255, 511, 63, 1087, 3135, 7231, 16383, 32767, 65535] (by kernel_rfl) (by kernel_rfl) ?_
    refine y_val (r_move (v := .pointer _) rfl rfl) rfl rfl ?_
    refine y_val (r_nilCheck rfl rfl) rfl rfl ?_
    refine y_val (r_fieldAddr 9 Tryz.underlying31 rfl tyC3.size rfl rfl rfl) rfl rfl ?_
    refine y_loadC 1 tyC3 rfl rfl rfl rfl rfl rfl (by decide) ?_
    refine y_val (r_gtr rfl rfl rfl rfl) rfl rfl ?_
    refine y_split ?_ ?_
    ·intro hc21
     replace hc21 := of_decide_eq_true hc21
     refine yB ?_
     refine y_val (r_move (v := .pointer _) rfl rfl) (by kernel_rfl) rfl ?_
     refine y_val (r_nilCheck rfl rfl) (by kernel_rfl) rfl ?_
     refine y_val (r_fieldAddr 27 Tryz.underlying31 rfl tyC3.size rfl rfl rfl) (by kernel_rfl) rfl ?_
     refine y_loadC 1 tyC3 (by kernel_rfl) rfl rfl rfl rfl rfl (by decide) ?_
     refine y_val (r_move (v := .pointer _) rfl rfl) (by kernel_rfl) rfl ?_
     refine y_val (r_nilCheck rfl rfl) (by kernel_rfl) rfl ?_
     refine y_val (r_fieldAddr 9 Tryz.underlying31 rfl tyC3.size rfl rfl rfl) (by kernel_rfl) rfl ?_
     refine y_loadC 1 tyC3 (by kernel_rfl) rfl rfl rfl rfl rfl (by decide) ?_
     refine y_val (r_gtr rfl rfl rfl rfl) (by kernel_rfl) rfl ?_
     refine y_split ?_ ?_
     ·intro hc22
      replace hc22 := of_decide_eq_true hc22
      refine yK ?_
      refine y_val (r_assign (v := .bool _) rfl rfl) rfl rfl ?_
      refine y_end ?_
      intro W hW
      refine n_then (c_seq ?_)
      refine c_regY hW [] [.q, .q, .q, .q, .q, .q, .q, .q, .q, .q, .q, .q, .q, .q, .q, .q, .q] [0, 1, 3, 7, 0, 0, 48, 112, 0, 256, 1023, 0, 0, 6144, 14336, 32767, 65535] (by kernel_rfl) (by kernel_rfl) ?_
      refine y_val (r_move (v := .pointer _) rfl rfl) rfl rfl ?_
      refine y_val (r_nilCheck rfl rfl) rfl rfl ?_
      refine y_val (r_fieldAddr 10 Tryz.underlying31 rfl tyA29.size rfl rfl rfl) rfl rfl ?_
      refine y_loadP 1 tyA29 (by kernel_rfl) rfl rfl rfl rfl (by rw [List.length_append, boC_len]; omega) (boC_keyR _ _ _) (by decide) ?_
      refine yI ?_
      refine yI ?_
      refine y_val (r_quoN (m := q.a.toNat) (n := q.n.toNat + 1) rfl (congrArg (Value.int .i64) ha) (congrArg (Value.int .i64) hb) (by omega) (by omega)) rfl rfl ?_
      refine y_val (r_conv_i64_u64 Tryz.underlying3 Tryz.underlying22 rfl rfl) rfl rfl ?_
      refine yI ?_
      refine y_val (r_conv_i64_u64 (n := q.n.toNat + 1) Tryz.underlying3 Tryz.underlying22 rfl (congrArg (Value.int .i64) hb)) rfl rfl ?_
      refine y_call (g_Number _ _ _) en129 rfl rfl rfl rfl ?_
      refine yI ?_
      refine yI ?_
      refine y_val (r_remN (m := q.a.toNat) (n := q.n.toNat + 1) rfl (congrArg (Value.int .i64) ha) (congrArg (Value.int .i64) hb) (by omega)) rfl rfl ?_
      refine y_val (r_conv_i64_u64 Tryz.underlying3 Tryz.underlying22 rfl rfl) rfl rfl ?_
      refine y_val (r_neqN rfl rfl rfl rfl) rfl rfl ?_
      refine y_split ?_ ?_
      ·intro hc23
       replace hc23 := of_decide_eq_true hc23
       refine y_val (r_assign (v := .bool _) rfl rfl) rfl rfl ?_
       refine y_end ?_
       intro W hW
       refine n_then (c_seq (c_seq (c_reg ?_)))
       refine l_val (r_fieldAddr 0 Tryz.underlying206 rfl tyC3.size rfl rfl rfl) rfl rfl ?_
       refine dC hW 0 tyC3 ?_
       refine l_val (r_eqlN (n := 0) rfl rfl rfl rfl) rfl rfl ?_
       refine l_split ?_ ?_
       ·intro hc24
        replace hc24 := of_decide_eq_true hc24
        refine aB ?_
        refine lN ?_
        refine kB ?_
        refine aB ?_
        refine lN ?_
        refine kB ?_
        refine l_end (n_then ?_)
        refine c_true rfl ?_
        refine c_seq (c_reg ?_)
        refine bB ?_
        refine l_end (n_then (c_ret (r_then ?_)))
        refine ret_tmp (v := .bool _) rfl rfl ?_
        have e1 : stp o f o.length = x.2 := by rw [show o.length = x.1 by omega]; exact hst
        have hv : askW q x.2.1 x.2.2.1 x.2.2.2 = _ := ask_no (by rw [← hb1]; omega)
        exact ⟨_, [_], rfl, ⟨by rw [plays, e1]; exact congrArg Value.bool hv.symm, by rw [askd, e1, ← hb1]⟩, hW.drop 1⟩
       ·intro hc24
        replace hc24 := of_decide_eq_false hc24
        refine aB ?_
        refine l_valG (r_move (v := .bool _) rfl rfl) (by kernel_rfl) rfl ?_
        refine kB ?_
        refine aB ?_
        refine lN ?_
        refine kB ?_
        refine l_end (n_then ?_)
        refine c_true rfl ?_
        refine c_seq (c_reg ?_)
        refine bB ?_
        refine l_end (n_then (c_ret (r_then ?_)))
        refine ret_tmp (v := .bool _) rfl rfl ?_
        have e1 : stp o f o.length = x.2 := by rw [show o.length = x.1 by omega]; exact hst
        have hv : askW q x.2.1 x.2.2.1 x.2.2.2 = _ := ask_no (by rw [← hb1]; omega)
        exact ⟨_, [_], rfl, ⟨by rw [plays, e1]; exact congrArg Value.bool hv.symm, by rw [askd, e1, ← hb1]⟩, hW.drop 1⟩
      ·intro hc23
       replace hc23 := of_decide_eq_false hc23
       refine y_val (r_assign (v := .bool _) rfl rfl) rfl rfl ?_
       refine y_end ?_
       intro W hW
       refine n_then (c_seq (c_seq (c_reg ?_)))
       refine l_val (r_fieldAddr 0 Tryz.underlying206 rfl tyC3.size rfl rfl rfl) rfl rfl ?_
       refine dC hW 0 tyC3 ?_
       refine l_val (r_eqlN (n := 0) rfl rfl rfl rfl) rfl rfl ?_
       refine l_split ?_ ?_
       ·intro hc25
        replace hc25 := of_decide_eq_true hc25
        refine aB ?_
        refine lN ?_
        refine kB ?_
        refine aB ?_
        refine lN ?_
        refine kB ?_
        refine l_end (n_then ?_)
        refine c_true rfl ?_
        refine c_seq (c_reg ?_)
        refine bB ?_
        refine l_end (n_then (c_ret (r_then ?_)))
        refine ret_tmp (v := .bool _) rfl rfl ?_
        have e1 : stp o f o.length = x.2 := by rw [show o.length = x.1 by omega]; exact hst
        have hv : askW q x.2.1 x.2.2.1 x.2.2.2 = _ := ask_no (by rw [← hb1]; omega)
        exact ⟨_, [_], rfl, ⟨by rw [plays, e1]; exact congrArg Value.bool hv.symm, by rw [askd, e1, ← hb1]⟩, hW.drop 1⟩
       ·intro hc25
        replace hc25 := of_decide_eq_false hc25
        refine aB ?_
        refine l_valG (r_move (v := .bool _) rfl rfl) (by kernel_rfl) rfl ?_
        refine kB ?_
        refine aB ?_
        refine lN ?_
        refine kB ?_
        refine l_end (n_then ?_)
        refine c_true rfl ?_
        refine c_seq (c_reg ?_)
        refine bB ?_
        refine l_end (n_then (c_ret (r_then ?_)))
        refine ret_tmp (v := .bool _) rfl rfl ?_
        have e1 : stp o f o.length = x.2 := by rw [show o.length = x.1 by omega]; exact hst
        have hv : askW q x.2.1 x.2.2.1 x.2.2.2 = _ := ask_no (by rw [← hb1]; omega)
        exact ⟨_, [_], rfl, ⟨by rw [plays, e1]; exact congrArg Value.bool hv.symm, by rw [askd, e1, ← hb1]⟩, hW.drop 1⟩
     ·intro hc22
      replace hc22 := of_decide_eq_false hc22
      refine yK ?_
      refine y_val (r_assign (v := .bool _) rfl rfl) rfl rfl ?_
      refine y_end ?_
      intro W hW
      refine n_then (c_seq ?_)
      refine c_regY hW [] [.q, .q, .q, .q, .q, .q, .q, .q, .q, .q, .q, .q, .q, .q, .q, .q, .q] [0, 1, 3, 7, 0, 0, 48, 112, 0, 256, 1023, 0, 0, 6144, 14336, 32767, 65535] (by kernel_rfl) (by kernel_rfl) ?_
      refine y_val (r_move (v := .pointer _) rfl rfl) rfl rfl ?_
      refine y_val (r_nilCheck rfl rfl) rfl rfl ?_
      refine y_val (r_fieldAddr 10 Tryz.underlying31 rfl tyA29.size rfl rfl rfl) rfl rfl ?_
      refine y_loadP 1 tyA29 (by kernel_rfl) rfl rfl rfl rfl (by rw [List.length_append, boC_len]; omega) (boC_keyR _ _ _) (by decide) ?_
      refine yI ?_
      refine yI ?_
      refine y_val (r_quoN (m := q.a.toNat) (n := q.n.toNat + 1) rfl (congrArg (Value.int .i64) ha) (congrArg (Value.int .i64) hb) (by omega) (by omega)) rfl rfl ?_
      refine y_val (r_conv_i64_u64 Tryz.underlying3 Tryz.underlying22 rfl rfl) rfl rfl ?_
      refine yI ?_
      refine y_val (r_conv_i64_u64 (n := q.n.toNat + 1) Tryz.underlying3 Tryz.underlying22 rfl (congrArg (Value.int .i64) hb)) rfl rfl ?_
      refine y_call (g_Number _ _ _) en129 rfl rfl rfl rfl ?_
      refine yI ?_
      refine yI ?_
      refine y_val (r_remN (m := q.a.toNat) (n := q.n.toNat + 1) rfl (congrArg (Value.int .i64) ha) (congrArg (Value.int .i64) hb) (by omega)) rfl rfl ?_
      refine y_val (r_conv_i64_u64 Tryz.underlying3 Tryz.underlying22 rfl rfl) rfl rfl ?_
      refine y_val (r_neqN rfl rfl rfl rfl) rfl rfl ?_
      refine y_split ?_ ?_
      ·intro hc26
       replace hc26 := of_decide_eq_true hc26
       refine y_val (r_assign (v := .bool _) rfl rfl) rfl rfl ?_
       refine y_end ?_
       intro W hW
       refine n_then (c_seq (c_seq (c_reg ?_)))
       refine l_val (r_fieldAddr 0 Tryz.underlying206 rfl tyC3.size rfl rfl rfl) rfl rfl ?_
       refine dC hW 0 tyC3 ?_
       refine l_val (r_eqlN (n := 0) rfl rfl rfl rfl) rfl rfl ?_
       refine l_split ?_ ?_
       ·intro hc27
        replace hc27 := of_decide_eq_true hc27
        refine aB ?_
        refine lN ?_
        refine kB ?_
        refine aB ?_
        refine lN ?_
        refine kB ?_
        refine l_end (n_then ?_)
        refine c_true rfl ?_
        refine c_seq (c_reg ?_)
        refine bB ?_
        refine l_end (n_then (c_ret (r_then ?_)))
        refine ret_tmp (v := .bool _) rfl rfl ?_
        have e1 : stp o f o.length = x.2 := by rw [show o.length = x.1 by omega]; exact hst
        have hv : askW q x.2.1 x.2.2.1 x.2.2.2 = _ := ask_no (by rw [← hb1]; omega)
        exact ⟨_, [_], rfl, ⟨by rw [plays, e1]; exact congrArg Value.bool hv.symm, by rw [askd, e1, ← hb1]⟩, hW.drop 1⟩
       ·intro hc27
        replace hc27 := of_decide_eq_false hc27
        refine aB ?_
        refine l_valG (r_move (v := .bool _) rfl rfl) (by kernel_rfl) rfl ?_
        refine kB ?_
        refine aB ?_
        refine l_valG (r_move (v := .bool _) rfl rfl) (by kernel_rfl) rfl ?_
        refine kB ?_
        refine l_end (n_then ?_)
        refine c_true rfl ?_
        refine c_seq (c_reg ?_)
        refine bB ?_
        refine l_end (n_then (c_ret (r_then ?_)))
        refine ret_tmp (v := .bool _) rfl rfl ?_
        have e1 : stp o f o.length = x.2 := by rw [show o.length = x.1 by omega]; exact hst
        have hv : askW q x.2.1 x.2.2.1 x.2.2.2 = _ := ask_no (.inr (.inr (decide_eq_true (by rw [← ek]; exact hc26))))
        exact ⟨_, [_], rfl, ⟨by rw [plays, e1]; exact congrArg Value.bool hv.symm, by rw [askd, e1, ← hb1]⟩, hW.drop 1⟩
      ·intro hc26
       replace hc26 := of_decide_eq_false hc26
       refine y_val (r_assign (v := .bool _) rfl rfl) rfl rfl ?_
       refine y_end ?_
       intro W hW
       refine n_then (c_seq (c_seq (c_reg ?_)))
       refine l_val (r_fieldAddr 0 Tryz.underlying206 rfl tyC3.size rfl rfl rfl) rfl rfl ?_
       refine dC hW 0 tyC3 ?_
       refine l_val (r_eqlN (n := 0) rfl rfl rfl rfl) rfl rfl ?_
       refine l_split ?_ ?_
       ·intro hc28
        replace hc28 := of_decide_eq_true hc28
        refine aB ?_
        refine lN ?_
        refine kB ?_
        refine aB ?_
        refine lN ?_
        refine kB ?_
        refine l_end (n_then ?_)
        refine c_true rfl ?_
        refine c_seq (c_reg ?_)
        refine bB ?_
        refine l_end (n_then (c_ret (r_then ?_)))
        refine ret_tmp (v := .bool _) rfl rfl ?_
        have e1 : stp o f o.length = x.2 := by rw [show o.length = x.1 by omega]; exact hst
        have hv : askW q x.2.1 x.2.2.1 x.2.2.2 = _ := ask_no (by rw [← hb1]; omega)
        exact ⟨_, [_], rfl, ⟨by rw [plays, e1]; exact congrArg Value.bool hv.symm, by rw [askd, e1, ← hb1]⟩, hW.drop 1⟩
       ·intro hc28
        replace hc28 := of_decide_eq_false hc28
        refine aB ?_
        refine l_valG (r_move (v := .bool _) rfl rfl) (by kernel_rfl) rfl ?_
        refine kB ?_
        refine aB ?_
        refine l_valG (r_move (v := .bool _) rfl rfl) (by kernel_rfl) rfl ?_
        refine kB ?_
        refine l_end (n_then ?_)
        refine c_false rfl ?_
        refine c_skip (n_then (c_seq ?_))
        refine c_regY hW [] [.q, .q, .q, .q, .q, .q, .q, .q, .q, .q, .q] [0, 1, 3, 7, 15, 31, 63, 15, 255, 511, 1023] (by kernel_rfl) (by kernel_rfl) ?_
        refine y_val (r_fieldAddr 1 Tryz.underlying206 rfl tyC3.size rfl rfl rfl) rfl rfl ?_
        refine y_loadC 0 tyC3 rfl rfl rfl rfl rfl rfl (by decide) ?_
        refine y_val (r_eqlN (n := 0) rfl rfl rfl rfl) rfl rfl ?_
        refine y_split ?_ ?_
        ·intro hc29
         replace hc29 := of_decide_eq_true hc29
         refine yB ?_
         refine yN ?_
         refine yN ?_
         refine yN ?_
         refine yN ?_
         refine yN ?_
         refine yK ?_
         refine y_val (r_assign (v := .bool _) rfl rfl) rfl rfl ?_
         refine y_end ?_
         intro W hW
         refine n_then (c_ret ?_)
         refine ret_tmp (v := .bool _) rfl rfl ?_
         have e1 : stp o f o.length = x.2 := by rw [show o.length = x.1 by omega]; exact hst
         have hneg : ¬ (x.2.1 = 0 ∨ (0 < q.v ∧ q.v < (after q x.2.1 x.2.2.1).x) ∨ noiseB q = true) := by
          rw [← hb1, show noiseB q = false from decide_eq_false (by rw [← ek]; exact hc26)]
          rintro (h | ⟨h1, h2⟩ | h)
          ·omega
          ·omega
          ·cases h
         have hv : askW q x.2.1 x.2.2.1 x.2.2.2 = _ := ask_y0 hneg (by omega)
         exact ⟨_, [_], rfl, ⟨by rw [plays, e1]; exact congrArg Value.bool hv.symm, by rw [askd, e1, ← hb1]⟩, hW.drop 1⟩
        ·intro hc29
         replace hc29 := of_decide_eq_false hc29
         refine yB ?_
         refine y_val (r_move (v := .pointer _) rfl rfl) (by kernel_rfl) rfl ?_
         refine y_val (r_nilCheck rfl rfl) (by kernel_rfl) rfl ?_
         refine y_loadP 1 tyA31 (by kernel_rfl) rfl rfl rfl rfl (by rw [List.length_append, boC_len]; omega) (boC_boxR _ _ _) (by decide) ?_
         refine y_loadA 0 tyA206 (by kernel_rfl) rfl rfl rfl rfl (by first | rfl | exact kc_len _ | exact kcf_len _ | exact boC_len _ _ | (simp; done)) (by decide) ?_
         refine y_call (g_plays b1 t x.2.1 x.2.2.1 x.2.2.2 (by omega) (by omega) (by omega) (by omega)) en130 (by kernel_rfl) rfl rfl rfl ?_
         refine yK ?_
         refine y_val (r_assign (v := .bool _) rfl rfl) rfl rfl ?_
         refine y_end ?_
         intro W hW
         refine n_then (c_ret ?_)
         refine ret_tmp (v := .bool _) rfl rfl ?_
         have e1 : stp o f o.length = x.2 := by rw [show o.length = x.1 by omega]; exact hst
         have hneg : ¬ (x.2.1 = 0 ∨ (0 < q.v ∧ q.v < (after q x.2.1 x.2.2.1).x) ∨ noiseB q = true) := by
          rw [← hb1, show noiseB q = false from decide_eq_false (by rw [← ek]; exact hc26)]
          rintro (h | ⟨h1, h2⟩ | h)
          ·omega
          ·omega
          ·cases h
         have hv : askW q x.2.1 x.2.2.1 x.2.2.2 = _ := (ask_w hneg (by omega)).trans (play_congr em ek).symm
         exact ⟨_, [_], rfl, ⟨by rw [plays, e1]; exact congrArg Value.bool hv.symm, by rw [askd, e1, ← hb1]⟩, hW.drop 1⟩
    ·intro hc21
     replace hc21 := of_decide_eq_false hc21
     refine yB ?_
     refine yN ?_
     refine yN ?_
     refine yN ?_
     refine yN ?_
     refine yN ?_
     refine yN ?_
     refine yN ?_
     refine yN ?_
     refine yN ?_
     refine yK ?_
     refine y_val (r_assign (v := .bool _) rfl rfl) rfl rfl ?_
     refine y_end ?_
     intro W hW
     refine n_then (c_seq ?_)
     refine c_regY hW [] [.q, .q, .q, .q, .q, .q, .q, .q, .q, .q, .q, .q, .q, .q, .q, .q, .q] [0, 1, 3, 7, 0, 0, 48, 112, 0, 256, 1023, 0, 0, 6144, 14336, 32767, 65535] (by kernel_rfl) (by kernel_rfl) ?_
     refine y_val (r_move (v := .pointer _) rfl rfl) rfl rfl ?_
     refine y_val (r_nilCheck rfl rfl) rfl rfl ?_
     refine y_val (r_fieldAddr 10 Tryz.underlying31 rfl tyA29.size rfl rfl rfl) rfl rfl ?_
     refine y_loadP 1 tyA29 (by kernel_rfl) rfl rfl rfl rfl (by rw [List.length_append, boC_len]; omega) (boC_keyR _ _ _) (by decide) ?_
     refine yI ?_
     refine yI ?_
     refine y_val (r_quoN (m := q.a.toNat) (n := q.n.toNat + 1) rfl (congrArg (Value.int .i64) ha) (congrArg (Value.int .i64) hb) (by omega) (by omega)) rfl rfl ?_
     refine y_val (r_conv_i64_u64 Tryz.underlying3 Tryz.underlying22 rfl rfl) rfl rfl ?_
     refine yI ?_
     refine y_val (r_conv_i64_u64 (n := q.n.toNat + 1) Tryz.underlying3 Tryz.underlying22 rfl (congrArg (Value.int .i64) hb)) rfl rfl ?_
     refine y_call (g_Number _ _ _) en129 rfl rfl rfl rfl ?_
     refine yI ?_
     refine yI ?_
     refine y_val (r_remN (m := q.a.toNat) (n := q.n.toNat + 1) rfl (congrArg (Value.int .i64) ha) (congrArg (Value.int .i64) hb) (by omega)) rfl rfl ?_
     refine y_val (r_conv_i64_u64 Tryz.underlying3 Tryz.underlying22 rfl rfl) rfl rfl ?_
     refine y_val (r_neqN rfl rfl rfl rfl) rfl rfl ?_
     refine y_split ?_ ?_
     ·intro hc30
      replace hc30 := of_decide_eq_true hc30
      refine y_val (r_assign (v := .bool _) rfl rfl) rfl rfl ?_
      refine y_end ?_
      intro W hW
      refine n_then (c_seq (c_seq (c_reg ?_)))
      refine l_val (r_fieldAddr 0 Tryz.underlying206 rfl tyC3.size rfl rfl rfl) rfl rfl ?_
      refine dC hW 0 tyC3 ?_
      refine l_val (r_eqlN (n := 0) rfl rfl rfl rfl) rfl rfl ?_
      refine l_split ?_ ?_
      ·intro hc31
       replace hc31 := of_decide_eq_true hc31
       refine aB ?_
       refine lN ?_
       refine kB ?_
       refine aB ?_
       refine lN ?_
       refine kB ?_
       refine l_end (n_then ?_)
       refine c_true rfl ?_
       refine c_seq (c_reg ?_)
       refine bB ?_
       refine l_end (n_then (c_ret (r_then ?_)))
       refine ret_tmp (v := .bool _) rfl rfl ?_
       have e1 : stp o f o.length = x.2 := by rw [show o.length = x.1 by omega]; exact hst
       have hv : askW q x.2.1 x.2.2.1 x.2.2.2 = _ := ask_no (by rw [← hb1]; omega)
       exact ⟨_, [_], rfl, ⟨by rw [plays, e1]; exact congrArg Value.bool hv.symm, by rw [askd, e1, ← hb1]⟩, hW.drop 1⟩
      ·intro hc31
       replace hc31 := of_decide_eq_false hc31
       refine aB ?_
       refine l_valG (r_move (v := .bool _) rfl rfl) (by kernel_rfl) rfl ?_
       refine kB ?_
       refine aB ?_
       refine l_valG (r_move (v := .bool _) rfl rfl) (by kernel_rfl) rfl ?_
       refine kB ?_
       refine l_end (n_then ?_)
       refine c_true rfl ?_
       refine c_seq (c_reg ?_)
       refine bB ?_
       refine l_end (n_then (c_ret (r_then ?_)))
       refine ret_tmp (v := .bool _) rfl rfl ?_
       have e1 : stp o f o.length = x.2 := by rw [show o.length = x.1 by omega]; exact hst
       have hv : askW q x.2.1 x.2.2.1 x.2.2.2 = _ := ask_no (.inr (.inr (decide_eq_true (by rw [← ek]; exact hc30))))
       exact ⟨_, [_], rfl, ⟨by rw [plays, e1]; exact congrArg Value.bool hv.symm, by rw [askd, e1, ← hb1]⟩, hW.drop 1⟩
     ·intro hc30
      replace hc30 := of_decide_eq_false hc30
      refine y_val (r_assign (v := .bool _) rfl rfl) rfl rfl ?_
      refine y_end ?_
      intro W hW
      refine n_then (c_seq (c_seq (c_reg ?_)))
      refine l_val (r_fieldAddr 0 Tryz.underlying206 rfl tyC3.size rfl rfl rfl) rfl rfl ?_
      refine dC hW 0 tyC3 ?_
      refine l_val (r_eqlN (n := 0) rfl rfl rfl rfl) rfl rfl ?_
      refine l_split ?_ ?_
      ·intro hc32
       replace hc32 := of_decide_eq_true hc32
       refine aB ?_
       refine lN ?_
       refine kB ?_
       refine aB ?_
       refine lN ?_
       refine kB ?_
       refine l_end (n_then ?_)
       refine c_true rfl ?_
       refine c_seq (c_reg ?_)
       refine bB ?_
       refine l_end (n_then (c_ret (r_then ?_)))
       refine ret_tmp (v := .bool _) rfl rfl ?_
       have e1 : stp o f o.length = x.2 := by rw [show o.length = x.1 by omega]; exact hst
       have hv : askW q x.2.1 x.2.2.1 x.2.2.2 = _ := ask_no (by rw [← hb1]; omega)
       exact ⟨_, [_], rfl, ⟨by rw [plays, e1]; exact congrArg Value.bool hv.symm, by rw [askd, e1, ← hb1]⟩, hW.drop 1⟩
      ·intro hc32
       replace hc32 := of_decide_eq_false hc32
       refine aB ?_
       refine l_valG (r_move (v := .bool _) rfl rfl) (by kernel_rfl) rfl ?_
       refine kB ?_
       refine aB ?_
       refine l_valG (r_move (v := .bool _) rfl rfl) (by kernel_rfl) rfl ?_
       refine kB ?_
       refine l_end (n_then ?_)
       refine c_false rfl ?_
       refine c_skip (n_then (c_seq ?_))
       refine c_regY hW [] [.q, .q, .q, .q, .q, .q, .q, .q, .q, .q, .q] [0, 1, 3, 7, 15, 31, 63, 15, 255, 511, 1023] (by kernel_rfl) (by kernel_rfl) ?_
       refine y_val (r_fieldAddr 1 Tryz.underlying206 rfl tyC3.size rfl rfl rfl) rfl rfl ?_
       refine y_loadC 0 tyC3 rfl rfl rfl rfl rfl rfl (by decide) ?_
       refine y_val (r_eqlN (n := 0) rfl rfl rfl rfl) rfl rfl ?_
       refine y_split ?_ ?_
       ·intro hc33
        replace hc33 := of_decide_eq_true hc33
        refine yB ?_
        refine yN ?_
        refine yN ?_
        refine yN ?_
        refine yN ?_
        refine yN ?_
        refine yK ?_
        refine y_val (r_assign (v := .bool _) rfl rfl) rfl rfl ?_
        refine y_end ?_
        intro W hW
        refine n_then (c_ret ?_)
        refine ret_tmp (v := .bool _) rfl rfl ?_
        have e1 : stp o f o.length = x.2 := by rw [show o.length = x.1 by omega]; exact hst
        have hneg : ¬ (x.2.1 = 0 ∨ (0 < q.v ∧ q.v < (after q x.2.1 x.2.2.1).x) ∨ noiseB q = true) := by
         rw [← hb1, show noiseB q = false from decide_eq_false (by rw [← ek]; exact hc30)]
         rintro (h | ⟨h1, h2⟩ | h)
         ·omega
         ·omega
         ·cases h
        have hv : askW q x.2.1 x.2.2.1 x.2.2.2 = _ := ask_y0 hneg (by omega)
        exact ⟨_, [_], rfl, ⟨by rw [plays, e1]; exact congrArg Value.bool hv.symm, by rw [askd, e1, ← hb1]⟩, hW.drop 1⟩
       ·intro hc33
        replace hc33 := of_decide_eq_false hc33
        refine yB ?_
        refine y_val (r_move (v := .pointer _) rfl rfl) (by kernel_rfl) rfl ?_
        refine y_val (r_nilCheck rfl rfl) (by kernel_rfl) rfl ?_
        refine y_loadP 1 tyA31 (by kernel_rfl) rfl rfl rfl rfl (by rw [List.length_append, boC_len]; omega) (boC_boxR _ _ _) (by decide) ?_
        refine y_loadA 0 tyA206 (by kernel_rfl) rfl rfl rfl rfl (by first | rfl | exact kc_len _ | exact kcf_len _ | exact boC_len _ _ | (simp; done)) (by decide) ?_
        refine y_call (g_plays b1 t x.2.1 x.2.2.1 x.2.2.2 (by omega) (by omega) (by omega) (by omega)) en130 (by kernel_rfl) rfl rfl rfl ?_
        refine yK ?_
        refine y_val (r_assign (v := .bool _) rfl rfl) rfl rfl ?_
        refine y_end ?_
        intro W hW
        refine n_then (c_ret ?_)
        refine ret_tmp (v := .bool _) rfl rfl ?_
        have e1 : stp o f o.length = x.2 := by rw [show o.length = x.1 by omega]; exact hst
        have hneg : ¬ (x.2.1 = 0 ∨ (0 < q.v ∧ q.v < (after q x.2.1 x.2.2.1).x) ∨ noiseB q = true) := by
         rw [← hb1, show noiseB q = false from decide_eq_false (by rw [← ek]; exact hc30)]
         rintro (h | ⟨h1, h2⟩ | h)
         ·omega
         ·omega
         ·cases h
        have hv : askW q x.2.1 x.2.2.1 x.2.2.2 = _ := (ask_w hneg (by omega)).trans (play_congr em ek).symm
        exact ⟨_, [_], rfl, ⟨by rw [plays, e1]; exact congrArg Value.bool hv.symm, by rw [askd, e1, ← hb1]⟩, hW.drop 1⟩
  ·intro hc6
   replace hc6 := of_decide_eq_false hc6
   refine aB ?_
   refine lN ?_
   refine lN ?_
   refine lN ?_
   refine kB ?_
   refine l_end ?_
   have hax := after_n (b := q) (r := x.2.1) (w := x.2.2.1) (by omega)
   obtain ⟨b1, hb1⟩ : ∃ b1, b1 = after q x.2.1 x.2.2.1 := ⟨_, rfl⟩
   have es : b1 = { q with a := q.a + 1 } := hb1.trans hax
   have ev : b1.v = q.v := by rw [es]
   have en : b1.n = q.n := by rw [es]
   have em : b1.m = q.m := by rw [es]
   have ek : b1.k = q.k := by rw [es]
   have ex : b1.x = q.x := by rw [es]
   rw [← es] at hW
   refine n_then ?_
   refine c_false rfl ?_
   refine c_skip (n_then (c_seq ?_))
   refine c_regY hW [] [.q, .q, .q, .q, .q, .q, .q, .q, .q, .q, .q, .q, .q, .q, .q, .q, .q] [0, 1, 3, 7, 15, 31, 63, 127, 255, 511, 63, 1087, 3135, 7231, 16383, 32767, 65535] (by kernel_rfl) (by kernel_rfl) ?_
   refine y_val (r_move (v := .pointer _) rfl rfl) rfl rfl ?_
   refine y_val (r_nilCheck rfl rfl) rfl rfl ?_
   refine y_val (r_fieldAddr 9 Tryz.underlying31 rfl tyC3.size rfl rfl rfl) rfl rfl ?_
   refine y_loadC 1 tyC3 rfl rfl rfl rfl rfl rfl (by decide) ?_
   refine y_val (r_gtr rfl rfl rfl rfl) rfl rfl ?_
   refine y_split ?_ ?_
   ·intro hc34
    replace hc34 := of_decide_eq_true hc34
    refine yB ?_
    refine y_val (r_move (v := .pointer _) rfl rfl) (by kernel_rfl) rfl ?_
    refine y_val (r_nilCheck rfl rfl) (by kernel_rfl) rfl ?_
    refine y_val (r_fieldAddr 27 Tryz.underlying31 rfl tyC3.size rfl rfl rfl) (by kernel_rfl) rfl ?_
    refine y_loadC 1 tyC3 (by kernel_rfl) rfl rfl rfl rfl rfl (by decide) ?_
    refine y_val (r_move (v := .pointer _) rfl rfl) (by kernel_rfl) rfl ?_
    refine y_val (r_nilCheck rfl rfl) (by kernel_rfl) rfl ?_
    refine y_val (r_fieldAddr 9 Tryz.underlying31 rfl tyC3.size rfl rfl rfl) (by kernel_rfl) rfl ?_
    refine y_loadC 1 tyC3 (by kernel_rfl) rfl rfl rfl rfl rfl (by decide) ?_
    refine y_val (r_gtr rfl rfl rfl rfl) (by kernel_rfl) rfl ?_
    refine y_split ?_ ?_
    ·intro hc35
     replace hc35 := of_decide_eq_true hc35
     refine yK ?_
     refine y_val (r_assign (v := .bool _) rfl rfl) rfl rfl ?_
     refine y_end ?_
     intro W hW
     refine n_then (c_seq ?_)
     refine c_regY hW [] [.q, .q, .q, .q, .q, .q, .q, .q, .q, .q, .q, .q, .q, .q, .q, .q, .q] [0, 1, 3, 7, 0, 0, 48, 112, 0, 256, 1023, 0, 0, 6144, 14336, 32767, 65535] (by kernel_rfl) (by kernel_rfl) ?_
     refine y_val (r_move (v := .pointer _) rfl rfl) rfl rfl ?_
     refine y_val (r_nilCheck rfl rfl) rfl rfl ?_
     refine y_val (r_fieldAddr 10 Tryz.underlying31 rfl tyA29.size rfl rfl rfl) rfl rfl ?_
     refine y_loadP 1 tyA29 (by kernel_rfl) rfl rfl rfl rfl (by rw [List.length_append, boC_len]; omega) (boC_keyR _ _ _) (by decide) ?_
     refine yI ?_
     refine yI ?_
     refine y_val (r_quoN (m := q.a.toNat) (n := q.n.toNat + 1) rfl (congrArg (Value.int .i64) ha) (congrArg (Value.int .i64) hb) (by omega) (by omega)) rfl rfl ?_
     refine y_val (r_conv_i64_u64 Tryz.underlying3 Tryz.underlying22 rfl rfl) rfl rfl ?_
     refine yI ?_
     refine y_val (r_conv_i64_u64 (n := q.n.toNat + 1) Tryz.underlying3 Tryz.underlying22 rfl (congrArg (Value.int .i64) hb)) rfl rfl ?_
     refine y_call (g_Number _ _ _) en129 rfl rfl rfl rfl ?_
     refine yI ?_
     refine yI ?_
     refine y_val (r_remN (m := q.a.toNat) (n := q.n.toNat + 1) rfl (congrArg (Value.int .i64) ha) (congrArg (Value.int .i64) hb) (by omega)) rfl rfl ?_
     refine y_val (r_conv_i64_u64 Tryz.underlying3 Tryz.underlying22 rfl rfl) rfl rfl ?_
     refine y_val (r_neqN rfl rfl rfl rfl) rfl rfl ?_
     refine y_split ?_ ?_
     ·intro hc36
      replace hc36 := of_decide_eq_true hc36
      refine y_val (r_assign (v := .bool _) rfl rfl) rfl rfl ?_
      refine y_end ?_
      intro W hW
      refine n_then (c_seq (c_seq (c_reg ?_)))
      refine l_val (r_fieldAddr 0 Tryz.underlying206 rfl tyC3.size rfl rfl rfl) rfl rfl ?_
      refine dC hW 0 tyC3 ?_
      refine l_val (r_eqlN (n := 0) rfl rfl rfl rfl) rfl rfl ?_
      refine l_split ?_ ?_
      ·intro hc37
       replace hc37 := of_decide_eq_true hc37
       refine aB ?_
       refine lN ?_
       refine kB ?_
       refine aB ?_
       refine lN ?_
       refine kB ?_
       refine l_end (n_then ?_)
       refine c_true rfl ?_
       refine c_seq (c_reg ?_)
       refine bB ?_
       refine l_end (n_then (c_ret (r_then ?_)))
       refine ret_tmp (v := .bool _) rfl rfl ?_
       have e1 : stp o f o.length = x.2 := by rw [show o.length = x.1 by omega]; exact hst
       have hv : askW q x.2.1 x.2.2.1 x.2.2.2 = _ := ask_no (by rw [← hb1]; omega)
       exact ⟨_, [_], rfl, ⟨by rw [plays, e1]; exact congrArg Value.bool hv.symm, by rw [askd, e1, ← hb1]⟩, hW.drop 1⟩
      ·intro hc37
       replace hc37 := of_decide_eq_false hc37
       refine aB ?_
       refine l_valG (r_move (v := .bool _) rfl rfl) (by kernel_rfl) rfl ?_
       refine kB ?_
       refine aB ?_
       refine lN ?_
       refine kB ?_
       refine l_end (n_then ?_)
       refine c_true rfl ?_
       refine c_seq (c_reg ?_)
       refine bB ?_
       refine l_end (n_then (c_ret (r_then ?_)))
       refine ret_tmp (v := .bool _) rfl rfl ?_
       have e1 : stp o f o.length = x.2 := by rw [show o.length = x.1 by omega]; exact hst
       have hv : askW q x.2.1 x.2.2.1 x.2.2.2 = _ := ask_no (by rw [← hb1]; omega)
       exact ⟨_, [_], rfl, ⟨by rw [plays, e1]; exact congrArg Value.bool hv.symm, by rw [askd, e1, ← hb1]⟩, hW.drop 1⟩
     ·intro hc36
      replace hc36 := of_decide_eq_false hc36
      refine y_val (r_assign (v := .bool _) rfl rfl) rfl rfl ?_
      refine y_end ?_
      intro W hW
      refine n_then (c_seq (c_seq (c_reg ?_)))
      refine l_val (r_fieldAddr 0 Tryz.underlying206 rfl tyC3.size rfl rfl rfl) rfl rfl ?_
      refine dC hW 0 tyC3 ?_
      refine l_val (r_eqlN (n := 0) rfl rfl rfl rfl) rfl rfl ?_
      refine l_split ?_ ?_
      ·intro hc38
       replace hc38 := of_decide_eq_true hc38
       refine aB ?_
       refine lN ?_
       refine kB ?_
       refine aB ?_
       refine lN ?_
       refine kB ?_
       refine l_end (n_then ?_)
       refine c_true rfl ?_
       refine c_seq (c_reg ?_)
       refine bB ?_
       refine l_end (n_then (c_ret (r_then ?_)))
       refine ret_tmp (v := .bool _) rfl rfl ?_
       have e1 : stp o f o.length = x.2 := by rw [show o.length = x.1 by omega]; exact hst
       have hv : askW q x.2.1 x.2.2.1 x.2.2.2 = _ := ask_no (by rw [← hb1]; omega)
       exact ⟨_, [_], rfl, ⟨by rw [plays, e1]; exact congrArg Value.bool hv.symm, by rw [askd, e1, ← hb1]⟩, hW.drop 1⟩
      ·intro hc38
       replace hc38 := of_decide_eq_false hc38
       refine aB ?_
       refine l_valG (r_move (v := .bool _) rfl rfl) (by kernel_rfl) rfl ?_
       refine kB ?_
       refine aB ?_
       refine lN ?_
       refine kB ?_
       refine l_end (n_then ?_)
       refine c_true rfl ?_
       refine c_seq (c_reg ?_)
       refine bB ?_
       refine l_end (n_then (c_ret (r_then ?_)))
       refine ret_tmp (v := .bool _) rfl rfl ?_
       have e1 : stp o f o.length = x.2 := by rw [show o.length = x.1 by omega]; exact hst
       have hv : askW q x.2.1 x.2.2.1 x.2.2.2 = _ := ask_no (by rw [← hb1]; omega)
       exact ⟨_, [_], rfl, ⟨by rw [plays, e1]; exact congrArg Value.bool hv.symm, by rw [askd, e1, ← hb1]⟩, hW.drop 1⟩
    ·intro hc35
     replace hc35 := of_decide_eq_false hc35
     refine yK ?_
     refine y_val (r_assign (v := .bool _) rfl rfl) rfl rfl ?_
     refine y_end ?_
     intro W hW
     refine n_then (c_seq ?_)
     refine c_regY hW [] [.q, .q, .q, .q, .q, .q, .q, .q, .q, .q, .q, .q, .q, .q, .q, .q, .q] [0, 1, 3, 7, 0, 0, 48, 112, 0, 256, 1023, 0, 0, 6144, 14336, 32767, 65535] (by kernel_rfl) (by kernel_rfl) ?_
     refine y_val (r_move (v := .pointer _) rfl rfl) rfl rfl ?_
     refine y_val (r_nilCheck rfl rfl) rfl rfl ?_
     refine y_val (r_fieldAddr 10 Tryz.underlying31 rfl tyA29.size rfl rfl rfl) rfl rfl ?_
     refine y_loadP 1 tyA29 (by kernel_rfl) rfl rfl rfl rfl (by rw [List.length_append, boC_len]; omega) (boC_keyR _ _ _) (by decide) ?_
     refine yI ?_
     refine yI ?_
     refine y_val (r_quoN (m := q.a.toNat) (n := q.n.toNat + 1) rfl (congrArg (Value.int .i64) ha) (congrArg (Value.int .i64) hb) (by omega) (by omega)) rfl rfl ?_
     refine y_val (r_conv_i64_u64 Tryz.underlying3 Tryz.underlying22 rfl rfl) rfl rfl ?_
     refine yI ?_
     refine y_val (r_conv_i64_u64 (n := q.n.toNat + 1) Tryz.underlying3 Tryz.underlying22 rfl (congrArg (Value.int .i64) hb)) rfl rfl ?_
     refine y_call (g_Number _ _ _) en129 rfl rfl rfl rfl ?_
     refine yI ?_
     refine yI ?_
     refine y_val (r_remN (m := q.a.toNat) (n := q.n.toNat + 1) rfl (congrArg (Value.int .i64) ha) (congrArg (Value.int .i64) hb) (by omega)) rfl rfl ?_
     refine y_val (r_conv_i64_u64 Tryz.underlying3 Tryz.underlying22 rfl rfl) rfl rfl ?_
     refine y_val (r_neqN rfl rfl rfl rfl) rfl rfl ?_
     refine y_split ?_ ?_
     ·intro hc39
      replace hc39 := of_decide_eq_true hc39
      refine y_val (r_assign (v := .bool _) rfl rfl) rfl rfl ?_
      refine y_end ?_
      intro W hW
      refine n_then (c_seq (c_seq (c_reg ?_)))
      refine l_val (r_fieldAddr 0 Tryz.underlying206 rfl tyC3.size rfl rfl rfl) rfl rfl ?_
      refine dC hW 0 tyC3 ?_
      refine l_val (r_eqlN (n := 0) rfl rfl rfl rfl) rfl rfl ?_
      refine l_split ?_ ?_
      ·intro hc40
       replace hc40 := of_decide_eq_true hc40
       refine aB ?_
       refine lN ?_
       refine kB ?_
       refine aB ?_
       refine lN ?_
       refine kB ?_
       refine l_end (n_then ?_)
       refine c_true rfl ?_
       refine c_seq (c_reg ?_)
       refine bB ?_
       refine l_end (n_then (c_ret (r_then ?_)))
       refine ret_tmp (v := .bool _) rfl rfl ?_
       have e1 : stp o f o.length = x.2 := by rw [show o.length = x.1 by omega]; exact hst
       have hv : askW q x.2.1 x.2.2.1 x.2.2.2 = _ := ask_no (by rw [← hb1]; omega)
       exact ⟨_, [_], rfl, ⟨by rw [plays, e1]; exact congrArg Value.bool hv.symm, by rw [askd, e1, ← hb1]⟩, hW.drop 1⟩
      ·intro hc40
       replace hc40 := of_decide_eq_false hc40
       refine aB ?_
       refine l_valG (r_move (v := .bool _) rfl rfl) (by kernel_rfl) rfl ?_
       refine kB ?_
       refine aB ?_
       refine l_valG (r_move (v := .bool _) rfl rfl) (by kernel_rfl) rfl ?_
       refine kB ?_
       refine l_end (n_then ?_)
       refine c_true rfl ?_
       refine c_seq (c_reg ?_)
       refine bB ?_
       refine l_end (n_then (c_ret (r_then ?_)))
       refine ret_tmp (v := .bool _) rfl rfl ?_
       have e1 : stp o f o.length = x.2 := by rw [show o.length = x.1 by omega]; exact hst
       have hv : askW q x.2.1 x.2.2.1 x.2.2.2 = _ := ask_no (.inr (.inr (decide_eq_true (by rw [← ek]; exact hc39))))
       exact ⟨_, [_], rfl, ⟨by rw [plays, e1]; exact congrArg Value.bool hv.symm, by rw [askd, e1, ← hb1]⟩, hW.drop 1⟩
     ·intro hc39
      replace hc39 := of_decide_eq_false hc39
      refine y_val (r_assign (v := .bool _) rfl rfl) rfl rfl ?_
      refine y_end ?_
      intro W hW
      refine n_then (c_seq (c_seq (c_reg ?_)))
      refine l_val (r_fieldAddr 0 Tryz.underlying206 rfl tyC3.size rfl rfl rfl) rfl rfl ?_
      refine dC hW 0 tyC3 ?_
      refine l_val (r_eqlN (n := 0) rfl rfl rfl rfl) rfl rfl ?_
      refine l_split ?_ ?_
      ·intro hc41
       replace hc41 := of_decide_eq_true hc41
       refine aB ?_
       refine lN ?_
       refine kB ?_
       refine aB ?_
       refine lN ?_
       refine kB ?_
       refine l_end (n_then ?_)
       refine c_true rfl ?_
       refine c_seq (c_reg ?_)
       refine bB ?_
       refine l_end (n_then (c_ret (r_then ?_)))
       refine ret_tmp (v := .bool _) rfl rfl ?_
       have e1 : stp o f o.length = x.2 := by rw [show o.length = x.1 by omega]; exact hst
       have hv : askW q x.2.1 x.2.2.1 x.2.2.2 = _ := ask_no (by rw [← hb1]; omega)
       exact ⟨_, [_], rfl, ⟨by rw [plays, e1]; exact congrArg Value.bool hv.symm, by rw [askd, e1, ← hb1]⟩, hW.drop 1⟩
      ·intro hc41
       replace hc41 := of_decide_eq_false hc41
       refine aB ?_
       refine l_valG (r_move (v := .bool _) rfl rfl) (by kernel_rfl) rfl ?_
       refine kB ?_
       refine aB ?_
       refine l_valG (r_move (v := .bool _) rfl rfl) (by kernel_rfl) rfl ?_
       refine kB ?_
       refine l_end (n_then ?_)
       refine c_false rfl ?_
       refine c_skip (n_then (c_seq ?_))
       refine c_regY hW [] [.q, .q, .q, .q, .q, .q, .q, .q, .q, .q, .q] [0, 1, 3, 7, 15, 31, 63, 15, 255, 511, 1023] (by kernel_rfl) (by kernel_rfl) ?_
       refine y_val (r_fieldAddr 1 Tryz.underlying206 rfl tyC3.size rfl rfl rfl) rfl rfl ?_
       refine y_loadC 0 tyC3 rfl rfl rfl rfl rfl rfl (by decide) ?_
       refine y_val (r_eqlN (n := 0) rfl rfl rfl rfl) rfl rfl ?_
       refine y_split ?_ ?_
       ·intro hc42
        replace hc42 := of_decide_eq_true hc42
        refine yB ?_
        refine yN ?_
        refine yN ?_
        refine yN ?_
        refine yN ?_
        refine yN ?_
        refine yK ?_
        refine y_val (r_assign (v := .bool _) rfl rfl) rfl rfl ?_
        refine y_end ?_
        intro W hW
        refine n_then (c_ret ?_)
        refine ret_tmp (v := .bool _) rfl rfl ?_
        have e1 : stp o f o.length = x.2 := by rw [show o.length = x.1 by omega]; exact hst
        have hneg : ¬ (x.2.1 = 0 ∨ (0 < q.v ∧ q.v < (after q x.2.1 x.2.2.1).x) ∨ noiseB q = true) := by
         rw [← hb1, show noiseB q = false from decide_eq_false (by rw [← ek]; exact hc39)]
         rintro (h | ⟨h1, h2⟩ | h)
         ·omega
         ·omega
         ·cases h
        have hv : askW q x.2.1 x.2.2.1 x.2.2.2 = _ := ask_y0 hneg (by omega)
        exact ⟨_, [_], rfl, ⟨by rw [plays, e1]; exact congrArg Value.bool hv.symm, by rw [askd, e1, ← hb1]⟩, hW.drop 1⟩
       ·intro hc42
        replace hc42 := of_decide_eq_false hc42
        refine yB ?_
        refine y_val (r_move (v := .pointer _) rfl rfl) (by kernel_rfl) rfl ?_
        refine y_val (r_nilCheck rfl rfl) (by kernel_rfl) rfl ?_
        refine y_loadP 1 tyA31 (by kernel_rfl) rfl rfl rfl rfl (by rw [List.length_append, boC_len]; omega) (boC_boxR _ _ _) (by decide) ?_
        refine y_loadA 0 tyA206 (by kernel_rfl) rfl rfl rfl rfl (by first | rfl | exact kc_len _ | exact kcf_len _ | exact boC_len _ _ | (simp; done)) (by decide) ?_
        refine y_call (g_plays b1 t x.2.1 x.2.2.1 x.2.2.2 (by omega) (by omega) (by omega) (by omega)) en130 (by kernel_rfl) rfl rfl rfl ?_
        refine yK ?_
        refine y_val (r_assign (v := .bool _) rfl rfl) rfl rfl ?_
        refine y_end ?_
        intro W hW
        refine n_then (c_ret ?_)
        refine ret_tmp (v := .bool _) rfl rfl ?_
        have e1 : stp o f o.length = x.2 := by rw [show o.length = x.1 by omega]; exact hst
        have hneg : ¬ (x.2.1 = 0 ∨ (0 < q.v ∧ q.v < (after q x.2.1 x.2.2.1).x) ∨ noiseB q = true) := by
         rw [← hb1, show noiseB q = false from decide_eq_false (by rw [← ek]; exact hc39)]
         rintro (h | ⟨h1, h2⟩ | h)
         ·omega
         ·omega
         ·cases h
        have hv : askW q x.2.1 x.2.2.1 x.2.2.2 = _ := (ask_w hneg (by omega)).trans (play_congr em ek).symm
        exact ⟨_, [_], rfl, ⟨by rw [plays, e1]; exact congrArg Value.bool hv.symm, by rw [askd, e1, ← hb1]⟩, hW.drop 1⟩
   ·intro hc34
    replace hc34 := of_decide_eq_false hc34
    refine yB ?_
    refine yN ?_
    refine yN ?_
    refine yN ?_
    refine yN ?_
    refine yN ?_
    refine yN ?_
    refine yN ?_
    refine yN ?_
    refine yN ?_
    refine yK ?_
    refine y_val (r_assign (v := .bool _) rfl rfl) rfl rfl ?_
    refine y_end ?_
    intro W hW
    refine n_then (c_seq ?_)
    refine c_regY hW [] [.q, .q, .q, .q, .q, .q, .q, .q, .q, .q, .q, .q, .q, .q, .q, .q, .q] [0, 1, 3, 7, 0, 0, 48, 112, 0, 256, 1023, 0, 0, 6144, 14336, 32767, 65535] (by kernel_rfl) (by kernel_rfl) ?_
    refine y_val (r_move (v := .pointer _) rfl rfl) rfl rfl ?_
    refine y_val (r_nilCheck rfl rfl) rfl rfl ?_
    refine y_val (r_fieldAddr 10 Tryz.underlying31 rfl tyA29.size rfl rfl rfl) rfl rfl ?_
    refine y_loadP 1 tyA29 (by kernel_rfl) rfl rfl rfl rfl (by rw [List.length_append, boC_len]; omega) (boC_keyR _ _ _) (by decide) ?_
    refine yI ?_
    refine yI ?_
    refine y_val (r_quoN (m := q.a.toNat) (n := q.n.toNat + 1) rfl (congrArg (Value.int .i64) ha) (congrArg (Value.int .i64) hb) (by omega) (by omega)) rfl rfl ?_
    refine y_val (r_conv_i64_u64 Tryz.underlying3 Tryz.underlying22 rfl rfl) rfl rfl ?_
    refine yI ?_
    refine y_val (r_conv_i64_u64 (n := q.n.toNat + 1) Tryz.underlying3 Tryz.underlying22 rfl (congrArg (Value.int .i64) hb)) rfl rfl ?_
    refine y_call (g_Number _ _ _) en129 rfl rfl rfl rfl ?_
    refine yI ?_
    refine yI ?_
    refine y_val (r_remN (m := q.a.toNat) (n := q.n.toNat + 1) rfl (congrArg (Value.int .i64) ha) (congrArg (Value.int .i64) hb) (by omega)) rfl rfl ?_
    refine y_val (r_conv_i64_u64 Tryz.underlying3 Tryz.underlying22 rfl rfl) rfl rfl ?_
    refine y_val (r_neqN rfl rfl rfl rfl) rfl rfl ?_
    refine y_split ?_ ?_
    ·intro hc43
     replace hc43 := of_decide_eq_true hc43
     refine y_val (r_assign (v := .bool _) rfl rfl) rfl rfl ?_
     refine y_end ?_
     intro W hW
     refine n_then (c_seq (c_seq (c_reg ?_)))
     refine l_val (r_fieldAddr 0 Tryz.underlying206 rfl tyC3.size rfl rfl rfl) rfl rfl ?_
     refine dC hW 0 tyC3 ?_
     refine l_val (r_eqlN (n := 0) rfl rfl rfl rfl) rfl rfl ?_
     refine l_split ?_ ?_
     ·intro hc44
      replace hc44 := of_decide_eq_true hc44
      refine aB ?_
      refine lN ?_
      refine kB ?_
      refine aB ?_
      refine lN ?_
      refine kB ?_
      refine l_end (n_then ?_)
      refine c_true rfl ?_
      refine c_seq (c_reg ?_)
      refine bB ?_
      refine l_end (n_then (c_ret (r_then ?_)))
      refine ret_tmp (v := .bool _) rfl rfl ?_
      have e1 : stp o f o.length = x.2 := by rw [show o.length = x.1 by omega]; exact hst
      have hv : askW q x.2.1 x.2.2.1 x.2.2.2 = _ := ask_no (by rw [← hb1]; omega)
      exact ⟨_, [_], rfl, ⟨by rw [plays, e1]; exact congrArg Value.bool hv.symm, by rw [askd, e1, ← hb1]⟩, hW.drop 1⟩
     ·intro hc44
      replace hc44 := of_decide_eq_false hc44
      refine aB ?_
      refine l_valG (r_move (v := .bool _) rfl rfl) (by kernel_rfl) rfl ?_
      refine kB ?_
      refine aB ?_
      refine l_valG (r_move (v := .bool _) rfl rfl) (by kernel_rfl) rfl ?_
      refine kB ?_
      refine l_end (n_then ?_)
      refine c_true rfl ?_
      refine c_seq (c_reg ?_)
      refine bB ?_
      refine l_end (n_then (c_ret (r_then ?_)))
      refine ret_tmp (v := .bool _) rfl rfl ?_
      have e1 : stp o f o.length = x.2 := by rw [show o.length = x.1 by omega]; exact hst
      have hv : askW q x.2.1 x.2.2.1 x.2.2.2 = _ := ask_no (.inr (.inr (decide_eq_true (by rw [← ek]; exact hc43))))
      exact ⟨_, [_], rfl, ⟨by rw [plays, e1]; exact congrArg Value.bool hv.symm, by rw [askd, e1, ← hb1]⟩, hW.drop 1⟩
    ·intro hc43
     replace hc43 := of_decide_eq_false hc43
     refine y_val (r_assign (v := .bool _) rfl rfl) rfl rfl ?_
     refine y_end ?_
     intro W hW
     refine n_then (c_seq (c_seq (c_reg ?_)))
     refine l_val (r_fieldAddr 0 Tryz.underlying206 rfl tyC3.size rfl rfl rfl) rfl rfl ?_
     refine dC hW 0 tyC3 ?_
     refine l_val (r_eqlN (n := 0) rfl rfl rfl rfl) rfl rfl ?_
     refine l_split ?_ ?_
     ·intro hc45
      replace hc45 := of_decide_eq_true hc45
      refine aB ?_
      refine lN ?_
      refine kB ?_
      refine aB ?_
      refine lN ?_
      refine kB ?_
      refine l_end (n_then ?_)
      refine c_true rfl ?_
      refine c_seq (c_reg ?_)
      refine bB ?_
      refine l_end (n_then (c_ret (r_then ?_)))
      refine ret_tmp (v := .bool _) rfl rfl ?_
      have e1 : stp o f o.length = x.2 := by rw [show o.length = x.1 by omega]; exact hst
      have hv : askW q x.2.1 x.2.2.1 x.2.2.2 = _ := ask_no (by rw [← hb1]; omega)
      exact ⟨_, [_], rfl, ⟨by rw [plays, e1]; exact congrArg Value.bool hv.symm, by rw [askd, e1, ← hb1]⟩, hW.drop 1⟩
     ·intro hc45
      replace hc45 := of_decide_eq_false hc45
      refine aB ?_
      refine l_valG (r_move (v := .bool _) rfl rfl) (by kernel_rfl) rfl ?_
      refine kB ?_
      refine aB ?_
      refine l_valG (r_move (v := .bool _) rfl rfl) (by kernel_rfl) rfl ?_
      refine kB ?_
      refine l_end (n_then ?_)
      refine c_false rfl ?_
      refine c_skip (n_then (c_seq ?_))
      refine c_regY hW [] [.q, .q, .q, .q, .q, .q, .q, .q, .q, .q, .q] [0, 1, 3, 7, 15, 31, 63, 15, 255, 511, 1023] (by kernel_rfl) (by kernel_rfl) ?_
      refine y_val (r_fieldAddr 1 Tryz.underlying206 rfl tyC3.size rfl rfl rfl) rfl rfl ?_
      refine y_loadC 0 tyC3 rfl rfl rfl rfl rfl rfl (by decide) ?_
      refine y_val (r_eqlN (n := 0) rfl rfl rfl rfl) rfl rfl ?_
      refine y_split ?_ ?_
      ·intro hc46
       replace hc46 := of_decide_eq_true hc46
       refine yB ?_
       refine yN ?_
       refine yN ?_
       refine yN ?_
       refine yN ?_
       refine yN ?_
       refine yK ?_
       refine y_val (r_assign (v := .bool _) rfl rfl) rfl rfl ?_
       refine y_end ?_
       intro W hW
       refine n_then (c_ret ?_)
       refine ret_tmp (v := .bool _) rfl rfl ?_
       have e1 : stp o f o.length = x.2 := by rw [show o.length = x.1 by omega]; exact hst
       have hneg : ¬ (x.2.1 = 0 ∨ (0 < q.v ∧ q.v < (after q x.2.1 x.2.2.1).x) ∨ noiseB q = true) := by
        rw [← hb1, show noiseB q = false from decide_eq_false (by rw [← ek]; exact hc43)]
        rintro (h | ⟨h1, h2⟩ | h)
        ·omega
        ·omega
        ·cases h
       have hv : askW q x.2.1 x.2.2.1 x.2.2.2 = _ := ask_y0 hneg (by omega)
       exact ⟨_, [_], rfl, ⟨by rw [plays, e1]; exact congrArg Value.bool hv.symm, by rw [askd, e1, ← hb1]⟩, hW.drop 1⟩
      ·intro hc46
       replace hc46 := of_decide_eq_false hc46
       refine yB ?_
       refine y_val (r_move (v := .pointer _) rfl rfl) (by kernel_rfl) rfl ?_
       refine y_val (r_nilCheck rfl rfl) (by kernel_rfl) rfl ?_
       refine y_loadP 1 tyA31 (by kernel_rfl) rfl rfl rfl rfl (by rw [List.length_append, boC_len]; omega) (boC_boxR _ _ _) (by decide) ?_
       refine y_loadA 0 tyA206 (by kernel_rfl) rfl rfl rfl rfl (by first | rfl | exact kc_len _ | exact kcf_len _ | exact boC_len _ _ | (simp; done)) (by decide) ?_
       refine y_call (g_plays b1 t x.2.1 x.2.2.1 x.2.2.2 (by omega) (by omega) (by omega) (by omega)) en130 (by kernel_rfl) rfl rfl rfl ?_
       refine yK ?_
       refine y_val (r_assign (v := .bool _) rfl rfl) rfl rfl ?_
       refine y_end ?_
       intro W hW
       refine n_then (c_ret ?_)
       refine ret_tmp (v := .bool _) rfl rfl ?_
       have e1 : stp o f o.length = x.2 := by rw [show o.length = x.1 by omega]; exact hst
       have hneg : ¬ (x.2.1 = 0 ∨ (0 < q.v ∧ q.v < (after q x.2.1 x.2.2.1).x) ∨ noiseB q = true) := by
        rw [← hb1, show noiseB q = false from decide_eq_false (by rw [← ek]; exact hc43)]
        rintro (h | ⟨h1, h2⟩ | h)
        ·omega
        ·omega
        ·cases h
       have hv : askW q x.2.1 x.2.2.1 x.2.2.2 = _ := (ask_w hneg (by omega)).trans (play_congr em ek).symm
       exact ⟨_, [_], rfl, ⟨by rw [plays, e1]; exact congrArg Value.bool hv.symm, by rw [askd, e1, ← hb1]⟩, hW.drop 1⟩

/-- .. of a box alone -/
theorem g_ask (q : Bo) (t : Sl) (gx : Nat) (oa : Option Addr) (on oc : Nat) (o : List Bool) (f : Int) (n0 : 0 ≤ q.n) (n8 : q.n ≤ 8) (a0 : 0 ≤ q.a) (a1 : q.a ≤ 100000) (x1 : q.x ≤ q.a) (x0 : 0 ≤ q.x) (m1 : 1 ≤ q.m) (m4 : q.m ≤ 4) (ho : o.length ≤ 100) : GivesS Tryz.prog 84 [.pointer (some ⟨gx, 0, none⟩), .slice oa on oc, .int .i64 f].toArray (fun b0 L => ∀ W, Cl b0 L W → RdT W ⟨oa, on, oc⟩ o) [⟨gx, (boC q t), 31⟩] (fun v B => v = .bool (plays q o f) ∧ B = [⟨gx, boC (askd q o f) t, 31⟩]) := by
 have h := g_askG [] 31 q t gx oa on oc o f n0 n8 a0 a1 x1 x0 m1 m4 ho
 rw [List.append_nil, List.append_nil] at h
 exact h
end Go.Proofs.YtoegpalacppllaaGreat

/- Lists, by the library. -/
namespace Go.Proofs.YtoegpalacppllaaGreat
open Go.RowKit Pl
open Tr Hn
set_option maxRecDepth 10000 in
/-- slices.Clone[[]int,int] -/
theorem g_Clone (aa : Option Addr) (an ac : Nat) (l : List Int) (hl : l.length ≤ 4294967296) : GivesX Tryz.prog 60 [.slice aa an ac].toArray (fun w => RdI w ⟨aa, an, ac⟩ l) (fun v Bs => ∃ s : Sl, v = s.v ∧ NewI s l Bs) := by
 refine givesX_of Tryz.func60 rfl (bs := [.slice aa an ac, undef, undef, undef, undef, undef, undef, undef]) rfl ?_
 intro w hP hW
 have hn : an = l.length := hP.len
 refine c_seq (c_reg ?_)
 refine bS ?_
 refine l_end (n_then (c_seq (c_seq (c_reg ?_))))
 refine aS ?_
 refine l_val (r_eqlNil Tryz.underlying27 rfl rfl rfl rfl) rfl rfl ?_
 refine l_split ?_ ?_
 ·intro hc1
  replace hc1 := of_decide_eq_true hc1
  refine l_end (n_then ?_)
  refine c_true rfl ?_
  refine c_seq (c_reg ?_)
  refine bS ?_
  refine l_end (n_then (c_ret (r_then ?_)))
  refine ret_tmp (v := .slice _ _ _) rfl rfl ?_
  exact ⟨_, [], rfl, ⟨Sl.no, rfl, by rw [show l = [] from List.eq_nil_of_length_eq_zero (by have := hP.ok.nil0 hc1; simp only at this; omega)]; exact NewI.no⟩, hW.sub (List.nil_sublist _)⟩
 ·intro hc1
  replace hc1 := of_decide_eq_false hc1
  refine l_end (n_then ?_)
  refine c_false rfl ?_
  refine c_skip (n_then (c_seq (c_reg ?_)))
  refine l_buildSliceF hW bsl27_0_ rfl rfl rfl rfl ?_
  intro ge W hW
  refine aS ?_
  refine l_twin tyE27 hW (s := ⟨aa, an, ac⟩) (RdI.past hP hW.below) (by omega) hl rfl rfl rfl rfl rfl ?_
  intro s2 Bs W hs hW
  refine bS ?_
  refine l_end (n_then (c_ret ?_))
  refine ret_tmp (v := .slice _ _ _) rfl rfl ?_
  exact ⟨_, _, rfl, ⟨s2, rfl, hs⟩, hW.sub (List.sublist_append_right _ _)⟩

set_option maxRecDepth 10000 in
/-- slices.Index[[]int,int] -/
theorem g_Index (aa : Option Addr) (an ac : Nat) (l : List Int) (x : Int) (hl : l.length ≤ 4294967296) : GivesR Tryz.prog 125 [.slice aa an ac, .int .i64 x].toArray (fun w => RdI w ⟨aa, an, ac⟩ l) (.int .i64 (idxI l x)) := by
 refine givesR_of Tryz.func125 rfl (bs := [.slice aa an ac, .int .i64 x, undef, undef, undef, undef, undef, undef, undef, undef, undef, undef, undef, undef, undef, undef, undef, undef, undef]) rfl ?_
 intro w hP hW
 have hn : an = l.length := hP.len
 refine c_seq (c_reg ?_)
 refine bI ?_
 refine l_end (n_then (c_seq (c_seq (c_reg ?_))))
 refine aS ?_
 refine l_val (r_lenSlice Tryz.underlying27 rfl rfl) rfl rfl ?_
 refine aI ?_
 refine l_end (n_then (c_block ?_))
 refine c_loop (fun (i : Nat) (j : Nat → Value) => [.slice aa an ac, .int .i64 x, j 2, j 3, j 4, j 5, .slice aa an ac, .int .i64 (an : Int), .int .i64 (i : Int), j 9, j 10, j 11, j 12, j 13, j 14, j 15, j 16, j 17, j 18]) (fun (i : Nat) => []) (fun (i : Nat) => i ≤ an ∧ ∀ k, k < i → at_ l k ≠ x) (fun (i : Nat) => an - i) 0 (by kernel_rfl) hW ⟨by omega, all_zero⟩ ?_
 intro i j W hx hW
 refine c_seq (c_reg ?_)
 refine l_val (r_lssN rfl rfl rfl rfl) rfl rfl ?_
 refine l_split ?_ ?_
 ·intro hc1
  replace hc1 := of_decide_eq_true hc1
  obtain ⟨b0, o0, ha, hc⟩ := hP.ptr (by omega)
  simp only at ha
  subst ha
  refine l_end (n_then (c_seq ?_))
  refine c_true rfl ?_
  refine c_skip (n_then (c_seq (c_block (c_seq (c_reg ?_)))))
  refine aI ?_
  refine bI ?_
  refine l_end (n_then (c_seq (c_reg ?_)))
  refine aI ?_
  refine aS ?_
  refine aI ?_
  refine l_val (r_indexAddrSl2 (n := i) Tryz.underlying27 tyC3.size rfl rfl rfl (by omega)) rfl rfl ?_
  refine l_loadF hW tyC3 (v := .int .i64 (at_ l (i))) (hc (i) (by omega)) rfl rfl rfl rfl ?_
  refine l_val (r_eql rfl rfl rfl rfl) rfl rfl ?_
  refine l_split ?_ ?_
  ·intro hc2
   replace hc2 := of_decide_eq_true hc2
   refine l_end (n_then ?_)
   refine c_true rfl ?_
   refine c_seq (c_reg ?_)
   refine aI ?_
   refine bI ?_
   refine l_end (n_then (c_ret (r_block (r_then (r_then (r_block (r_then ?_)))))))
   refine ret_tmp (v := .int .i64 (idxI l x)) rfl ?_ ⟨rfl, hW.below⟩
   rw [idxI_at (i := i) (by omega) hc2.symm hx.2]; rfl
  ·intro hc2
   replace hc2 := of_decide_eq_false hc2
   refine l_end (n_then ?_)
   refine c_false rfl ?_
   refine c_skip (n_block (n_then (c_reg ?_)))
   refine l_val (r_addN (n := 1) rfl rfl rfl (by omega)) rfl rfl ?_
   refine aI ?_
   refine l_end (n_then ?_)
   exact loop_next (i + 1) (by kernel_rfl) hW ⟨by omega, all_step hx.2 (fun e => hc2 e.symm)⟩ (by omega)
 ·intro hc1
  replace hc1 := of_decide_eq_false hc1
  refine l_end (n_then (c_seq ?_))
  refine c_false rfl ?_
  refine c_exit (x_then (x_then ?_))
  refine x_hit ?_
  refine n_then (c_seq (c_reg ?_))
  refine bI ?_
  refine l_end (n_then (c_ret ?_))
  refine ret_tmp (v := .int .i64 (idxI l x)) rfl ?_ ⟨rfl, hW.below⟩
  rw [idxI_no hn fun k hk => hx.2 k (by omega)]; rfl

set_option maxRecDepth 10000 in
/-- slices.Contains[[]int,int] -/
theorem g_Contains (aa : Option Addr) (an ac : Nat) (l : List Int) (x : Int) (hl : l.length ≤ 4294967296) : GivesR Tryz.prog 79 [.slice aa an ac, .int .i64 x].toArray (fun w => RdI w ⟨aa, an, ac⟩ l) (.bool (l.contains x)) := by
 refine givesR_of Tryz.func79 rfl (bs := [.slice aa an ac, .int .i64 x, undef, undef, undef, undef, undef, undef, undef]) rfl ?_
 intro w hP hW
 refine c_seq (c_reg ?_)
 refine bB ?_
 refine l_end (n_then (c_seq (c_reg ?_)))
 refine aS ?_
 refine aI ?_
 refine l_callR hW (g_Index aa an ac l x hl) en125 (RdI.past hP hW.below) rfl rfl rfl rfl ?_
 intro W hW
 refine l_val (r_geq rfl rfl rfl rfl) rfl rfl ?_
 refine bB ?_
 refine l_end (n_then (c_ret ?_))
 refine ret_tmp (v := .bool (l.contains x)) rfl ?_ ⟨rfl, hW.below⟩
 exact congrArg Value.bool (idxI_has l x)

end Go.Proofs.YtoegpalacppllaaGreat

/- A query, by the program. -/
namespace Go.Proofs.YtoegpalacppllaaGreat
open Go.RowKit Pl
open Tr Hn
set_option maxRecDepth 10000 in
/-- headend/trace.Ask -/
theorem g_Ask (b : Bo) (t : Sl) (ra : Option Addr) (rn rc : Nat) (l : List (Int × Int)) (f : Int) (hl : b.l.length ≤ 100) (hq : l.length ≤ 100) : GivesX Tryz.prog 34 [.agg (boC b t).toArray, .slice ra rn rc, .int .i64 f].toArray (fun w => RdI w t b.l ∧ RdB w ⟨ra, rn, rc⟩ l) (askV b l f) := by
 refine givesX_of Tryz.func34 rfl (bs := [.agg (boC b t).toArray, .slice ra rn rc, .int .i64 f, undef, undef, undef, undef, undef, undef, undef, undef, undef, undef, undef, undef, undef, undef, undef, undef, undef, undef, undef, undef, undef, undef, undef, undef, undef, undef, undef, undef, undef, undef, undef, undef, undef, undef, undef, undef, undef, undef, undef, undef, undef, undef, undef, undef, undef, undef, undef, undef, undef, undef, undef, undef, undef, undef]) rfl ?_
 intro w hP hW
 have hn : rn = l.length := hP.2.len
 refine c_seq (c_reg ?_)
 refine xB hW ?_
 intro g1 W hW
 refine l_alloc hW tyZ31 rfl rfl rfl ?_
 intro g2 W hW
 refine bB ?_
 refine bI ?_
 refine l_end (n_then (c_seq (c_seq (c_reg ?_))))
 refine dA hW 1 tyA31 ?_
 refine l_callR hW (g_CheckBox b t hl) en36 (hP.1.past hW.below) rfl rfl rfl rfl ?_
 intro W hW
 refine bI ?_
 refine l_end (n_then (c_seq (c_reg ?_)))
 refine aI ?_
 refine l_val (r_neq rfl rfl rfl rfl) rfl rfl ?_
 refine l_split ?_ ?_
 ·intro hc1
  replace hc1 := of_decide_eq_true hc1
  refine l_end (n_then ?_)
  refine c_true rfl ?_
  refine c_seq (c_reg ?_)
  refine l_val (r_build (ps := []) (bld31_) rfl rfl) rfl rfl ?_
  refine aI ?_
  refine sA hW 0 tyA31 ?_
  intro W hW
  refine bB ?_
  refine bI ?_
  refine l_end (n_then (c_ret (r_then ?_)))
  refine ret_cell_tmp2 hW 0 tyA31 rfl rfl rfl (by first | rfl | exact kc_len _ | exact kcf_len _ | exact boC_len _ _ | (simp; done)) rfl rfl ?_
  exact ⟨_, _, rfl, askV_no (askE_b hc1) (hc1) z31_no, hW.sub (List.nil_sublist _)⟩
 ·intro hc1
  replace hc1 := of_decide_eq_false hc1
  obtain ⟨hs, hu, hb1, hb2, hb3, hb4, hb5, hb6, hb7, hb8, hb9, hb10⟩ := chkB_ok hc1
  refine l_end (n_then ?_)
  refine c_false rfl ?_
  refine c_skip (n_then (c_seq (c_reg ?_)))
  refine l_val (r_fieldAddr 0 Tryz.underlying31 rfl tyA26.size rfl rfl rfl) rfl rfl ?_
  refine l_loadP hW 1 tyA26 rfl rfl rfl rfl rfl (by first | rfl | omega | (simp; done) | (simp; omega)) rfl ?_
  refine aS ?_
  refine l_callX hW (g_psubsets b.s ra rn rc l hs hq) en83 (hP.2.past hW.below) rfl rfl rfl rfl ?_
  rintro _ BsS W ⟨tS, ss, rfl, hG⟩ hW
  refine l_val (r_move (v := .tuple _) rfl rfl) rfl rfl ?_
  refine l_val (r_extract (v := .slice _ _ _) rfl rfl rfl) rfl rfl ?_
  refine l_val (r_extract (v := .int _ _) rfl rfl rfl) rfl rfl ?_
  refine bS ?_
  refine bI ?_
  refine l_end (n_then (c_seq (c_block (c_seq (c_reg ?_)))))
  refine aI ?_
  refine l_val (r_neq rfl rfl rfl rfl) rfl rfl ?_
  refine l_split ?_ ?_
  ·intro hc2
   replace hc2 := of_decide_eq_true hc2
   refine bB ?_
   refine l_end (n_then ?_)
   refine c_true rfl ?_
   refine c_seq (c_reg ?_)
   refine l_val (r_build (ps := []) (bld31_) rfl rfl) rfl rfl ?_
   refine aI ?_
   refine sA hW 0 tyA31 ?_
   intro W hW
   refine bB ?_
   refine bI ?_
   refine l_end (n_then (c_ret (r_block (r_then ?_))))
   refine ret_cell_tmp2 hW 0 tyA31 rfl rfl rfl (by first | rfl | exact kc_len _ | exact kcf_len _ | exact boC_len _ _ | (simp; done)) rfl rfl ?_
   exact ⟨_, _, rfl, askV_no (askE_s hc1 hc2) (hc2) z31_no, hW.sub (List.nil_sublist _)⟩
  ·intro hc2
   replace hc2 := of_decide_eq_false hc2
   obtain ⟨hq2, hbb⟩ := subsE_ok hc2
   have hz0 : subsE b.s l = 0 := by omega
   refine bB ?_
   refine l_end (n_then ?_)
   refine c_false rfl ?_
   refine c_seq (c_reg ?_)
   refine aI ?_
   refine l_val (r_lss rfl rfl rfl rfl) rfl rfl ?_
   refine l_split ?_ ?_
   ·intro hc3
    replace hc3 := of_decide_eq_true hc3
    refine aB ?_
    refine lN ?_
    refine lN ?_
    refine lN ?_
    refine lN ?_
    refine kB ?_
    refine bB ?_
    refine l_end (n_then ?_)
    refine c_true rfl ?_
    refine c_seq (c_reg ?_)
    refine l_val (r_build (ps := []) (bld31_) rfl rfl) rfl rfl ?_
    refine sA hW 0 tyA31 ?_
    intro W hW
    refine bB ?_
    refine bI ?_
    refine l_end (n_then (c_ret (r_block (r_then ?_))))
    refine ret_cell_tmp2 hW 0 tyA31 rfl rfl rfl (by first | rfl | exact kc_len _ | exact kcf_len _ | exact boC_len _ _ | (simp; done)) rfl rfl ?_
    exact ⟨_, _, rfl, askV_no (askE_f hc1 hc2 (by omega)) (by decide) z31_no, hW.sub (List.nil_sublist _)⟩
   ·intro hc3
    replace hc3 := of_decide_eq_false hc3
    refine aB ?_
    refine gI ?_
    refine l_valG (r_move (v := .slice _ _ _) rfl rfl) (by kernel_rfl) rfl ?_
    refine l_valG (r_lenSlice Tryz.underlying33 rfl rfl) (by kernel_rfl) rfl ?_
    refine l_valG (r_gtr rfl rfl rfl rfl) (by kernel_rfl) rfl ?_
    refine l_split ?_ ?_
    ·intro hc4
     replace hc4 := of_decide_eq_true hc4
     refine kB ?_
     refine bB ?_
     refine l_end (n_then ?_)
     refine c_true rfl ?_
     refine c_seq (c_reg ?_)
     refine l_val (r_build (ps := []) (bld31_) rfl rfl) rfl rfl ?_
     refine sA hW 0 tyA31 ?_
     intro W hW
     refine bB ?_
     refine bI ?_
     refine l_end (n_then (c_ret (r_block (r_then ?_))))
     refine ret_cell_tmp2 hW 0 tyA31 rfl rfl rfl (by first | rfl | exact kc_len _ | exact kcf_len _ | exact boC_len _ _ | (simp; done)) rfl rfl ?_
     exact ⟨_, _, rfl, askV_no (askE_f hc1 hc2 (by omega)) (by decide) z31_no, hW.sub (List.nil_sublist _)⟩
    ·intro hc4
     replace hc4 := of_decide_eq_false hc4
     refine kB ?_
     refine bB ?_
     refine l_end (n_then ?_)
     refine c_false rfl ?_
     refine c_seq (c_reg ?_)
     refine l_val (r_fieldAddr 26 Tryz.underlying31 rfl tyC3.size rfl rfl rfl) rfl rfl ?_
     refine dC hW 1 tyC3 ?_
     refine l_val (r_eql rfl rfl rfl rfl) rfl rfl ?_
     refine l_split ?_ ?_
     ·intro hc5
      replace hc5 := of_decide_eq_true hc5
      refine bB ?_
      refine l_end (n_then ?_)
      refine c_true rfl ?_
      refine c_seq (c_reg ?_)
      refine l_val (r_build (ps := []) (bld31_) rfl rfl) rfl rfl ?_
      refine sA hW 0 tyA31 ?_
      intro W hW
      refine bB ?_
      refine bI ?_
      refine l_end (n_then (c_ret (r_block (r_then ?_))))
      refine ret_cell_tmp2 hW 0 tyA31 rfl rfl rfl (by first | rfl | exact kc_len _ | exact kcf_len _ | exact boC_len _ _ | (simp; done)) rfl rfl ?_
      exact ⟨_, _, rfl, askV_no (askE_a hc1 hc2 (by omega) hc5) (by decide) z31_no, hW.sub (List.nil_sublist _)⟩
     ·intro hc5
      replace hc5 := of_decide_eq_false hc5
      refine bB ?_
      refine l_end (n_then ?_)
      refine c_false rfl ?_
      refine c_skip (n_block (n_then (c_seq (c_reg ?_))))
      refine l_val (r_fieldAddr 6 Tryz.underlying31 rfl tyC27.size rfl rfl rfl) rfl rfl ?_
      refine dC hW 1 tyC27 ?_
      refine l_callX hW (g_Clone t.a t.n t.c b.l (by omega)) en60 (hP.1.past hW.below) rfl rfl rfl rfl ?_
      rintro _ BsC W ⟨s2, rfl, hN⟩ hW
      refine l_val (r_fieldAddr 6 Tryz.underlying31 rfl tyC27.size rfl rfl rfl) rfl rfl ?_
      refine l_storeC hW 1 tyC27 (v := s2.v) rfl rfl rfl rfl rfl rfl (by rw [boC_len]; decide) rfl ?_
      intro W hW
      replace hW := (show Cl _ (([_, ⟨_, (boC b t).set 6 s2.v, _⟩] ++ BsS) ++ BsC) _ from hW)
      rw [boC_setL] at hW
      refine l_end (n_then (c_seq (c_reg ?_)))
      refine dA hW 1 tyA31 ?_
      refine aS ?_
      have hgl : ∀ m ∈ (mems b.s l), m.length ≤ 4294967296 := fun m hm => by
       obtain ⟨y, -, rfl⟩ := List.mem_map.1 hm
       have h1 := mem_len b.s y.1 y.2 (p2 b.s.d.toNat)
       have h2 := p2_le (n := b.s.d.toNat) (by have := schB_iff.1 hs; omega)
       omega
      refine l_callX hW (g_opens b s2 tS.a tS.n tS.c ss (mems b.s l) (users_pair hu) hl (by rw [mems_len]; exact hq) hgl) en85 ⟨hN.rep.at hW (List.sublist_append_right _ _), (hG hz0).at hW ((List.sublist_append_right [_, _] BsS).trans (List.sublist_append_left _ _))⟩ rfl rfl rfl rfl ?_
      rintro _ BsO W ⟨ao, co, rfl, hO⟩ hW
      refine aI ?_
      replace hW := (show Cl _ (_ :: _ :: ((BsS ++ BsC) ++ BsO)) _ from hW).perm (List.Perm.swap _ _ _)
      have heq : (opl b.l (mems b.s l) (mems b.s l).length) = opens b l l.length := by rw [mems_len]; exact opl_opens hu
      refine l_callS (B := [_]) (L := _ :: ((BsS ++ BsC) ++ BsO)) (g_ask b s2 g1 ao (mems b.s l).length co (opl b.l (mems b.s l) (mems b.s l).length) f (by omega) (by omega) (by omega) (by omega) (by omega) (by omega) (by omega) (by omega) (by rw [heq, opens_len]; exact hq)) hW en84 (fun W hC => hO.repT _ _ (hC.sub ((List.sublist_append_right _ _).cons _))) rfl rfl rfl rfl ?_
      rintro _ _ W ⟨rfl, rfl⟩ hW
      replace hW := (show Cl _ (_ :: _ :: ((BsS ++ BsC) ++ BsO)) _ from hW).perm (List.Perm.swap _ _ _)
      rw [heq] at hW ⊢
      refine bB ?_
      refine l_end (n_then (c_seq (c_reg ?_)))
      refine dA hW 1 tyA31 ?_
      refine aB ?_
      refine sA hW 0 tyA31 ?_
      intro W hW
      refine bB ?_
      refine bI ?_
      refine l_end (n_then (c_ret ?_))
      refine ret_cell_tmp2 hW 0 tyA31 rfl rfl rfl (by first | rfl | exact kc_len _ | exact kcf_len _ | exact boC_len _ _ | (simp; done)) rfl rfl ?_
      exact ⟨_, _, rfl, askV_yes (askE_0 hc1 hc2 (by omega) hc5) (by rw [askd, after_l]; exact hN), (show Cl _ (_ :: _ :: ((BsS ++ BsC) ++ BsO)) _ from hW).sub ((((List.sublist_append_right BsS BsC).trans (List.sublist_append_left _ BsO)).cons _).cons _)⟩

end Go.Proofs.YtoegpalacppllaaGreat

/- Halves, by the program. -/
namespace Go.Proofs.YtoegpalacppllaaGreat
open Go.RowKit Pl
open Tr Hn
set_option maxRecDepth 10000 in
/-- headend/trace.halves -/
theorem g_halves (aa : Option Addr) (an ac : Nat) (l : List Int) (hl : l.length ≤ 4294967296) : GivesX Tryz.prog 82 [.slice aa an ac].toArray (fun w => RdI w ⟨aa, an, ac⟩ l) (fun v Bs => ∃ s0 s1 : Sl, v = .agg [s0.v, s1.v].toArray ∧ NewI s0 (l.take (halfN l)) Bs ∧ NewI s1 (l.drop (halfN l)) Bs) := by
 refine givesX_of Tryz.func82 rfl (bs := [.slice aa an ac, undef, undef, undef, undef, undef, undef, undef, undef, undef, undef, undef, undef, undef, undef, undef, undef]) rfl ?_
 intro w hP hW
 have hn : an = l.length := hP.len
 have hle := hP.ok.le
 simp only at hle
 refine c_seq (c_reg ?_)
 refine l_alloc hW tyZ146 rfl rfl rfl ?_
 intro g1 W hW
 refine l_end (n_then (c_seq (c_reg ?_)))
 refine aS ?_
 refine l_val (r_lenSlice Tryz.underlying27 rfl rfl) rfl rfl ?_
 refine l_val (r_addN (n := 1) rfl rfl rfl (by omega)) rfl rfl ?_
 refine l_val (r_quoN (n := 2) rfl rfl rfl (by omega) (by omega)) rfl rfl ?_
 refine bI ?_
 refine l_end (n_then (c_seq ?_))
 refine c_regM hW [] [.q, .q, .q, .mk 0, .q, .q, .q, .mk 1, .tail, .tail] [⟨11, fun _ v Bs => ∃ s : Sl, v = s.v ∧ NewI s (l.take ((an + 1) / 2)) Bs⟩, ⟨15, fun _ v Bs => ∃ s : Sl, v = s.v ∧ NewI s (l.drop ((an + 1) / 2)) Bs⟩] [[], []] [3, 7] [0, 0, 3, 7, 0, 0, 48, 127, 255, 511] (by kernel_rfl) (by kernel_rfl) rfl (by kernel_rfl) ?_
 refine yS ?_
 refine yI ?_
 refine y_val (r_sliceTo Tryz.underlying27 tyC3.size rfl rfl rfl (by omega) hP.ok.nil) rfl rfl ?_
 refine y_callX 0 (g_Clone ((⟨aa, (an + 1) / 2, ac⟩ : Sl)).a ((⟨aa, (an + 1) / 2, ac⟩ : Sl)).n ((⟨aa, (an + 1) / 2, ac⟩ : Sl)).c (l.take ((an + 1) / 2)) (by simp only [List.length_take]; omega)) en60 rfl rfl (fun L2 w hs hC => (RdI.past hP hC.below).to (k := (an + 1) / 2) (by simp only; omega)) rfl rfl ?_
 refine yS ?_
 refine yI ?_
 refine y_val (r_sliceFrom (s := ⟨aa, an, ac⟩) Tryz.underlying27 tyC3.size rfl rfl rfl (by simp only; omega) hP.ok) rfl rfl ?_
 refine y_callX 1 (g_Clone (Sl.from ⟨aa, an, ac⟩ ((an + 1) / 2)).a (Sl.from ⟨aa, an, ac⟩ ((an + 1) / 2)).n (Sl.from ⟨aa, an, ac⟩ ((an + 1) / 2)).c (l.drop ((an + 1) / 2)) (by simp only [List.length_drop]; omega)) en60 rfl rfl (fun L2 w hs hC => (RdI.past hP hC.below).from (k := (an + 1) / 2) (by simp only; omega)) rfl rfl ?_
 refine y_tail ?_
 refine y_made ?_
 rintro _ Bs1 ⟨s0, rfl, hs0⟩
 refine y_made ?_
 rintro _ Bs3 ⟨s1, rfl, hs1⟩
 intro W hW
 replace hW := hW.perm perm2
 refine l_val (r_build (ps := [(0, .slice _ _ _), (1, .slice _ _ _)]) (bld146_0_1 _ _ _ _ _ _) rfl rfl) rfl rfl ?_
 refine sA hW 0 tyA146 ?_
 intro W hW
 refine l_end (n_then (c_ret ?_))
 refine rC hW 0 tyA146 ?_
 exact ⟨_, Bs3 ++ Bs1, rfl, ⟨s0, s1, rfl, by rw [halfN, ← hn]; exact hs0.sub (List.sublist_append_right _ _), by rw [halfN, ← hn]; exact hs1.sub (List.sublist_append_left _ _)⟩, hW.drop 1⟩

end Go.Proofs.YtoegpalacppllaaGreat

/- One group, by the program. -/
namespace Go.Proofs.YtoegpalacppllaaGreat
open Go.RowKit Pl
open Tr Hn
set_option maxRecDepth 10000 in
/-- headend/trace.CheckHunt$1 -/
theorem g_fit (aa : Option Addr) (an ac : Nat) (l : List Int) (e : Bool) (h : Hu) (pa : Option Addr) (pn pc : Nat) (r q : Sl) (pre : List Int) (un mc : Nat) (gl gs gm gh : Nat) (lv : Int) (hlv : lv = h.users - (pre.length : Int)) (hu : h.users = (un : Int)) (hu1 : un ≤ 64) (hl : l.length ≤ 4294967296) (hp : pre.length ≤ 4294967296) : GivesS Tryz.prog 88 [.slice aa an ac, .bool e, .pointer (some ⟨gh, 0, none⟩), .pointer (some ⟨gs, 0, none⟩), .pointer (some ⟨gl, 0, none⟩)].toArray (fun b L => RdS b L ⟨aa, an, ac⟩ l) [⟨gl, [.int .i64 lv], 3⟩, ⟨gs, [.slice (some ⟨gm, 0, none⟩) un mc], 155⟩, ⟨gm, marks (pre) un, 4⟩, ⟨gh, [.int .i64 h.users, .slice pa pn pc, .slice r.a r.n r.c, .slice q.a q.n q.c, .int .i64 h.rounds], 69⟩] (fun v B => ∃ s, v = .bool (fitB h.users pre l e) ∧ B = [⟨gl, [.int .i64 (h.users - ((s).length : Int))], 3⟩, ⟨gs, [.slice (some ⟨gm, 0, none⟩) un mc], 155⟩, ⟨gm, marks (s) un, 4⟩, ⟨gh, [.int .i64 h.users, .slice pa pn pc, .slice r.a r.n r.c, .slice q.a q.n q.c, .int .i64 h.rounds], 69⟩] ∧ (fitB h.users pre l e = true → s = pre ++ l)) := by
 refine givesS_of Tryz.func88 rfl (bs := [.slice aa an ac, .bool e, .pointer (some ⟨gh, 0, none⟩), .pointer (some ⟨gs, 0, none⟩), .pointer (some ⟨gl, 0, none⟩), undef, undef, undef, undef, undef, undef, undef, undef, undef, undef, undef, undef, undef, undef, undef, undef, undef, undef, undef, undef, undef, undef, undef, undef, undef, undef, undef, undef, undef, undef, undef, undef, undef, undef, undef, undef, undef, undef, undef, undef, undef, undef, undef, undef, undef, undef, undef, undef, undef, undef, undef]) rfl ?_
 intro b L w hP hW
 have hn : an = l.length := (hP w (hW.sub (List.sublist_append_right _ _))).len
 refine c_seq (c_reg ?_)
 refine bB ?_
 refine l_end (n_then (c_seq (c_seq (c_reg ?_))))
 refine aS ?_
 refine l_val (r_lenSlice Tryz.underlying27 rfl rfl) rfl rfl ?_
 refine aI ?_
 refine l_end (n_then (c_block ?_))
 refine c_loop (fun (i : Nat) (j : Nat → Value) => [.slice aa an ac, .bool e, .pointer (some ⟨gh, 0, none⟩), .pointer (some ⟨gs, 0, none⟩), .pointer (some ⟨gl, 0, none⟩), j 5, j 6, j 7, j 8, j 9, .slice aa an ac, .int .i64 (an : Int), .int .i64 (i : Int), j 13, j 14, j 15, j 16, j 17, j 18, j 19, j 20, j 21, j 22, j 23, j 24, j 25, j 26, j 27, j 28, j 29, j 30, j 31, j 32, j 33, j 34, j 35, j 36, j 37, j 38, j 39, j 40, j 41, j 42, j 43, j 44, j 45, j 46, j 47, j 48, j 49, j 50, j 51, j 52, j 53, j 54, j 55]) (fun (i : Nat) => [⟨gl, [.int .i64 (h.users - ((pre ++ l.take i).length : Int))], 3⟩, ⟨gs, [.slice (some ⟨gm, 0, none⟩) un mc], 155⟩, ⟨gm, marks (pre ++ l.take i) un, 4⟩, ⟨gh, [.int .i64 h.users, .slice pa pn pc, .slice r.a r.n r.c, .slice q.a q.n q.c, .int .i64 h.rounds], 69⟩] ++ L) (fun (i : Nat) => i ≤ an ∧ ∀ k, k < i → okI h.users pre l k) (fun (i : Nat) => an - i) 0 (by kernel_rfl) (by subst hlv; simpa using hW) ⟨by omega, all_zero⟩ ?_
 intro i j W hx hW
 have hpl := pre_len (pre := pre) (l := l) (i := i) (by omega)
 refine c_seq (c_reg ?_)
 refine l_val (r_lssN rfl rfl rfl rfl) rfl rfl ?_
 refine l_split ?_ ?_
 ·intro hc1
  replace hc1 := of_decide_eq_true hc1
  have hR := hP W (hW.sub (List.sublist_append_right _ _))
  obtain ⟨b0, o0, ha, hd⟩ := hR.ptr (by omega)
  simp only at ha
  subst ha
  refine l_end (n_then (c_seq ?_))
  refine c_true rfl ?_
  refine c_skip (n_then (c_seq (c_block (c_seq (c_reg ?_)))))
  refine aI ?_
  refine l_val (r_indexAddrSl2 (n := i) Tryz.underlying27 tyC3.size rfl rfl rfl (by omega)) rfl rfl ?_
  refine l_loadW tyC3 (v := .int .i64 (at_ l (i))) (hd (i) (by omega)) (by kernel_rfl) rfl rfl rfl ?_
  refine bI ?_
  refine bI ?_
  refine l_end (n_then (c_seq (c_seq (c_reg ?_))))
  refine aI ?_
  refine l_val (r_lss rfl rfl rfl rfl) rfl rfl ?_
  refine l_split ?_ ?_
  ·intro hc2
   replace hc2 := of_decide_eq_true hc2
   refine aB ?_
   refine lN ?_
   refine lN ?_
   refine lN ?_
   refine lN ?_
   refine kB ?_
   refine aB ?_
   refine lN ?_
   refine lN ?_
   refine lN ?_
   refine lN ?_
   refine kB ?_
   refine aB ?_
   refine lN ?_
   refine lN ?_
   refine lN ?_
   refine lN ?_
   refine lN ?_
   refine lN ?_
   refine lN ?_
   refine lN ?_
   refine lN ?_
   refine lN ?_
   refine lN ?_
   refine kB ?_
   refine l_end (n_then ?_)
   refine c_true rfl ?_
   refine c_seq (c_reg ?_)
   refine bB ?_
   refine l_end (n_then (c_ret (r_then (r_block (r_then (r_then (r_block (r_then ?_))))))))
   refine ret_tmp (v := .bool _) rfl rfl ?_
   have hF := fit_no (l := l) (pre := pre) (e := e) (n := h.users) (i := i) (by omega) (by first | exact .inl (by omega) | exact .inr (.inl (by omega)) | exact .inr (.inr (.inl (by assumption))) | exact .inr (.inr (.inr ⟨by omega, by omega⟩)))
   exact ⟨_, _, rfl, ⟨pre ++ l.take i, by rw [hF], rfl, fun h => by rw [hF] at h; cases h⟩, hW⟩
  ·intro hc2
   replace hc2 := of_decide_eq_false hc2
   refine aB ?_
   refine gI ?_
   refine l_valG (r_fieldAddr 0 Tryz.underlying69 rfl tyC3.size rfl rfl rfl) (by kernel_rfl) rfl ?_
   refine dG hW 3 tyC3 ?_
   refine l_valG (r_geq rfl rfl rfl rfl) (by kernel_rfl) rfl ?_
   refine l_split ?_ ?_
   ·intro hc3
    replace hc3 := of_decide_eq_true hc3
    refine kB ?_
    refine aB ?_
    refine lN ?_
    refine lN ?_
    refine lN ?_
    refine lN ?_
    refine kB ?_
    refine aB ?_
    refine lN ?_
    refine lN ?_
    refine lN ?_
    refine lN ?_
    refine lN ?_
    refine lN ?_
    refine lN ?_
    refine lN ?_
    refine lN ?_
    refine lN ?_
    refine lN ?_
    refine kB ?_
    refine l_end (n_then ?_)
    refine c_true rfl ?_
    refine c_seq (c_reg ?_)
    refine bB ?_
    refine l_end (n_then (c_ret (r_then (r_block (r_then (r_then (r_block (r_then ?_))))))))
    refine ret_tmp (v := .bool _) rfl rfl ?_
    have hF := fit_no (l := l) (pre := pre) (e := e) (n := h.users) (i := i) (by omega) (by first | exact .inl (by omega) | exact .inr (.inl (by omega)) | exact .inr (.inr (.inl (by assumption))) | exact .inr (.inr (.inr ⟨by omega, by omega⟩)))
    exact ⟨_, _, rfl, ⟨pre ++ l.take i, by rw [hF], rfl, fun h => by rw [hF] at h; cases h⟩, hW⟩
   ·intro hc3
    replace hc3 := of_decide_eq_false hc3
    refine kB ?_
    refine aB ?_
    refine dG hW 1 tyC155 ?_
    refine gI ?_
    refine l_valG (r_indexAddrSlZ Tryz.underlying155 tyC4.size rfl rfl rfl (by omega) (by omega)) (by kernel_rfl) rfl ?_
    refine l_loadCG hW 2 tyC4 (v := .bool ((pre ++ l.take i).contains (at_ l i))) (by kernel_rfl) rfl rfl rfl rfl (marks_get (by omega) (by omega)) ?_
    refine l_split ?_ ?_
    ·intro hc4
     refine kB ?_
     refine aB ?_
     refine lN ?_
     refine lN ?_
     refine lN ?_
     refine lN ?_
     refine lN ?_
     refine lN ?_
     refine lN ?_
     refine lN ?_
     refine lN ?_
     refine lN ?_
     refine lN ?_
     refine kB ?_
     refine l_end (n_then ?_)
     refine c_true rfl ?_
     refine c_seq (c_reg ?_)
     refine bB ?_
     refine l_end (n_then (c_ret (r_then (r_block (r_then (r_then (r_block (r_then ?_))))))))
     refine ret_tmp (v := .bool _) rfl rfl ?_
     have hF := fit_no (l := l) (pre := pre) (e := e) (n := h.users) (i := i) (by omega) (by first | exact .inl (by omega) | exact .inr (.inl (by omega)) | exact .inr (.inr (.inl (by assumption))) | exact .inr (.inr (.inr ⟨by omega, by omega⟩)))
     exact ⟨_, _, rfl, ⟨pre ++ l.take i, by rw [hF], rfl, fun h => by rw [hF] at h; cases h⟩, hW⟩
    ·intro hc4
     refine kB ?_
     refine aB ?_
     refine gI ?_
     refine l_valG (r_gtrN (n := 0) rfl rfl rfl rfl) (by kernel_rfl) rfl ?_
     refine l_split ?_ ?_
     ·intro hc5
      replace hc5 := of_decide_eq_true hc5
      refine l_valG (r_move (v := .bool _) rfl rfl) (by kernel_rfl) rfl ?_
      refine gI ?_
      refine l_valG (r_move (v := .slice _ _ _) rfl rfl) (by kernel_rfl) rfl ?_
      refine gI ?_
      refine l_valG (r_subN (n := 1) rfl rfl rfl (by omega) (by omega)) (by kernel_rfl) rfl ?_
      refine l_valG (r_indexAddrSl2 (n := (i - 1)) Tryz.underlying27 tyC3.size rfl rfl rfl (by omega)) (by kernel_rfl) rfl ?_
      refine l_loadW tyC3 (v := .int .i64 (at_ l (i - 1))) (hd (i - 1) (by omega)) (by kernel_rfl) rfl rfl rfl ?_
      refine l_valG (r_lss rfl rfl rfl rfl) (by kernel_rfl) rfl ?_
      refine l_split ?_ ?_
      ·intro hc6
       replace hc6 := of_decide_eq_true hc6
       refine l_valG (r_pick (v := .bool _) rfl rfl rfl) (by kernel_rfl) rfl ?_
       refine kB ?_
       refine l_end (n_then ?_)
       refine c_true rfl ?_
       refine c_seq (c_reg ?_)
       refine bB ?_
       refine l_end (n_then (c_ret (r_then (r_block (r_then (r_then (r_block (r_then ?_))))))))
       refine ret_tmp (v := .bool _) rfl rfl ?_
       have hF := fit_no (l := l) (pre := pre) (e := e) (n := h.users) (i := i) (by omega) (by first | exact .inl (by omega) | exact .inr (.inl (by omega)) | exact .inr (.inr (.inl (by assumption))) | exact .inr (.inr (.inr ⟨by omega, by omega⟩)))
       exact ⟨_, _, rfl, ⟨pre ++ l.take i, by rw [hF], rfl, fun h => by rw [hF] at h; cases h⟩, hW⟩
      ·intro hc6
       replace hc6 := of_decide_eq_false hc6
       refine l_valG (r_pick (v := .bool _) rfl rfl rfl) (by kernel_rfl) rfl ?_
       refine kB ?_
       refine l_end (n_then ?_)
       refine c_false rfl ?_
       refine c_skip (n_then (c_seq (c_reg ?_)))
       refine dC hW 1 tyC155 ?_
       refine aI ?_
       refine l_val (r_indexAddrSlZ Tryz.underlying155 tyC4.size rfl rfl rfl (by omega) (by omega)) rfl rfl ?_
       refine l_storeC hW 2 tyC4 (v := .bool _) rfl rfl rfl rfl rfl rfl (by rw [marks_len]; omega) rfl ?_
       intro W hW
       refine l_end (n_then (c_reg ?_))
       refine dC hW 0 tyC3 ?_
       refine l_val (r_subZ rfl rfl rfl (by omega)) rfl rfl ?_
       refine l_storeC hW 0 tyC3 (v := .int _ _) rfl rfl rfl rfl rfl rfl (by first | rfl | omega | (simp; done) | (simp; omega)) rfl ?_
       intro W hW
       refine l_end (n_block (n_then (c_reg ?_)))
       refine l_val (r_addN (n := 1) rfl rfl rfl (by omega)) rfl rfl ?_
       refine aI ?_
       refine l_end (n_then ?_)
       have hsn := take_snoc (pre := pre) (l := l) (i := i) (by omega)
       have hec : h.users - ((pre ++ l.take (i + 1)).length : Int) = h.users - ((pre ++ l.take i).length : Int) - 1 := by rw [hsn, List.length_append]; simp; omega
       exact loop_next (i + 1) (by kernel_rfl) (by rw [hec, hsn, ← marks_set (by omega) (by omega)]; exact hW) ⟨by omega, all_step hx.2 (okI_of (by omega) (by omega) (by assumption) (by omega))⟩ (by omega)
     ·intro hc5
      replace hc5 := of_decide_eq_false hc5
      refine l_valG (r_move (v := .bool _) rfl rfl) (by kernel_rfl) rfl ?_
      refine lN ?_
      refine lN ?_
      refine lN ?_
      refine lN ?_
      refine lN ?_
      refine lN ?_
      refine lN ?_
      refine l_valG (r_pick (v := .bool _) rfl rfl rfl) (by kernel_rfl) rfl ?_
      refine kB ?_
      refine l_end (n_then ?_)
      refine c_false rfl ?_
      refine c_skip (n_then (c_seq (c_reg ?_)))
      refine dC hW 1 tyC155 ?_
      refine aI ?_
      refine l_val (r_indexAddrSlZ Tryz.underlying155 tyC4.size rfl rfl rfl (by omega) (by omega)) rfl rfl ?_
      refine l_storeC hW 2 tyC4 (v := .bool _) rfl rfl rfl rfl rfl rfl (by rw [marks_len]; omega) rfl ?_
      intro W hW
      refine l_end (n_then (c_reg ?_))
      refine dC hW 0 tyC3 ?_
      refine l_val (r_subZ rfl rfl rfl (by omega)) rfl rfl ?_
      refine l_storeC hW 0 tyC3 (v := .int _ _) rfl rfl rfl rfl rfl rfl (by first | rfl | omega | (simp; done) | (simp; omega)) rfl ?_
      intro W hW
      refine l_end (n_block (n_then (c_reg ?_)))
      refine l_val (r_addN (n := 1) rfl rfl rfl (by omega)) rfl rfl ?_
      refine aI ?_
      refine l_end (n_then ?_)
      have hsn := take_snoc (pre := pre) (l := l) (i := i) (by omega)
      have hec : h.users - ((pre ++ l.take (i + 1)).length : Int) = h.users - ((pre ++ l.take i).length : Int) - 1 := by rw [hsn, List.length_append]; simp; omega
      exact loop_next (i + 1) (by kernel_rfl) (by rw [hec, hsn, ← marks_set (by omega) (by omega)]; exact hW) ⟨by omega, all_step hx.2 (okI_of (by omega) (by omega) (by assumption) (by omega))⟩ (by omega)
 ·intro hc1
  replace hc1 := of_decide_eq_false hc1
  refine l_end (n_then (c_seq ?_))
  refine c_false rfl ?_
  refine c_exit (x_then (x_then ?_))
  refine x_hit ?_
  refine n_then (c_seq (c_reg ?_))
  refine aB ?_
  refine l_split ?_ ?_
  ·intro hc7
   refine aB ?_
   refine lN ?_
   refine lN ?_
   refine lN ?_
   refine kB ?_
   refine bB ?_
   refine l_end (n_then (c_ret ?_))
   refine ret_tmp (v := .bool _) rfl rfl ?_
   have hF := fit_yes (l := l) (pre := pre) (n := h.users) (e := e) fun k hk => hx.2 k (by omega)
   exact ⟨_, _, rfl, ⟨pre ++ l.take i, by rw [hF, ← hn]; simp [*], rfl, fun _ => by rw [List.take_of_length_le (by omega)]⟩, hW⟩
  ·intro hc7
   refine aB ?_
   refine l_valG (r_move (v := .slice _ _ _) rfl rfl) (by kernel_rfl) rfl ?_
   refine l_valG (r_lenSlice Tryz.underlying27 rfl rfl) (by kernel_rfl) rfl ?_
   refine l_valG (r_gtrN (n := 0) rfl rfl rfl rfl) (by kernel_rfl) rfl ?_
   refine kB ?_
   refine bB ?_
   refine l_end (n_then (c_ret ?_))
   refine ret_tmp (v := .bool _) rfl rfl ?_
   have hF := fit_yes (l := l) (pre := pre) (n := h.users) (e := e) fun k hk => hx.2 k (by omega)
   exact ⟨_, _, rfl, ⟨pre ++ l.take i, by rw [hF, ← hn]; simp [*], rfl, fun _ => by rw [List.take_of_length_le (by omega)]⟩, hW⟩

end Go.Proofs.YtoegpalacppllaaGreat

/- Whether a hunt is valid, by the program. -/
namespace Go.Proofs.YtoegpalacppllaaGreat
open Go.RowKit Pl
open Tr Hn
set_option maxRecDepth 10000 in
/-- headend/trace.CheckHunt -/
theorem g_CheckHunt (h : Hu) (pa : Option Addr) (pn pc : Nat) (r q : Sl) (ss : List Sl) (hsm : Small h) (hfit : pn * 48 ≤ 140737488351232) : GivesR Tryz.prog 41 [.agg [.int .i64 h.users, .slice pa pn pc, .slice r.a r.n r.c, .slice q.a q.n q.c, .int .i64 h.rounds].toArray].toArray (fun w => RdHu w h ⟨pa, pn, pc⟩ r q ss) (.int .i64 (chkH h)) := by
 refine givesR_of Tryz.func41 rfl (bs := [.agg [.int .i64 h.users, .slice pa pn pc, .slice r.a r.n r.c, .slice q.a q.n q.c, .int .i64 h.rounds].toArray, undef, undef, undef, undef, undef, undef, undef, undef, undef, undef, undef, undef, undef, undef, undef, undef, undef, undef, undef, undef, undef, undef, undef, undef, undef, undef, undef, undef, undef, undef, undef, undef, undef, undef, undef, undef, undef, undef, undef, undef, undef, undef, undef, undef, undef, undef, undef, undef, undef, undef, undef, undef, undef, undef, undef, undef, undef, undef, undef, undef, undef, undef, undef, undef, undef, undef, undef, undef, undef, undef, undef]) rfl ?_
 intro w hP hW
 have hpn := hP.pn
 have hpl := hP.len
 simp only at hpn
 have hgl := hP.gl
 have hgs := hsm.sum
 have hone := hsm.one
 have hl1 := hone h.rest (by simp [groups])
 have hl2 := hone h.named (by simp [groups])
 refine c_seq (c_reg ?_)
 refine xB hW ?_
 intro g1 W hW
 refine bI ?_
 refine l_end (n_then (c_seq (c_seq (c_reg ?_))))
 refine l_val (r_fieldAddr 0 Tryz.underlying69 rfl tyC3.size rfl rfl rfl) rfl rfl ?_
 refine dC hW 0 tyC3 ?_
 refine l_val (r_lss rfl rfl rfl rfl) rfl rfl ?_
 refine l_split ?_ ?_
 ·intro hc1
  replace hc1 := of_decide_eq_true hc1
  refine aB ?_
  refine lN ?_
  refine lN ?_
  refine lN ?_
  refine kB ?_
  refine aB ?_
  refine lN ?_
  refine lN ?_
  refine lN ?_
  refine kB ?_
  refine aB ?_
  refine lN ?_
  refine lN ?_
  refine lN ?_
  refine kB ?_
  refine aB ?_
  refine lN ?_
  refine lN ?_
  refine lN ?_
  refine lN ?_
  refine kB ?_
  refine l_end (n_then ?_)
  refine c_true rfl ?_
  refine c_seq (c_reg ?_)
  refine bI ?_
  refine l_end (n_then (c_ret (r_then ?_)))
  refine ret_tmp (v := .int .i64 (chkH h)) rfl ?_ ⟨rfl, hW.below⟩
  rw [chkH_no (vb_bounds (by omega))]; rfl
 ·intro hc1
  replace hc1 := of_decide_eq_false hc1
  refine aB ?_
  refine l_valG (r_fieldAddr 0 Tryz.underlying69 rfl tyC3.size rfl rfl rfl) (by kernel_rfl) rfl ?_
  refine dG hW 0 tyC3 ?_
  refine l_valG (r_gtr rfl rfl rfl rfl) (by kernel_rfl) rfl ?_
  refine l_split ?_ ?_
  ·intro hc2
   replace hc2 := of_decide_eq_true hc2
   refine kB ?_
   refine aB ?_
   refine lN ?_
   refine lN ?_
   refine lN ?_
   refine kB ?_
   refine aB ?_
   refine lN ?_
   refine lN ?_
   refine lN ?_
   refine kB ?_
   refine aB ?_
   refine lN ?_
   refine lN ?_
   refine lN ?_
   refine lN ?_
   refine kB ?_
   refine l_end (n_then ?_)
   refine c_true rfl ?_
   refine c_seq (c_reg ?_)
   refine bI ?_
   refine l_end (n_then (c_ret (r_then ?_)))
   refine ret_tmp (v := .int .i64 (chkH h)) rfl ?_ ⟨rfl, hW.below⟩
   rw [chkH_no (vb_bounds (by omega))]; rfl
  ·intro hc2
   replace hc2 := of_decide_eq_false hc2
   refine kB ?_
   refine aB ?_
   refine l_valG (r_fieldAddr 4 Tryz.underlying69 rfl tyC3.size rfl rfl rfl) (by kernel_rfl) rfl ?_
   refine dG hW 0 tyC3 ?_
   refine l_valG (r_lss rfl rfl rfl rfl) (by kernel_rfl) rfl ?_
   refine l_split ?_ ?_
   ·intro hc3
    replace hc3 := of_decide_eq_true hc3
    refine kB ?_
    refine aB ?_
    refine lN ?_
    refine lN ?_
    refine lN ?_
    refine kB ?_
    refine aB ?_
    refine lN ?_
    refine lN ?_
    refine lN ?_
    refine lN ?_
    refine kB ?_
    refine l_end (n_then ?_)
    refine c_true rfl ?_
    refine c_seq (c_reg ?_)
    refine bI ?_
    refine l_end (n_then (c_ret (r_then ?_)))
    refine ret_tmp (v := .int .i64 (chkH h)) rfl ?_ ⟨rfl, hW.below⟩
    rw [chkH_no (vb_bounds (by omega))]; rfl
   ·intro hc3
    replace hc3 := of_decide_eq_false hc3
    refine kB ?_
    refine aB ?_
    refine l_valG (r_fieldAddr 4 Tryz.underlying69 rfl tyC3.size rfl rfl rfl) (by kernel_rfl) rfl ?_
    refine dG hW 0 tyC3 ?_
    refine l_valG (r_gtr rfl rfl rfl rfl) (by kernel_rfl) rfl ?_
    refine l_split ?_ ?_
    ·intro hc4
     replace hc4 := of_decide_eq_true hc4
     refine kB ?_
     refine aB ?_
     refine lN ?_
     refine lN ?_
     refine lN ?_
     refine lN ?_
     refine kB ?_
     refine l_end (n_then ?_)
     refine c_true rfl ?_
     refine c_seq (c_reg ?_)
     refine bI ?_
     refine l_end (n_then (c_ret (r_then ?_)))
     refine ret_tmp (v := .int .i64 (chkH h)) rfl ?_ ⟨rfl, hW.below⟩
     rw [chkH_no (vb_bounds (by omega))]; rfl
    ·intro hc4
     replace hc4 := of_decide_eq_false hc4
     refine kB ?_
     refine aB ?_
     refine l_valG (r_fieldAddr 1 Tryz.underlying69 rfl tyC67.size rfl rfl rfl) (by kernel_rfl) rfl ?_
     refine dG hW 0 tyC67 ?_
     refine l_valG (r_lenSlice Tryz.underlying67 rfl rfl) (by kernel_rfl) rfl ?_
     refine l_valG (r_gtrN (n := 64) rfl rfl rfl rfl) (by kernel_rfl) rfl ?_
     refine l_split ?_ ?_
     ·intro hc5
      replace hc5 := of_decide_eq_true hc5
      refine kB ?_
      refine l_end (n_then ?_)
      refine c_true rfl ?_
      refine c_seq (c_reg ?_)
      refine bI ?_
      refine l_end (n_then (c_ret (r_then ?_)))
      refine ret_tmp (v := .int .i64 (chkH h)) rfl ?_ ⟨rfl, hW.below⟩
      rw [chkH_no (vb_bounds (by omega))]; rfl
     ·intro hc5
      replace hc5 := of_decide_eq_false hc5
      obtain ⟨un, hun⟩ := Int.eq_ofNat_of_zero_le (a := h.users) (by omega)
      refine kB ?_
      refine l_end (n_then ?_)
      refine c_false rfl ?_
      refine c_skip (n_then (c_seq (c_reg ?_)))
      refine l_val (r_fieldAddr 0 Tryz.underlying69 rfl tyC3.size rfl rfl rfl) rfl rfl ?_
      refine dC hW 0 tyC3 ?_
      refine l_makeSlice hW tyE155 (z := .bool false) (v := .bool false) (n := un) (k := un) tyZE155 rfl rfl rfl (congrArg (Value.int .i64) hun) (congrArg (Value.int .i64) hun) rfl (by omega) (by decide) (Nat.mul_one _) ?_
      intro gm W hW
      rw [← marks_nil] at hW
      refine l_allocC hW tyZ155 rfl rfl rfl rfl ?_
      intro g2 W hW
      refine l_storeC hW 0 tyC155 (v := .slice _ _ _) rfl rfl rfl rfl rfl rfl (by first | rfl | omega | (simp; done) | (simp; omega)) rfl ?_
      intro W hW
      refine l_end (n_then (c_seq (c_reg ?_)))
      refine l_val (r_fieldAddr 0 Tryz.underlying69 rfl tyC3.size rfl rfl rfl) rfl rfl ?_
      refine dC hW 2 tyC3 ?_
      refine l_allocC hW tyZ3 rfl rfl rfl rfl ?_
      intro g3 W hW
      refine l_storeC hW 0 tyC3 (v := .int _ _) rfl rfl rfl rfl rfl rfl (by first | rfl | omega | (simp; done) | (simp; omega)) rfl ?_
      intro W hW
      refine l_end (n_then (c_seq (c_reg ?_)))
      refine l_val (r_closure (vs := [.pointer (some ⟨g1, 0, none⟩), .pointer (some ⟨g2, 0, none⟩), .pointer (some ⟨g3, 0, none⟩)]) rfl rfl) rfl rfl ?_
      refine l_val (r_assign (v := .func _ _ _) rfl rfl) rfl rfl ?_
      refine l_end (n_then (c_seq (c_seq (c_reg ?_))))
      refine l_val (r_move (v := .func _ _ _) rfl rfl) rfl rfl ?_
      refine l_val (r_fieldAddr 2 Tryz.underlying69 rfl tyC27.size rfl rfl rfl) rfl rfl ?_
      refine dC hW 3 tyC27 ?_
      refine l_callVS (L := []) (args := [.slice r.a r.n r.c, .bool true]) (cap := [.pointer (some ⟨g1, 0, none⟩), .pointer (some ⟨g2, 0, none⟩), .pointer (some ⟨g3, 0, none⟩)]) (g_fit r.a r.n r.c h.rest true h _ _ _ r q ([]) un un g3 g2 gm g1 (h.users) ((by simp)) hun (by omega) (by omega) (by first | omega | (simp only [List.length_append]; omega) | simp)) hW en88 (RdS.of hP.rest) (by kernel_rfl) rfl rfl rfl rfl ?_
      rintro _ _ W ⟨sa, rfl, rfl, hsa⟩ hW
      replace hW := hW.perm (List.perm_append_comm (l₁ := [_, _, _, _]) (l₂ := []))
      refine l_split ?_ ?_
      ·intro hc6
       obtain rfl : sa = h.rest := hsa hc6
       refine l_val (r_not rfl rfl) rfl rfl ?_
       refine aB ?_
       refine l_valG (r_move (v := .func _ _ _) rfl rfl) (by kernel_rfl) rfl ?_
       refine l_valG (r_fieldAddr 3 Tryz.underlying69 rfl tyC27.size rfl rfl rfl) (by kernel_rfl) rfl ?_
       refine dG hW 3 tyC27 ?_
       refine l_callVS (L := []) (args := [.slice q.a q.n q.c, .bool true]) (cap := [.pointer (some ⟨g1, 0, none⟩), .pointer (some ⟨g2, 0, none⟩), .pointer (some ⟨g3, 0, none⟩)]) (g_fit q.a q.n q.c h.named true h _ _ _ r q (h.rest) un un g3 g2 gm g1 (h.users - (h.rest.length : Int)) (rfl) hun (by omega) (by omega) (by first | omega | (simp only [List.length_append]; omega) | simp)) hW en88 (RdS.of hP.named) (by kernel_rfl) rfl rfl rfl rfl ?_
       rintro _ _ W ⟨sb, rfl, rfl, hsb⟩ hW
       replace hW := hW.perm (List.perm_append_comm (l₁ := [_, _, _, _]) (l₂ := []))
       refine l_split ?_ ?_
       ·intro hc7
        obtain rfl : sb = h.rest ++ h.named := hsb hc7
        refine l_valG (r_not rfl rfl) (by kernel_rfl) rfl ?_
        refine kB ?_
        refine l_end (n_then ?_)
        refine c_false rfl ?_
        refine c_skip (n_then (c_seq (c_seq (c_reg ?_))))
        refine l_val (r_fieldAddr 1 Tryz.underlying69 rfl tyC67.size rfl rfl rfl) rfl rfl ?_
        refine dC hW 3 tyC67 ?_
        refine l_val (r_lenSlice Tryz.underlying67 rfl rfl) rfl rfl ?_
        refine aI ?_
        refine l_end (n_then (c_block ?_))
        refine c_loop (fun (x : Nat × List Int) (j : Nat → Value) => [.agg [.int .i64 h.users, .slice pa pn pc, .slice r.a r.n r.c, .slice q.a q.n q.c, .int .i64 h.rounds].toArray, .pointer (some ⟨g1, 0, none⟩), j 2, .pointer (some ⟨g2, 0, none⟩), .pointer (some ⟨g3, 0, none⟩), .func (.func 88) #[] #[.pointer (some ⟨g1, 0, none⟩), .pointer (some ⟨g2, 0, none⟩), .pointer (some ⟨g3, 0, none⟩)], j 6, j 7, .pointer (some ⟨g1, 0, none⟩), .int .i64 h.users, .bool false, .bool false, .pointer (some ⟨g1, 0, none⟩), .int .i64 h.users, .bool false, .bool false, .bool false, .pointer (some ⟨g1, 4, none⟩), .int .i64 h.rounds, .bool false, .bool false, .bool false, .pointer (some ⟨g1, 4, none⟩), .int .i64 h.rounds, .bool false, .bool false, .bool false, .pointer (some ⟨g1, 1, none⟩), .slice pa pn pc, j 29, .bool false, .bool false, .pointer (some ⟨g1, 0, none⟩), .int .i64 h.users, .slice (some ⟨gm, 0, none⟩) un un, .pointer (some ⟨g1, 0, none⟩), .int .i64 h.users, j 37, j 38, .pointer (some ⟨g1, 2, none⟩), .slice r.a r.n r.c, .bool true, .bool false, .bool false, j 44, .pointer (some ⟨g1, 3, none⟩), .slice q.a q.n q.c, .bool true, .bool false, .bool false, .pointer (some ⟨g1, 1, none⟩), .slice pa pn pc, .int .i64 (pn : Int), .int .i64 (x.1 : Int), j 54, j 55, j 56, j 57, j 58, j 59, j 60, j 61, j 62, j 63, j 64, j 65, j 66, j 67, j 68, j 69, j 70, j 71]) (fun (x : Nat × List Int) => [⟨g3, [.int .i64 (h.users - (x.2.length : Int))], 3⟩, ⟨g2, [.slice (some ⟨gm, 0, none⟩) un un], 155⟩, ⟨gm, marks x.2 un, 4⟩, ⟨g1, [.int .i64 h.users, .slice pa pn pc, .slice r.a r.n r.c, .slice q.a q.n q.c, .int .i64 h.rounds], 69⟩]) (fun (x : Nat × List Int) => x.1 ≤ pn ∧ x.2.length = sumL ((groups h).take (2 + 2 * x.1)) ∧ fitsB h.users x.2 (h.ps.drop (2 * x.1)) = fitsB h.users (h.rest ++ h.named) h.ps) (fun (x : Nat × List Int) => pn - x.1) (0, h.rest ++ h.named) (by kernel_rfl) hW ⟨Nat.zero_le _, by simp [groups, sumL], rfl⟩ ?_
        intro x j W hx hW
        obtain ⟨hx, hm, hg⟩ := hx
        have hle := sumL_take_le (groups h) (2 + 2 * x.1)
        refine c_seq (c_reg ?_)
        refine l_val (r_lssN rfl rfl rfl rfl) rfl rfl ?_
        refine l_split ?_ ?_
        ·intro hc8
         replace hc8 := of_decide_eq_true hc8
         have hlt : x.1 < pn := by omega
         obtain ⟨b0, o0, rfl⟩ := hP.ptr (by omega)
         obtain ⟨s0, s1, l0, l1, e0, e1, f0, f1, c0, c1, hr0, hr1⟩ := hP.side2 hlt
         have hl0 := hsm.one l0 (by simp [groups, List.mem_of_getElem? f0])
         have hl1 := hsm.one l1 (by simp [groups, List.mem_of_getElem? f1])
         have hy0 := hone l0 (List.mem_of_getElem? (i := 2 * x.1 + 2) f0)
         have hy1 := hone l1 (List.mem_of_getElem? (i := 2 * x.1 + 3) f1)
         rw [fits_two f0 f1] at hg
         refine l_end (n_then (c_seq ?_))
         refine c_true rfl ?_
         refine c_skip (n_then (c_seq (c_block (c_seq (c_reg ?_)))))
         refine l_val (r_indexAddrSl Tryz.underlying67 tyA146.size rfl rfl rfl (by omega)) rfl rfl ?_
         refine l_loadFs hW tyA146 (vs := [s0.v, s1.v]) (two_cells c0 c1) rfl rfl rfl rfl rfl ?_
         refine l_alloc hW tyZ146 rfl rfl rfl ?_
         intro g4 W hW
         refine sA hW 0 tyA146 ?_
         intro W hW
         refine l_end (n_then (c_seq (c_reg ?_)))
         refine l_val (r_move (v := .func _ _ _) rfl rfl) rfl rfl ?_
         refine l_val (r_fieldAddr 0 Tryz.underlying146 rfl tyC27.size rfl rfl rfl) rfl rfl ?_
         refine dC hW 0 tyC27 ?_
         refine l_callVS (L := [⟨g4, [.slice s0.a s0.n s0.c, .slice s1.a s1.n s1.c], 146⟩]) (args := [.slice s0.a s0.n s0.c, .bool false]) (cap := [.pointer (some ⟨g1, 0, none⟩), .pointer (some ⟨g2, 0, none⟩), .pointer (some ⟨g3, 0, none⟩)]) (g_fit s0.a s0.n s0.c l0 false h _ _ _ r q (x.2) un un g3 g2 gm g1 (h.users - (x.2.length : Int)) (rfl) hun (by omega) (by omega) (by first | omega | (simp only [List.length_append]; omega) | simp)) (hW.perm (List.perm_append_comm (l₁ := [_]) (l₂ := [_, _, _, _]))) en88 (RdS.of hr0) (by kernel_rfl) rfl rfl rfl rfl ?_
         rintro _ _ W ⟨sc, rfl, rfl, hsc⟩ hW
         replace hW := hW.perm (List.perm_append_comm (l₁ := [_, _, _, _]) (l₂ := [_]))
         refine l_split ?_ ?_
         ·intro hc9
          obtain rfl : sc = x.2 ++ l0 := hsc hc9
          refine l_val (r_not rfl rfl) rfl rfl ?_
          refine aB ?_
          refine l_valG (r_move (v := .func _ _ _) rfl rfl) (by kernel_rfl) rfl ?_
          refine l_valG (r_fieldAddr 1 Tryz.underlying146 rfl tyC27.size rfl rfl rfl) (by kernel_rfl) rfl ?_
          refine dG hW 0 tyC27 ?_
          refine l_callVS (L := [⟨g4, [.slice s0.a s0.n s0.c, .slice s1.a s1.n s1.c], 146⟩]) (args := [.slice s1.a s1.n s1.c, .bool false]) (cap := [.pointer (some ⟨g1, 0, none⟩), .pointer (some ⟨g2, 0, none⟩), .pointer (some ⟨g3, 0, none⟩)]) (g_fit s1.a s1.n s1.c l1 false h _ _ _ r q (x.2 ++ l0) un un g3 g2 gm g1 (h.users - ((x.2 ++ l0).length : Int)) (rfl) hun (by omega) (by omega) (by first | omega | (simp only [List.length_append]; omega) | simp)) (hW.perm (List.perm_append_comm (l₁ := [_]) (l₂ := [_, _, _, _]))) en88 (RdS.of hr1) (by kernel_rfl) rfl rfl rfl rfl ?_
          rintro _ _ W ⟨sd, rfl, rfl, hsd⟩ hW
          replace hW := hW.perm (List.perm_append_comm (l₁ := [_, _, _, _]) (l₂ := [_]))
          refine l_split ?_ ?_
          ·intro hc10
           obtain rfl : sd = (x.2 ++ l0) ++ l1 := hsd hc10
           refine l_valG (r_not rfl rfl) (by kernel_rfl) rfl ?_
           refine kB ?_
           refine l_end (n_then ?_)
           refine c_false rfl ?_
           refine c_skip (n_block (n_then (c_reg ?_)))
           refine l_val (r_addN (n := 1) rfl rfl rfl (by omega)) rfl rfl ?_
           refine aI ?_
           refine l_end (n_then ?_)
           exact loop_next (x.1 + 1, (x.2 ++ l0) ++ l1) (by kernel_rfl) (hW.drop 1) ⟨by simp only; omega, by simp only [List.length_append]; rw [sum_two f0 f1]; omega, by simp only; rw [← hg, hc9, hc10]; simp⟩ (by simp only; omega)
          ·intro hc10
           refine l_valG (r_not rfl rfl) (by kernel_rfl) rfl ?_
           refine kB ?_
           refine l_end (n_then ?_)
           refine c_true rfl ?_
           refine c_seq (c_reg ?_)
           refine bI ?_
           refine l_end (n_then (c_ret (r_block (r_then (r_then (r_block (r_then ?_)))))))
           refine ret_tmp (v := .int .i64 (chkH h)) rfl ?_ ⟨rfl, hW.below⟩
           rw [prog_no (.inr (.inr (.inl (by rw [← hg, hc9, hc10]; simp))))]; rfl
         ·intro hc9
          refine l_val (r_not rfl rfl) rfl rfl ?_
          refine aB ?_
          refine lN ?_
          refine lN ?_
          refine lN ?_
          refine lN ?_
          refine lN ?_
          refine kB ?_
          refine l_end (n_then ?_)
          refine c_true rfl ?_
          refine c_seq (c_reg ?_)
          refine bI ?_
          refine l_end (n_then (c_ret (r_block (r_then (r_then (r_block (r_then ?_)))))))
          refine ret_tmp (v := .int .i64 (chkH h)) rfl ?_ ⟨rfl, hW.below⟩
          rw [prog_no (.inr (.inr (.inl (by rw [← hg, hc9]; simp))))]; rfl
        ·intro hc8
         replace hc8 := of_decide_eq_false hc8
         have e : x.1 = pn := by omega
         rw [List.take_of_length_le (by omega)] at hm
         rw [List.drop_eq_nil_iff.2 (by omega), fitsB] at hg
         refine l_end (n_then (c_seq ?_))
         refine c_false rfl ?_
         refine c_exit (x_then (x_then ?_))
         refine x_hit ?_
         refine n_then (c_seq (c_seq (c_reg ?_)))
         refine dC hW 0 tyC3 ?_
         refine l_val (r_gtr rfl rfl rfl rfl) rfl rfl ?_
         refine l_split ?_ ?_
         ·intro hc11
          replace hc11 := of_decide_eq_true hc11
          refine l_end (n_then ?_)
          refine c_true rfl ?_
          refine c_seq (c_reg ?_)
          refine bI ?_
          refine l_end (n_then (c_ret (r_then ?_)))
          refine ret_tmp (v := .int .i64 (chkH h)) rfl ?_ ⟨rfl, hW.below⟩
          rw [prog_no (.inr (.inr (.inr (by omega))))]; rfl
         ·intro hc11
          replace hc11 := of_decide_eq_false hc11
          refine l_end (n_then ?_)
          refine c_false rfl ?_
          refine c_skip (n_then (c_seq (c_reg ?_)))
          refine bI ?_
          refine l_end (n_then (c_ret ?_))
          refine ret_tmp (v := .int .i64 (chkH h)) rfl ?_ ⟨rfl, hW.below⟩
          rw [prog_yes (by omega) hc6 hc7 hg.symm (by omega)]; rfl
       ·intro hc7
        refine l_valG (r_not rfl rfl) (by kernel_rfl) rfl ?_
        refine kB ?_
        refine l_end (n_then ?_)
        refine c_true rfl ?_
        refine c_seq (c_reg ?_)
        refine bI ?_
        refine l_end (n_then (c_ret (r_then ?_)))
        refine ret_tmp (v := .int .i64 (chkH h)) rfl ?_ ⟨rfl, hW.below⟩
        rw [prog_no (.inr <| .inl <| hc7)]; rfl
      ·intro hc6
       refine l_val (r_not rfl rfl) rfl rfl ?_
       refine aB ?_
       refine lN ?_
       refine lN ?_
       refine lN ?_
       refine lN ?_
       refine lN ?_
       refine kB ?_
       refine l_end (n_then ?_)
       refine c_true rfl ?_
       refine c_seq (c_reg ?_)
       refine bI ?_
       refine l_end (n_then (c_ret (r_then ?_)))
       refine ret_tmp (v := .int .i64 (chkH h)) rfl ?_ ⟨rfl, hW.below⟩
       rw [prog_no (.inl hc6)]; rfl

end Go.Proofs.YtoegpalacppllaaGreat

/- Variants, by the program. -/
namespace Go.Proofs.YtoegpalacppllaaGreat
open Go.RowKit Pl
open Tr Hn
set_option maxRecDepth 10000 in
/-- headend/trace.Variants -/
theorem g_Variants (h : Hu) (pa : Option Addr) (pn pc : Nat) (r q : Sl) (ss : List Sl) (hsm : Small h) (hfit : pn * 48 ≤ 140737488351232) : GivesX Tryz.prog 39 [.agg [.int .i64 h.users, .slice pa pn pc, .slice r.a r.n r.c, .slice q.a q.n q.c, .int .i64 h.rounds].toArray].toArray (fun w => RdHu w h ⟨pa, pn, pc⟩ r q ss) (fun v Bs => ∃ s : Sl, v = .tuple #[s.v, .int .i64 (chkH h)] ∧ NewI s (varsR h) Bs) := by
 refine givesX_of Tryz.func39 rfl (bs := [.agg [.int .i64 h.users, .slice pa pn pc, .slice r.a r.n r.c, .slice q.a q.n q.c, .int .i64 h.rounds].toArray, undef, undef, undef, undef, undef, undef, undef, undef, undef, undef, undef, undef, undef, undef, undef, undef, undef, undef, undef, undef, undef, undef, undef, undef, undef, undef, undef, undef, undef, undef, undef, undef, undef, undef, undef, undef, undef, undef, undef, undef, undef, undef, undef, undef, undef, undef, undef, undef, undef, undef, undef, undef, undef, undef, undef, undef, undef, undef, undef, undef, undef, undef, undef, undef, undef, undef, undef, undef, undef, undef]) rfl ?_
 intro w hP hW
 have hpn := hP.pn
 have hpl := hP.len
 simp only at hpn
 have hgl := hP.gl
 have hgs := hsm.sum
 have hone := hsm.one
 have hqn := hP.named.len
 have hql := hone h.named (by simp [groups])
 refine c_seq (c_reg ?_)
 refine xB hW ?_
 intro g1 W hW
 refine bS ?_
 refine bI ?_
 refine l_end (n_then (c_seq (c_seq (c_reg ?_))))
 refine dA hW 0 tyA69 ?_
 refine l_callR hW (g_CheckHunt h pa pn pc r q ss hsm hfit) en41 (hP.past hW.below) rfl rfl rfl rfl ?_
 intro W hW
 refine bI ?_
 refine l_end (n_then (c_seq (c_reg ?_)))
 refine aI ?_
 refine l_val (r_neq rfl rfl rfl rfl) rfl rfl ?_
 refine l_split ?_ ?_
 ·intro hc1
  replace hc1 := of_decide_eq_true hc1
  refine l_end (n_then ?_)
  refine c_true rfl ?_
  refine c_seq (c_reg ?_)
  refine aI ?_
  refine bS ?_
  refine bI ?_
  refine l_end (n_then (c_ret (r_then ?_)))
  refine ret_tmp2 rfl rfl rfl ?_
  exact ⟨_, [], rfl, ⟨Sl.no, rfl, by rw [varsR_no (chk_not (by omega))]; exact NewI.no⟩, hW.sub (List.nil_sublist _)⟩
 ·intro hc1
  replace hc1 := of_decide_eq_false hc1
  have hv := chk_valid (h := h) (by omega)
  obtain ⟨un, hun⟩ := Int.eq_ofNat_of_zero_le (a := h.users) (by have := hv.u1; omega)
  have hu1 := hv.u1
  have hu2 := hv.u2
  refine l_end (n_then ?_)
  refine c_false rfl ?_
  refine c_skip (n_then (c_seq (c_reg ?_)))
  refine l_val (r_fieldAddr 0 Tryz.underlying69 rfl tyC3.size rfl rfl rfl) rfl rfl ?_
  refine dC hW 0 tyC3 ?_
  refine l_makeSlice hW tyE27 (z := .int .i64 0) (v := .int .i64 0) (n := un) (k := un) tyZE27 rfl rfl rfl (congrArg (Value.int .i64) hun) (congrArg (Value.int .i64) hun) rfl (by omega) (by decide) (Nat.mul_one _) ?_
  intro gv W hW
  rw [arr_zero] at hW
  refine bS ?_
  refine l_end (n_then (c_seq (c_seq (c_reg ?_))))
  refine l_val (r_fieldAddr 3 Tryz.underlying69 rfl tyC27.size rfl rfl rfl) rfl rfl ?_
  refine dC hW 1 tyC27 ?_
  refine l_val (r_lenSlice Tryz.underlying27 rfl rfl) rfl rfl ?_
  refine aI ?_
  refine l_end (n_then (c_block ?_))
  refine c_loop (fun (k : Nat) (j : Nat → Value) => [.agg [.int .i64 h.users, .slice pa pn pc, .slice r.a r.n r.c, .slice q.a q.n q.c, .int .i64 h.rounds].toArray, .pointer (some ⟨g1, 0, none⟩), j 2, .int .i64 0, .int .i64 (chkH h), .slice (some ⟨gv, 0, none⟩) un un, j 6, j 7, j 8, j 9, j 10, j 11, j 12, j 13, .agg ([.int .i64 h.users, .slice pa pn pc, .slice r.a r.n r.c, .slice q.a q.n q.c, .int .i64 h.rounds]).toArray, .int .i64 (chkH h), .int .i64 (chkH h), .bool false, j 18, .pointer (some ⟨g1, 0, none⟩), .int .i64 h.users, .slice (some ⟨gv, 0, none⟩) un un, .pointer (some ⟨g1, 3, none⟩), .slice q.a q.n q.c, .int .i64 (q.n : Int), .int .i64 (k : Int), j 26, j 27, j 28, j 29, j 30, j 31, j 32, j 33, j 34, j 35, j 36, j 37, j 38, j 39, j 40, j 41, j 42, j 43, j 44, j 45, j 46, j 47, j 48, j 49, j 50, j 51, j 52, j 53, j 54, j 55, j 56, j 57, j 58, j 59, j 60, j 61, j 62, j 63, j 64, j 65, j 66, j 67, j 68, j 69, j 70]) (fun (k : Nat) => [⟨gv, arr (put h.named (-1) (fun _ => 0) k) un, 3⟩, ⟨g1, [.int .i64 h.users, .slice pa pn pc, .slice r.a r.n r.c, .slice q.a q.n q.c, .int .i64 h.rounds], 69⟩]) (fun (k : Nat) => k ≤ q.n) (fun (k : Nat) => q.n - k) 0 (by kernel_rfl) (by rw [put_zero]; exact hW) (Nat.zero_le _) ?_
  intro k j W hx hW
  refine c_seq (c_reg ?_)
  refine l_val (r_lssN rfl rfl rfl rfl) rfl rfl ?_
  refine l_split ?_ ?_
  ·intro hc2
   replace hc2 := of_decide_eq_true hc2
   obtain ⟨b0, o0, ha, hd⟩ := hP.named.ptr (by omega)
   have hb := users_mem hv.named (at_mem (l := h.named) (i := k) (by omega))
   refine l_end (n_then (c_seq ?_))
   refine c_true rfl ?_
   refine c_skip (n_then (c_seq (c_block (c_seq (c_reg ?_)))))
   refine l_val (r_indexAddrSl2 (n := k) Tryz.underlying27 tyC3.size rfl (congrArg (fun a => Value.slice a q.n q.c) ha) rfl (by omega)) rfl rfl ?_
   refine l_loadF hW tyC3 (v := .int .i64 (at_ h.named (k))) (hd (k) (by omega)) rfl rfl rfl rfl ?_
   refine bI ?_
   refine l_end (n_then (c_reg ?_))
   refine aS ?_
   refine aI ?_
   refine l_val (r_indexAddrSlZ Tryz.underlying27 tyC3.size rfl rfl rfl (by omega) (by omega)) rfl rfl ?_
   refine l_storeC hW 0 tyC3 (v := .int _ _) rfl rfl rfl rfl rfl rfl (by rw [arr_len]; omega) rfl ?_
   intro W hW
   refine l_end (n_block (n_then (c_reg ?_)))
   refine l_val (r_addN (n := 1) rfl rfl rfl (by omega)) rfl rfl ?_
   refine aI ?_
   refine l_end (n_then ?_)
   exact loop_next (k + 1) (by kernel_rfl) (by rw [arr_put (by omega) (by omega) (by omega)]; exact hW) (by omega) (by omega)
  ·intro hc2
   replace hc2 := of_decide_eq_false hc2
   rw [put_named (by omega)] at hW
   refine l_end (n_then (c_seq ?_))
   refine c_false rfl ?_
   refine c_exit (x_then (x_then ?_))
   refine x_hit ?_
   refine n_then (c_seq (c_seq (c_reg ?_)))
   refine l_val (r_fieldAddr 1 Tryz.underlying69 rfl tyC67.size rfl rfl rfl) rfl rfl ?_
   refine dC hW 1 tyC67 ?_
   refine l_val (r_lenSlice Tryz.underlying67 rfl rfl) rfl rfl ?_
   refine aI ?_
   refine l_end (n_then (c_block ?_))
   refine c_loop (fun (i : Nat) (j : Nat → Value) => [.agg [.int .i64 h.users, .slice pa pn pc, .slice r.a r.n r.c, .slice q.a q.n q.c, .int .i64 h.rounds].toArray, .pointer (some ⟨g1, 0, none⟩), j 2, .int .i64 0, .int .i64 (chkH h), .slice (some ⟨gv, 0, none⟩) un un, j 6, j 7, j 8, j 9, j 10, j 11, j 12, j 13, .agg ([.int .i64 h.users, .slice pa pn pc, .slice r.a r.n r.c, .slice q.a q.n q.c, .int .i64 h.rounds]).toArray, .int .i64 (chkH h), .int .i64 (chkH h), .bool false, j 18, .pointer (some ⟨g1, 0, none⟩), .int .i64 h.users, .slice (some ⟨gv, 0, none⟩) un un, .pointer (some ⟨g1, 3, none⟩), .slice q.a q.n q.c, .int .i64 (q.n : Int), j 25, .bool false, j 27, j 28, j 29, j 30, j 31, j 32, .pointer (some ⟨g1, 1, none⟩), .slice pa pn pc, .int .i64 (pn : Int), .int .i64 (i : Int), j 37, j 38, j 39, j 40, j 41, j 42, j 43, j 44, j 45, j 46, j 47, j 48, j 49, j 50, j 51, j 52, j 53, j 54, j 55, j 56, j 57, j 58, j 59, j 60, j 61, j 62, j 63, j 64, j 65, j 66, j 67, j 68, j 69, j 70]) (fun (i : Nat) => [⟨gv, arr (fun u => varP h u (2 * i)) un, 3⟩, ⟨g1, [.int .i64 h.users, .slice pa pn pc, .slice r.a r.n r.c, .slice q.a q.n q.c, .int .i64 h.rounds], 69⟩]) (fun (i : Nat) => i ≤ pn) (fun (i : Nat) => pn - i) 0 (by kernel_rfl) hW (Nat.zero_le _) ?_
   intro i j W hx hW
   refine c_seq (c_reg ?_)
   refine l_val (r_lssN rfl rfl rfl rfl) rfl rfl ?_
   refine l_split ?_ ?_
   ·intro hc3
    replace hc3 := of_decide_eq_true hc3
    obtain ⟨b0, o0, ha⟩ := hP.ptr (by omega)
    have hP2 := hP
    rw [ha] at hP2
    obtain ⟨s0, s1, l0, l1, e0, e1, f0, f1, c0, c1, hr0, hr1⟩ := hP2.side2 (i := i) (by omega)
    have hs0 := hr0.len
    have hs1 := hr1.len
    have hy0 := hone l0 (List.mem_of_getElem? (i := 2 * i + 2) f0)
    have hy1 := hone l1 (List.mem_of_getElem? (i := 2 * i + 3) f1)
    refine l_end (n_then (c_seq ?_))
    refine c_true rfl ?_
    refine c_skip (n_then (c_seq (c_block (c_seq (c_reg ?_)))))
    refine aI ?_
    refine l_val (r_indexAddrSl (n := i) Tryz.underlying67 tyA146.size rfl (congrArg (fun a => Value.slice a pn pc) ha) rfl (by omega)) rfl rfl ?_
    refine l_loadFs hW tyA146 (vs := [s0.v, s1.v]) (two_cells c0 c1) rfl rfl rfl rfl rfl ?_
    refine l_alloc hW tyZ146 rfl rfl rfl ?_
    intro g2 W hW
    refine bI ?_
    refine sA hW 0 tyA146 ?_
    intro W hW
    refine l_end (n_then (c_seq (c_seq (c_reg ?_))))
    refine l_val (r_fieldAddr 0 Tryz.underlying146 rfl tyC27.size rfl rfl rfl) rfl rfl ?_
    refine dC hW 0 tyC27 ?_
    refine l_val (r_lenSlice Tryz.underlying27 rfl rfl) rfl rfl ?_
    refine aI ?_
    refine l_end (n_then (c_block ?_))
    refine c_loop (fun (y : Nat) (j : Nat → Value) => [.agg [.int .i64 h.users, .slice pa pn pc, .slice r.a r.n r.c, .slice q.a q.n q.c, .int .i64 h.rounds].toArray, .pointer (some ⟨g1, 0, none⟩), j 2, .int .i64 0, .int .i64 (chkH h), .slice (some ⟨gv, 0, none⟩) un un, j 6, j 7, .int .i64 (i : Int), .pointer (some ⟨g2, 0, none⟩), j 10, j 11, j 12, j 13, .agg ([.int .i64 h.users, .slice pa pn pc, .slice r.a r.n r.c, .slice q.a q.n q.c, .int .i64 h.rounds]).toArray, .int .i64 (chkH h), .int .i64 (chkH h), .bool false, j 18, .pointer (some ⟨g1, 0, none⟩), .int .i64 h.users, .slice (some ⟨gv, 0, none⟩) un un, .pointer (some ⟨g1, 3, none⟩), .slice q.a q.n q.c, .int .i64 (q.n : Int), j 25, .bool false, j 27, j 28, j 29, j 30, j 31, j 32, .pointer (some ⟨g1, 1, none⟩), .slice pa pn pc, .int .i64 (pn : Int), .int .i64 (i : Int), .bool true, .int .i64 (i : Int), j 39, .agg ([.slice s0.a s0.n s0.c, .slice s1.a s1.n s1.c]).toArray, .pointer (some ⟨g2, 0, none⟩), .slice s0.a s0.n s0.c, .int .i64 (s0.n : Int), .int .i64 (y : Int), j 45, j 46, j 47, j 48, j 49, j 50, j 51, j 52, j 53, j 54, j 55, j 56, j 57, j 58, j 59, j 60, j 61, j 62, j 63, j 64, j 65, j 66, j 67, j 68, j 69, j 70]) (fun (y : Nat) => [⟨g2, [.slice s0.a s0.n s0.c, .slice s1.a s1.n s1.c], 146⟩, ⟨gv, arr (put l0 ((2 * i + 1 : Nat) : Int) (fun u => varP h u (2 * i)) y) un, 3⟩, ⟨g1, [.int .i64 h.users, .slice pa pn pc, .slice r.a r.n r.c, .slice q.a q.n q.c, .int .i64 h.rounds], 69⟩]) (fun (y : Nat) => y ≤ s0.n) (fun (y : Nat) => s0.n - y) 0 (by kernel_rfl) (by rw [put_zero]; exact hW) (Nat.zero_le _) ?_
    intro y j W hx hW
    refine c_seq (c_reg ?_)
    refine l_val (r_lssN rfl rfl rfl rfl) rfl rfl ?_
    refine l_split ?_ ?_
    ·intro hc4
     replace hc4 := of_decide_eq_true hc4
     obtain ⟨b1, o1, ha1, hd⟩ := hr0.ptr (by omega)
     have hb := users_mem (hv.ps l0 (List.mem_of_getElem? f0)).1 (at_mem (l := l0) (i := y) (by omega))
     refine l_end (n_then (c_seq ?_))
     refine c_true rfl ?_
     refine c_skip (n_then (c_seq (c_block (c_seq (c_reg ?_)))))
     refine l_val (r_indexAddrSl2 (n := y) Tryz.underlying27 tyC3.size rfl (congrArg (fun a => Value.slice a s0.n s0.c) ha1) rfl (by omega)) rfl rfl ?_
     refine l_loadF hW tyC3 (v := .int .i64 (at_ l0 (y))) (hd (y) (by omega)) rfl rfl rfl rfl ?_
     refine bI ?_
     refine l_end (n_then (c_reg ?_))
     refine aS ?_
     refine aI ?_
     refine aI ?_
     refine l_val (r_mulN (m := 2) rfl rfl rfl (by omega)) rfl rfl ?_
     refine l_val (r_addN (n := 1) rfl rfl rfl (by omega)) rfl rfl ?_
     refine l_val (r_indexAddrSlZ Tryz.underlying27 tyC3.size rfl rfl rfl (by omega) (by omega)) rfl rfl ?_
     refine l_storeC hW 1 tyC3 (v := .int _ _) rfl rfl rfl rfl rfl rfl (by rw [arr_len]; omega) rfl ?_
     intro W hW
     refine l_end (n_block (n_then (c_reg ?_)))
     refine l_val (r_addN (n := 1) rfl rfl rfl (by omega)) rfl rfl ?_
     refine aI ?_
     refine l_end (n_then ?_)
     exact loop_next (y + 1) (by kernel_rfl) (by rw [arr_put (by omega) (by omega) (by omega)]; exact hW) (by omega) (by omega)
    ·intro hc4
     replace hc4 := of_decide_eq_false hc4
     rw [put_side f0 (by omega) (by omega)] at hW
     refine l_end (n_then (c_seq ?_))
     refine c_false rfl ?_
     refine c_exit (x_then (x_then ?_))
     refine x_hit ?_
     refine n_then (c_seq (c_reg ?_))
     refine l_val (r_fieldAddr 1 Tryz.underlying146 rfl tyC27.size rfl rfl rfl) rfl rfl ?_
     refine dC hW 0 tyC27 ?_
     refine l_val (r_lenSlice Tryz.underlying27 rfl rfl) rfl rfl ?_
     refine aI ?_
     refine l_end (n_then (c_block ?_))
     refine c_loop (fun (z : Nat) (j : Nat → Value) => [.agg [.int .i64 h.users, .slice pa pn pc, .slice r.a r.n r.c, .slice q.a q.n q.c, .int .i64 h.rounds].toArray, .pointer (some ⟨g1, 0, none⟩), j 2, .int .i64 0, .int .i64 (chkH h), .slice (some ⟨gv, 0, none⟩) un un, j 6, j 7, .int .i64 (i : Int), .pointer (some ⟨g2, 0, none⟩), j 10, j 11, j 12, j 13, .agg ([.int .i64 h.users, .slice pa pn pc, .slice r.a r.n r.c, .slice q.a q.n q.c, .int .i64 h.rounds]).toArray, .int .i64 (chkH h), .int .i64 (chkH h), .bool false, j 18, .pointer (some ⟨g1, 0, none⟩), .int .i64 h.users, .slice (some ⟨gv, 0, none⟩) un un, .pointer (some ⟨g1, 3, none⟩), .slice q.a q.n q.c, .int .i64 (q.n : Int), j 25, .bool false, j 27, j 28, j 29, j 30, j 31, j 32, .pointer (some ⟨g1, 1, none⟩), .slice pa pn pc, .int .i64 (pn : Int), .int .i64 (i : Int), .bool true, .int .i64 (i : Int), j 39, .agg ([.slice s0.a s0.n s0.c, .slice s1.a s1.n s1.c]).toArray, .pointer (some ⟨g2, 0, none⟩), .slice s0.a s0.n s0.c, .int .i64 (s0.n : Int), j 44, .bool false, j 46, j 47, j 48, j 49, j 50, j 51, j 52, j 53, j 54, .pointer (some ⟨g2, 1, none⟩), .slice s1.a s1.n s1.c, .int .i64 (s1.n : Int), .int .i64 (z : Int), j 59, j 60, j 61, j 62, j 63, j 64, j 65, j 66, j 67, j 68, j 69, j 70]) (fun (z : Nat) => [⟨g2, [.slice s0.a s0.n s0.c, .slice s1.a s1.n s1.c], 146⟩, ⟨gv, arr (put l1 ((2 * i + 2 : Nat) : Int) (fun u => varP h u (2 * i + 1)) z) un, 3⟩, ⟨g1, [.int .i64 h.users, .slice pa pn pc, .slice r.a r.n r.c, .slice q.a q.n q.c, .int .i64 h.rounds], 69⟩]) (fun (z : Nat) => z ≤ s1.n) (fun (z : Nat) => s1.n - z) 0 (by kernel_rfl) (by rw [put_zero]; exact hW) (Nat.zero_le _) ?_
     intro z j W hx hW
     refine c_seq (c_reg ?_)
     refine l_val (r_lssN rfl rfl rfl rfl) rfl rfl ?_
     refine l_split ?_ ?_
     ·intro hc5
      replace hc5 := of_decide_eq_true hc5
      obtain ⟨b1, o1, ha1, hd⟩ := hr1.ptr (by omega)
      have hb := users_mem (hv.ps l1 (List.mem_of_getElem? f1)).1 (at_mem (l := l1) (i := z) (by omega))
      refine l_end (n_then (c_seq ?_))
      refine c_true rfl ?_
      refine c_skip (n_then (c_seq (c_block (c_seq (c_reg ?_)))))
      refine l_val (r_indexAddrSl2 (n := z) Tryz.underlying27 tyC3.size rfl (congrArg (fun a => Value.slice a s1.n s1.c) ha1) rfl (by omega)) rfl rfl ?_
      refine l_loadF hW tyC3 (v := .int .i64 (at_ l1 (z))) (hd (z) (by omega)) rfl rfl rfl rfl ?_
      refine bI ?_
      refine l_end (n_then (c_reg ?_))
      refine aS ?_
      refine aI ?_
      refine aI ?_
      refine l_val (r_mulN (m := 2) rfl rfl rfl (by omega)) rfl rfl ?_
      refine l_val (r_addN (n := 2) rfl rfl rfl (by omega)) rfl rfl ?_
      refine l_val (r_indexAddrSlZ Tryz.underlying27 tyC3.size rfl rfl rfl (by omega) (by omega)) rfl rfl ?_
      refine l_storeC hW 1 tyC3 (v := .int _ _) rfl rfl rfl rfl rfl rfl (by rw [arr_len]; omega) rfl ?_
      intro W hW
      refine l_end (n_block (n_then (c_reg ?_)))
      refine l_val (r_addN (n := 1) rfl rfl rfl (by omega)) rfl rfl ?_
      refine aI ?_
      refine l_end (n_then ?_)
      exact loop_next (z + 1) (by kernel_rfl) (by rw [arr_put (by omega) (by omega) (by omega)]; exact hW) (by omega) (by omega)
     ·intro hc5
      replace hc5 := of_decide_eq_false hc5
      rw [put_side f1 (by omega) (by omega), show 2 * i + 1 + 1 = 2 * (i + 1) by omega] at hW
      refine l_end (n_then (c_seq ?_))
      refine c_false rfl ?_
      refine c_exit (x_then (x_then ?_))
      refine x_hit ?_
      refine n_block (n_then (c_reg ?_))
      refine l_val (r_addN (n := 1) rfl rfl rfl (by omega)) rfl rfl ?_
      refine aI ?_
      refine l_end (n_then ?_)
      exact loop_next (i + 1) (by kernel_rfl) (hW.drop 1) (by omega) (by omega)
   ·intro hc3
    replace hc3 := of_decide_eq_false hc3
    rw [show 2 * i = h.ps.length by omega, arr_vars hv hun] at hW
    refine l_end (n_then (c_seq ?_))
    refine c_false rfl ?_
    refine c_exit (x_then (x_then ?_))
    refine x_hit ?_
    refine n_then (c_seq (c_reg ?_))
    refine aS ?_
    refine bS ?_
    refine bI ?_
    refine l_end (n_then (c_ret ?_))
    refine ret_tmp2 rfl rfl rfl ?_
    have e0 : chkH h = 0 := by omega
    exact ⟨_, [⟨gv, il (variants h), 3⟩], rfl, ⟨⟨some ⟨gv, 0, none⟩, un, un⟩, by rw [e0]; rfl, by rw [varsR_yes ((valid_iff h).2 hv)]; exact (OwnSl.full (by rw [il_len, vars_len]; omega) (by unfold maxLen; omega)).newI⟩, hW.sub (.cons_cons _ (List.nil_sublist _))⟩

end Go.Proofs.YtoegpalacppllaaGreat

/- An iterator over a list that lay there. -/
namespace Go.Proofs.YtoegpalacppllaaGreat
open Go.RowKit Pl
open Tr Hn
set_option maxRecDepth 10000 in
/-- slices.Values[[]int,int]$1 -/
theorem j_Values {w : World} (l0 : List Int) (g : Nat) (aa : Option Addr) (an ac : Nat) (hl : l0.length ≤ 4294967296) (hP : RdV w g ⟨aa, an, ac⟩ l0) : IterJ Tryz.prog w 163 #[.pointer (some ⟨g, 0, none⟩)] an (fun i => #[.int .i64 (at_ l0 i)]) := by
 refine iterJ_of (lb := [.pointer (some ⟨g, 0, none⟩)]) (F := fun l => [.func (.yield l) #[] #[], .pointer (some ⟨g, 0, none⟩), undef, undef, undef, undef, undef, undef, undef, undef, undef, undef, undef, undef, undef, undef]) Tryz.func163 rfl (fun l => rfl) ?_
 intro r l J L0 W hY hJ hW
 have hn : an = l0.length := hP.rd.len
 refine c_seq (c_reg ?_)
 refine l_loadW tyC27 (v := .slice aa an ac) (hP.past hW.below).box rfl rfl rfl rfl ?_
 refine l_val (r_lenSlice Tryz.underlying27 rfl rfl) rfl rfl ?_
 refine aI ?_
 refine l_end (n_then (c_block ?_))
 refine c_loop (fun (x : Nat × List Blk) (j : Nat → Value) => [.func (.yield l) #[] #[], .pointer (some ⟨g, 0, none⟩), j 2, j 3, j 4, .slice aa an ac, .int .i64 (an : Int), .int .i64 (x.1 : Int), j 8, j 9, j 10, j 11, j 12, j 13, j 14, j 15]) (fun (x : Nat × List Blk) => [] ++ x.2) (fun (x : Nat × List Blk) => x.1 ≤ an ∧ J x.1 x.2) (fun (x : Nat × List Blk) => an - x.1) (0, L0) (by kernel_rfl) hW ⟨Nat.zero_le _, hJ⟩ ?_
 intro x j W hx hW
 obtain ⟨hx, hJx⟩ := hx
 refine c_seq (c_reg ?_)
 refine l_val (r_lssN rfl rfl rfl rfl) rfl rfl ?_
 refine l_split ?_ ?_
 ·intro hc1
  replace hc1 := of_decide_eq_true hc1
  obtain ⟨b0, o0, ha, hc⟩ := hP.rd.ptr (by omega)
  simp only at ha
  subst ha
  refine l_end (n_then (c_seq ?_))
  refine c_true rfl ?_
  refine c_skip (n_then (c_seq (c_block (c_seq (c_reg ?_)))))
  refine l_val (r_indexAddrSl2 (n := x.1) Tryz.underlying27 tyC3.size rfl rfl rfl (by omega)) rfl rfl ?_
  refine l_loadF hW tyC3 (v := .int .i64 (at_ l0 (x.1))) (hc (x.1) (by omega)) rfl rfl rfl rfl ?_
  refine bI ?_
  refine l_end (n_then (c_seq (c_reg ?_)))
  refine l_val (r_move (v := .func _ _ _) rfl rfl) rfl rfl ?_
  refine aI ?_
  refine l_yieldJ (hY x.1 [] x.2 W (by omega) hJx (by rw [List.append_nil]; exact hW)) rfl rfl rfl rfl rfl ?_
  intro Lc1 W hJ1 hW
  rw [List.append_nil] at hW
  refine l_val (r_not rfl rfl) rfl rfl ?_
  refine l_end (n_then ?_)
  refine c_false rfl ?_
  refine c_skip (n_block (n_then (c_reg ?_)))
  refine l_val (r_addN (n := 1) rfl rfl rfl (by omega)) rfl rfl ?_
  refine aI ?_
  refine l_end (n_then ?_)
  exact loop_next (x.1 + 1, Lc1) (by kernel_rfl) hW ⟨by simp only; omega, hJ1⟩ (by simp only; omega)
 ·intro hc1
  replace hc1 := of_decide_eq_false hc1
  have e : x.1 = an := by omega
  rw [e] at hJx
  refine l_end (n_then (c_seq ?_))
  refine c_false rfl ?_
  refine c_exit (x_then (x_then ?_))
  refine x_hit ?_
  refine postM_of ?_
  refine end_none rfl ?_
  exact ⟨⟨_, rfl⟩, x.2, hJx, hW⟩

end Go.Proofs.YtoegpalacppllaaGreat

/- Lists, collected and sorted by the library. -/
namespace Go.Proofs.YtoegpalacppllaaGreat
open Go.RowKit Pl
open Tr Hn
set_option maxRecDepth 10000 in
/-- slices.AppendSeq[[]int,int] -/
theorem g_AppendSeq (g : Nat) (aa : Option Addr) (an ac : Nat) (l : List Int) (hl : l.length ≤ 4294967296) : GivesX Tryz.prog 184 [.slice none 0 0, .func (.func 163) #[] #[.pointer (some ⟨g, 0, none⟩)]].toArray (fun w => RdV w g ⟨aa, an, ac⟩ l) (NewSl 3 1 an (il l)) := by
 refine givesXM_of Tryz.func184 rfl (bs := [.slice none 0 0, .func (.func 163) #[] #[.pointer (some ⟨g, 0, none⟩)], undef, undef, undef, undef, undef, undef, undef, undef, undef, undef, undef]) rfl ?_
 intro w hP hW
 have hn : an = l.length := hP.rd.len
 refine c_seq (c_reg ?_)
 refine l_boxC hW (v := .slice _ _ _) rfl rfl rfl rfl rfl ?_
 intro g1 W hW
 refine bS ?_
 refine l_end (n_then (c_seq (c_seq (c_reg ?_))))
 refine l_val (r_move (v := .func _ _ _) rfl rfl) rfl rfl ?_
 refine l_end (n_then (c_block ?_))
 refine c_rangeJ (j_Values l g aa an ac hl hP) en163 rfl (fun _ => rfl) (fun i Lc => ∃ a c Bs, Lc = ⟨g1, [.slice a i c], 27⟩ :: Bs ∧ OwnSl 3 1 a i c (il (l.take i)) Bs) ⟨none, 0, [], rfl, by rw [List.take_zero]; exact OwnSl.nil 3 1⟩ hW (fun (i : Nat) => fr [.slice none 0 0, .func (.func 163) #[] #[.pointer (some ⟨g, 0, none⟩)], .pointer (some ⟨g1, 0, none⟩), undef, .slice none 0 0, .int .i64 (at_ l i), .func (.func 163) #[] #[.pointer (some ⟨g, 0, none⟩)], .int .i64 (at_ l i), undef, undef, undef, undef, undef] [] []) (fun (i : Nat) => [.slice none 0 0, .func (.func 163) #[] #[.pointer (some ⟨g, 0, none⟩)], .pointer (some ⟨g1, 0, none⟩), undef, .slice none 0 0, undef, .func (.func 163) #[] #[.pointer (some ⟨g, 0, none⟩)], .int .i64 (at_ l i), undef, undef, undef, undef, undef]) (fun _ => by kernel_rfl) ?_ ?_ ?_
 ·intro lq i W
  refine c_reg ?_
  refine bI ?_
  refine l_end ?_
  refine n_then ⟨?_, rfl⟩
  exact congrArg (fun x => (fr x [] [] : Act)) (by kernel_rfl)
 ·intro lq r i L Lc W hi hJ hW
  obtain ⟨a, c, Bs, rfl, hO⟩ := hJ
  replace hW := (show Cl _ (_ :: (Bs ++ L)) _ from hW).perm (List.Perm.cons _ List.perm_append_comm)
  refine c_block (c_reg ?_)
  refine dC hW 0 tyC27 ?_
  refine aI ?_
  refine l_buildSliceF hW (bsl27_1_0 _) rfl rfl rfl rfl ?_
  intro gb W hW
  refine l_appendB tyE27 (L := ⟨gb, _, _⟩ :: ⟨g1, _, _⟩ :: L) hO hW 0 (N := i + 1) rfl rfl rfl rfl rfl rfl rfl rfl (by simp [Value.oneCell']) (by unfold maxLen; omega) (by omega) ?_
  intro a1 c1 Bs1 W hO1 hW
  replace hO1 := hO1.castx rfl (xs' := il (l.take (i + 1))) (il_snoc (by omega))
  refine l_storeC hW 1 tyC27 (v := .slice _ _ _) rfl rfl rfl rfl rfl rfl (by first | rfl | omega | (simp; done) | (simp; omega)) rfl ?_
  intro W hW
  refine l_end (n_block ?_)
  exact ⟨rfl, _, ⟨a1, c1, Bs1, rfl, hO1⟩, (show Cl _ (_ :: (L ++ Bs1)) _ from hW.drop 1).perm (List.Perm.cons _ List.perm_append_comm)⟩
 ·intro D r Lc W hDb hJ hW hD
  obtain ⟨a, c, Bs, rfl, hO⟩ := hJ
  rw [List.take_of_length_le (by omega)] at hO
  refine n_block (n_then (c_seq (c_reg ?_)))
  refine dC hW 0 tyC27 ?_
  refine bS ?_
  refine l_end (n_then (c_ret ?_))
  refine r_mark hW hDb hD ?_
  intro r W hW
  refine ret_tmp (v := .slice _ _ _) rfl rfl ?_
  exact ⟨_, _, rfl, ⟨a, c, rfl, hO⟩, (show Cl _ (_ :: Bs) _ from hW).tobase.drop 1⟩

set_option maxRecDepth 10000 in
/-- slices.Collect[int] -/
theorem g_Collect (g : Nat) (aa : Option Addr) (an ac : Nat) (l : List Int) (hl : l.length ≤ 4294967296) : GivesX Tryz.prog 161 [.func (.func 163) #[] #[.pointer (some ⟨g, 0, none⟩)]].toArray (fun w => RdV w g ⟨aa, an, ac⟩ l) (NewSl 3 1 an (il l)) := by
 refine givesX_of Tryz.func161 rfl (bs := [.func (.func 163) #[] #[.pointer (some ⟨g, 0, none⟩)], undef, undef, undef, undef]) rfl ?_
 intro w hP hW
 refine c_seq (c_reg ?_)
 refine bS ?_
 refine l_end (n_then (c_seq (c_reg ?_)))
 refine l_val (r_move (v := .func _ _ _) rfl rfl) rfl rfl ?_
 refine l_callX hW (g_AppendSeq g aa an ac l hl) en184 (hP.past hW.below) rfl rfl rfl rfl ?_
 rintro _ Bs W ⟨a1, c1, rfl, hO⟩ hW
 refine bS ?_
 refine l_end (n_then (c_ret ?_))
 refine ret_tmp (v := .slice _ _ _) rfl rfl ?_
 exact ⟨_, _, rfl, ⟨a1, c1, rfl, hO⟩, hW⟩

theorem sortsI : SortsI Tryz.prog 162 := ⟨Tryz.slices_Sort_int, Tryz.slices_Sort_int_none⟩
set_option maxRecDepth 10000 in
/-- slices.Sorted[int] -/
theorem g_Sorted (g : Nat) (aa : Option Addr) (an ac : Nat) (l : List Int) (hl : l.length ≤ 4294967296) : GivesX Tryz.prog 126 [.func (.func 163) #[] #[.pointer (some ⟨g, 0, none⟩)]].toArray (fun w => RdV w g ⟨aa, an, ac⟩ l) (NewSl 3 1 an (il (sortI l))) := by
 refine givesX_of Tryz.func126 rfl (bs := [.func (.func 163) #[] #[.pointer (some ⟨g, 0, none⟩)], undef, undef, undef, undef, undef, undef, undef, undef]) rfl ?_
 intro w hP hW
 have hn : an = l.length := hP.rd.len
 refine c_seq (c_reg ?_)
 refine bS ?_
 refine l_end (n_then (c_seq (c_reg ?_)))
 refine l_val (r_move (v := .func _ _ _) rfl rfl) rfl rfl ?_
 refine l_callX hW (g_Collect g aa an ac l hl) en161 (hP.past hW.below) rfl rfl rfl rfl ?_
 rintro _ Bs W ⟨a1, c1, rfl, hO⟩ hW
 refine bS ?_
 refine l_end (n_then (c_seq (c_reg ?_)))
 refine aS ?_
 refine l_sort sortsI (L := []) hO hW (by omega) en162 rfl rfl rfl rfl ?_
 intro Bs1 W hO1 hW
 refine l_end (n_then (c_seq (c_reg ?_)))
 refine aS ?_
 refine bS ?_
 refine l_end (n_then (c_ret ?_))
 refine ret_tmp (v := .slice _ _ _) rfl rfl ?_
 exact ⟨_, _, rfl, ⟨a1, c1, rfl, hO1⟩, hW⟩

set_option maxRecDepth 10000 in
/-- slices.Grow[[]int,int] -/
theorem g_Grow (n : Nat) (hn : n ≤ 17592186043904) : GivesX Tryz.prog 164 [.slice none 0 0, .int .i64 (n : Int)].toArray (fun _ => True) (NewSl 3 1 0 []) := by
 refine givesX_of Tryz.func164 rfl (bs := [.slice none 0 0, .int .i64 (n : Int), undef, undef, undef, undef, undef, undef, undef, undef, undef, undef, undef, undef, undef, undef, undef, undef, undef, undef, undef, undef, undef, undef, undef, undef, undef]) rfl ?_
 intro w hP hW
 refine c_seq (c_reg ?_)
 refine bS ?_
 refine l_end (n_then (c_seq (c_seq (c_reg ?_))))
 refine aI ?_
 refine l_val (r_lssN (b := false) (n := 0) rfl rfl rfl (decide_eq_false (by omega))) rfl rfl ?_
 refine l_end (n_then ?_)
 refine c_false rfl ?_
 refine c_skip (n_then (c_seq (c_seq (c_reg ?_))))
 refine aI ?_
 refine aS ?_
 refine l_val (r_cap Tryz.underlying27 rfl rfl) rfl rfl ?_
 refine aS ?_
 refine l_val (r_lenSlice Tryz.underlying27 rfl rfl) rfl rfl ?_
 refine l_val (r_subN rfl rfl rfl (by omega) (by omega)) rfl rfl ?_
 refine l_val (r_subN rfl rfl rfl (by omega) (by omega)) rfl rfl ?_
 refine bI ?_
 refine l_end (n_then (c_seq (c_reg ?_)))
 refine aI ?_
 refine l_val (r_gtrN (n := 0) rfl rfl rfl rfl) rfl rfl ?_
 refine l_split ?_ ?_
 ·intro hc1
  replace hc1 := of_decide_eq_true hc1
  refine l_end (n_then ?_)
  refine c_true rfl ?_
  refine c_reg ?_
  refine aS ?_
  refine aS ?_
  refine l_val (r_cap Tryz.underlying27 rfl rfl) rfl rfl ?_
  refine l_val (r_sliceTo (h := 0) Tryz.underlying27 tyC3.size rfl rfl rfl (by omega) (fun _ => rfl)) rfl rfl ?_
  refine aI ?_
  refine l_appendZ (k := n) tyE27 Tryz.underlying3 hW (by omega) (by omega) (by omega) rfl rfl rfl rfl rfl ?_
  intro gn cn cur W h1 h2 h3 hW
  refine aS ?_
  refine l_val (r_lenSlice Tryz.underlying27 rfl rfl) rfl rfl ?_
  refine l_val (r_sliceTo (h := 0) Tryz.underlying27 tyC3.size rfl rfl rfl (by omega) (fun h => by cases h)) rfl rfl ?_
  refine bS ?_
  refine l_end (n_then (c_seq (c_reg ?_)))
  refine aS ?_
  refine bS ?_
  refine l_end (n_then (c_ret ?_))
  refine ret_tmp (v := .slice _ _ _) rfl rfl ?_
  exact ⟨_, _, rfl, ⟨_, _, rfl, ⟨by simp, .inr ⟨gn, cur, rfl, rfl, by omega, h2, by omega, by simp⟩⟩⟩, hW⟩
 ·intro hc1
  replace hc1 := of_decide_eq_false hc1
  refine l_end (n_then ?_)
  refine c_false rfl ?_
  refine c_skip (n_then (c_seq (c_reg ?_)))
  refine aS ?_
  refine bS ?_
  refine l_end (n_then (c_ret ?_))
  refine ret_tmp (v := .slice _ _ _) rfl rfl ?_
  exact ⟨_, _, rfl, ⟨_, _, rfl, OwnSl.nil 3 1⟩, hW⟩

end Go.Proofs.YtoegpalacppllaaGreat

/- An iterator over a list. -/
namespace Go.Proofs.YtoegpalacppllaaGreat
open Go.RowKit Pl
open Tr Hn
set_option maxRecDepth 10000 in
/-- slices.Values[[]int,int] -/
theorem g_Values (aa : Option Addr) (an ac : Nat) : GivesX Tryz.prog 127 [.slice aa an ac].toArray (fun _ => True) (fun v Bs => ∃ g, v = .func (.func 163) #[] #[.pointer (some ⟨g, 0, none⟩)] ∧ Bs = [⟨g, [.slice aa an ac], 27⟩]) := by
 refine givesX_of Tryz.func127 rfl (bs := [.slice aa an ac, undef, undef, undef]) rfl ?_
 intro w hP hW
 refine c_seq (c_reg ?_)
 refine l_boxC hW (v := .slice _ _ _) rfl rfl rfl rfl rfl ?_
 intro g1 W hW
 refine l_val (r_assign (v := .nilFunc) rfl rfl) rfl rfl ?_
 refine l_end (n_then (c_seq (c_reg ?_)))
 refine l_val (r_closure (vs := [.pointer (some ⟨g1, 0, none⟩)]) rfl rfl) rfl rfl ?_
 refine l_val (r_assign (v := .func _ _ _) rfl rfl) rfl rfl ?_
 refine l_end (n_then (c_ret ?_))
 refine ret_tmp (v := .func _ _ _) rfl rfl ?_
 exact ⟨_, _, rfl, ⟨g1, rfl, rfl⟩, hW⟩

end Go.Proofs.YtoegpalacppllaaGreat

/- Merged lists, by the program. -/
namespace Go.Proofs.YtoegpalacppllaaGreat
open Go.RowKit Pl
open Tr Hn
set_option maxRecDepth 10000 in
/-- slices.Concat[[]int,int] -/
theorem g_Concat (aa : Option Addr) (an ac : Nat) (cs : List Sl) (gs : List (List Int)) (hm : sumL gs ≤ 4294967296) (han : an ≤ 4294967296) : GivesX Tryz.prog 128 [.slice aa an ac].toArray (fun w => RdG w ⟨aa, an, ac⟩ cs gs) (NewSl 3 1 (sumL gs) (il gs.flatten)) := by
 refine givesX_of Tryz.func128 rfl (bs := [.slice aa an ac, undef, undef, undef, undef, undef, undef, undef, undef, undef, undef, undef, undef, undef, undef, undef, undef, undef, undef, undef, undef, undef, undef, undef, undef, undef, undef, undef, undef, undef, undef, undef, undef, undef, undef, undef]) rfl ?_
 intro w hP hW
 have hn : an = gs.length := by have h1 := hP.n; have h2 := hP.len; simp only at h1; omega
 refine c_seq (c_reg ?_)
 refine bS ?_
 refine l_end (n_then (c_seq (c_reg ?_)))
 refine bI ?_
 refine l_end (n_then (c_seq (c_seq (c_reg ?_))))
 refine aS ?_
 refine l_val (r_lenSlice Tryz.underlying150 rfl rfl) rfl rfl ?_
 refine aI ?_
 refine l_end (n_then (c_block ?_))
 refine c_loop (fun (x : Nat × Nat) (j : Nat → Value) => [.slice aa an ac, j 1, j 2, .int .i64 (x.2 : Int), j 4, j 5, j 6, j 7, j 8, .slice aa an ac, .int .i64 (an : Int), .int .i64 (x.1 : Int), j 12, j 13, j 14, j 15, j 16, j 17, j 18, j 19, j 20, j 21, j 22, j 23, j 24, j 25, j 26, j 27, j 28, j 29, j 30, j 31, j 32, j 33, j 34, j 35]) (fun (x : Nat × Nat) => []) (fun (x : Nat × Nat) => x.1 ≤ an ∧ x.2 = sumL (gs.take x.1)) (fun (x : Nat × Nat) => an - x.1) (0, 0) (by kernel_rfl) hW ⟨Nat.zero_le _, rfl⟩ ?_
 intro x j W hx hW
 obtain ⟨i, m⟩ := x
 obtain ⟨hx, hm2⟩ := hx
 simp only at hx hm2
 have hle := sumL_take_le gs i
 refine c_seq (c_reg ?_)
 refine l_val (r_lssN rfl rfl rfl rfl) rfl rfl ?_
 refine l_split ?_ ?_
 ·intro hc1
  replace hc1 := of_decide_eq_true hc1
  obtain ⟨b0, o0, ha⟩ := hP.ptr (by omega)
  subst ha
  obtain ⟨s, l, e, f, hc, hr⟩ := hP.get (i := i) (by omega)
  have hsl := hr.len
  have htk := sumL_take_le gs (i + 1)
  rw [sumL_take f] at htk
  refine l_end (n_then (c_seq ?_))
  refine c_true rfl ?_
  refine c_skip (n_then (c_seq (c_block (c_seq (c_reg ?_)))))
  refine l_val (r_indexAddrSl2 (n := i) Tryz.underlying150 tyC27.size rfl rfl rfl (by omega)) rfl rfl ?_
  refine l_loadF hW tyC27 (v := s.v) hc rfl rfl rfl rfl ?_
  refine bS ?_
  refine l_end (n_then (c_seq (c_reg ?_)))
  refine aI ?_
  refine aS ?_
  refine l_val (r_lenSlice Tryz.underlying27 rfl rfl) rfl rfl ?_
  refine l_val (r_addN rfl rfl rfl (by omega)) rfl rfl ?_
  refine bI ?_
  refine l_end (n_then (c_seq (c_reg ?_)))
  refine aI ?_
  refine l_val (r_lssN (b := false) (n := 0) rfl rfl rfl (decide_eq_false (by omega))) rfl rfl ?_
  refine l_end (n_then ?_)
  refine c_false rfl ?_
  refine c_skip (n_block (n_then (c_reg ?_)))
  refine l_val (r_addN (n := 1) rfl rfl rfl (by omega)) rfl rfl ?_
  refine aI ?_
  refine l_end (n_then ?_)
  exact loop_next (i + 1, m + s.n) (by kernel_rfl) hW ⟨by simp only; omega, by simp only; rw [sumL_take f]; omega⟩ (by simp only; omega)
 ·intro hc1
  replace hc1 := of_decide_eq_false hc1
  have e0 : i = an := by omega
  rw [e0, List.take_of_length_le (by omega)] at hm2
  refine l_end (n_then (c_seq ?_))
  refine c_false rfl ?_
  refine c_exit (x_then (x_then ?_))
  refine x_hit ?_
  refine n_then (c_seq (c_reg ?_))
  refine aI ?_
  refine l_callX hW (g_Grow m (by omega)) en164 trivial rfl rfl rfl rfl ?_
  rintro _ Bs W ⟨a0, c0, rfl, hO0⟩ hW
  refine bS ?_
  refine l_end (n_then (c_seq (c_seq (c_reg ?_))))
  refine aS ?_
  refine l_val (r_lenSlice Tryz.underlying150 rfl rfl) rfl rfl ?_
  refine aI ?_
  refine l_end (n_then (c_block ?_))
  refine c_loop (fun (y : Nat × Nat × Option Addr × Nat × List Blk) (j : Nat → Value) => [.slice aa an ac, j 1, j 2, j 3, j 4, j 5, .slice y.2.2.1 y.2.1 y.2.2.2.1, j 7, j 8, .slice aa an ac, .int .i64 (an : Int), j 11, .bool false, j 13, j 14, j 15, j 16, j 17, j 18, j 19, j 20, j 21, j 22, j 23, .slice a0 0 c0, .slice aa an ac, .int .i64 (an : Int), .int .i64 (y.1 : Int), j 28, j 29, j 30, j 31, j 32, j 33, j 34, j 35]) (fun (y : Nat × Nat × Option Addr × Nat × List Blk) => [] ++ y.2.2.2.2) (fun (y : Nat × Nat × Option Addr × Nat × List Blk) => y.1 ≤ an ∧ OwnSl 3 1 y.2.2.1 y.2.1 y.2.2.2.1 (il (gs.take y.1).flatten) y.2.2.2.2) (fun (y : Nat × Nat × Option Addr × Nat × List Blk) => an - y.1) (0, 0, a0, c0, Bs) (by kernel_rfl) hW ⟨Nat.zero_le _, hO0⟩ ?_
  intro y j W hx hW
  obtain ⟨hy, hO⟩ := hx
  have hyn := hO.1
  rw [il_len, ← sumL_flat] at hyn
  refine c_seq (c_reg ?_)
  refine l_val (r_lssN rfl rfl rfl rfl) rfl rfl ?_
  refine l_split ?_ ?_
  ·intro hc2
   replace hc2 := of_decide_eq_true hc2
   obtain ⟨b0, o0, ha⟩ := hP.ptr (by omega)
   subst ha
   obtain ⟨s, l, e, f, hc, hr⟩ := hP.get (i := y.1) (by omega)
   have hsl := hr.len
   have htk := sumL_take_le gs (y.1 + 1)
   rw [sumL_take f] at htk
   refine l_end (n_then (c_seq ?_))
   refine c_true rfl ?_
   refine c_skip (n_then (c_seq (c_block (c_seq (c_reg ?_)))))
   refine l_val (r_indexAddrSl2 (n := y.1) Tryz.underlying150 tyC27.size rfl rfl rfl (by omega)) rfl rfl ?_
   refine l_loadF hW tyC27 (v := s.v) hc rfl rfl rfl rfl ?_
   refine bS ?_
   refine l_end (n_then (c_reg ?_))
   refine aS ?_
   refine aS ?_
   refine l_appendR tyE27 (L := []) hO hW (hr.past hW.below).rd (N := y.2.1 + s.n) rfl rfl rfl rfl rfl rfl (by rw [il_len]; exact hsl.symm) (fun h => ⟨hr.ok.nil0 h, hr.ok.nil h⟩) (il_one _) (by unfold maxLen; omega) (by omega) ?_
   intro a1 c1 Bs1 W hO1 hW
   replace hO1 := hO1.castx rfl (xs' := il (gs.take (y.1 + 1)).flatten) (by rw [take_flat f, il_append])
   refine bS ?_
   refine l_end (n_block (n_then (c_reg ?_)))
   refine l_val (r_addN (n := 1) rfl rfl rfl (by omega)) rfl rfl ?_
   refine aI ?_
   refine l_end (n_then ?_)
   exact loop_next (y.1 + 1, y.2.1 + s.n, a1, c1, Bs1) (by kernel_rfl) hW ⟨by simp only; omega, hO1⟩ (by simp only; omega)
  ·intro hc2
   replace hc2 := of_decide_eq_false hc2
   have e : y.1 = an := by omega
   rw [e, List.take_of_length_le (by omega)] at hO
   have e2 : y.2.1 = sumL gs := by rw [e, List.take_of_length_le (by omega)] at hyn; omega
   rw [e2] at hO
   refine l_end (n_then (c_seq ?_))
   refine c_false rfl ?_
   refine c_exit (x_then (x_then ?_))
   refine x_hit ?_
   refine n_then (c_seq (c_reg ?_))
   refine aS ?_
   refine bS ?_
   refine l_end (n_then (c_ret ?_))
   refine ret_tmp (v := .slice _ _ _) rfl rfl ?_
   exact ⟨_, _, rfl, ⟨_, _, by rw [e2], hO⟩, hW⟩

set_option maxRecDepth 10000 in
/-- headend/trace.merged[int] -/
theorem g_merged (aa : Option Addr) (an ac : Nat) (cs : List Sl) (gs : List (List Int)) (hm : sumL gs ≤ 4294967296) (han : an ≤ 4294967296) : GivesX Tryz.prog 80 [.slice aa an ac].toArray (fun w => RdG w ⟨aa, an, ac⟩ cs gs) (fun v Bs => ∃ s : Sl, v = s.v ∧ NewI s (sortI gs.flatten) Bs) := by
 refine givesX_of Tryz.func80 rfl (bs := [.slice aa an ac, undef, undef, undef, undef, undef, undef]) rfl ?_
 intro w hP hW
 refine c_seq (c_reg ?_)
 refine bS ?_
 refine l_end (n_then (c_seq (c_reg ?_)))
 refine aS ?_
 refine l_callX hW (g_Concat aa an ac cs gs hm han) en128 (hP.past hW.below) rfl rfl rfl rfl ?_
 rintro _ Bs W ⟨a1, c1, rfl, hO⟩ hW
 refine l_callX hW (g_Values a1 (sumL gs) c1) en127 trivial rfl rfl rfl rfl ?_
 rintro _ _ W ⟨g, rfl, rfl⟩ hW
 refine l_callX hW (g_Sorted g a1 (sumL gs) c1 gs.flatten (by rw [← sumL_flat]; exact hm)) en126 ⟨by rw [cell_at (hW.holds ⟨g, [.slice a1 (sumL gs) c1], 27⟩ (by simp))]; rfl, hO.rep.at hW (List.sublist_append_left Bs _)⟩ rfl rfl rfl rfl ?_
 rintro _ Bs2 W ⟨a2, c2, rfl, hO2⟩ hW
 refine bS ?_
 refine l_end (n_then (c_ret ?_))
 refine ret_tmp (v := .slice _ _ _) rfl rfl ?_
 exact ⟨_, Bs2, rfl, ⟨_, rfl, hO2.newI⟩, hW.sub (List.sublist_append_right _ _)⟩

end Go.Proofs.YtoegpalacppllaaGreat

/- Partitions, and queries of a trace, by the program. -/
namespace Go.Proofs.YtoegpalacppllaaGreat
open Go.RowKit Pl
open Tr Hn
set_option maxRecDepth 10000 in
/-- slices.Clone[[]headend/api.Subset,headend/api.Subset] -/
theorem g_CloneB (aa : Option Addr) (an ac : Nat) (l : List (Int × Int)) (hl : l.length ≤ 4294967296) : GivesX Tryz.prog 61 [.slice aa an ac].toArray (fun w => RdB w ⟨aa, an, ac⟩ l) (NewSl 64 2 l.length (sl2 l)) := by
 refine givesX_of Tryz.func61 rfl (bs := [.slice aa an ac, undef, undef, undef, undef, undef, undef, undef]) rfl ?_
 intro w hP hW
 have hn : an = l.length := hP.len
 refine c_seq (c_reg ?_)
 refine bS ?_
 refine l_end (n_then (c_seq (c_seq (c_reg ?_))))
 refine aS ?_
 refine l_val (r_eqlNil Tryz.underlying33 rfl rfl rfl rfl) rfl rfl ?_
 refine l_split ?_ ?_
 ·intro hc1
  replace hc1 := of_decide_eq_true hc1
  refine l_end (n_then ?_)
  refine c_true rfl ?_
  refine c_seq (c_reg ?_)
  refine bS ?_
  refine l_end (n_then (c_ret (r_then ?_)))
  refine ret_tmp (v := .slice _ _ _) rfl rfl ?_
  have h0 : l = [] := List.eq_nil_of_length_eq_zero (by have := hP.ok.nil0 hc1; simp only at this; omega)
  exact ⟨_, [], rfl, by rw [h0]; exact ⟨none, 0, rfl, OwnSl.nil 64 2⟩, hW.sub (List.nil_sublist _)⟩
 ·intro hc1
  replace hc1 := of_decide_eq_false hc1
  refine l_end (n_then ?_)
  refine c_false rfl ?_
  refine c_skip (n_then (c_seq (c_reg ?_)))
  refine l_buildSliceF hW bsl33_0_ rfl rfl rfl rfl ?_
  intro ge W hW
  refine aS ?_
  refine l_twinB tyE33 hW (s := ⟨aa, an, ac⟩) (RdB.past hP hW.below) (by unfold maxLen; omega) (by omega) rfl rfl rfl rfl rfl ?_
  intro a2 c2 Bs W hs hW
  refine bS ?_
  refine l_end (n_then (c_ret ?_))
  refine ret_tmp (v := .slice _ _ _) rfl rfl ?_
  exact ⟨_, _, rfl, ⟨_, _, rfl, hs⟩, hW⟩

theorem allm_len {s : Sc} (hd : s.d ≤ 6) : ∀ (l : List (Int × Int)), (allm s l).length ≤ l.length * 64
 | [] => Nat.zero_le _
 | x :: l => by
  have h1 := mem_len s x.1 x.2 (p2 s.d.toNat)
  have h2 := p2_le (n := s.d.toNat) (by omega)
  have h3 := allm_len hd l
  rw [allm_cons, List.length_append, List.length_cons, Nat.succ_mul]; omega
theorem compI : CompI Tryz.prog 86 := ⟨Tryz.slices_Compact_int, Tryz.slices_Compact_int_empty⟩
set_option maxRecDepth 10000 in
/-- headend/trace.CheckParts -/
theorem g_CheckParts (s : Sc) (ba : Option Addr) (bn bc : Nat) (l : List (Int × Int)) (hl : l.length ≤ 100) : GivesR Tryz.prog 37 [.agg [.int .u8 s.k, .int .i64 s.d, .int .i64 s.g, .int .u64 s.p, .int .u64 s.q, .int .u64 s.r].toArray, .slice ba bn bc].toArray (fun w => RdB w ⟨ba, bn, bc⟩ l) (.int .i64 (partsE s l)) := by
 refine givesR_of Tryz.func37 rfl (bs := [.agg [.int .u8 s.k, .int .i64 s.d, .int .i64 s.g, .int .u64 s.p, .int .u64 s.q, .int .u64 s.r].toArray, .slice ba bn bc, undef, undef, undef, undef, undef, undef, undef, undef, undef, undef, undef, undef, undef, undef, undef, undef, undef, undef, undef, undef, undef, undef, undef, undef, undef, undef, undef, undef, undef, undef]) rfl ?_
 intro w hP hW
 have hn : bn = l.length := hP.len
 refine c_seq (c_reg ?_)
 refine xB hW ?_
 intro g1 W hW
 refine bI ?_
 refine l_end (n_then (c_seq (c_seq (c_reg ?_))))
 refine dA hW 0 tyA26 ?_
 refine l_call hW (g_Check _) en68 rfl rfl rfl rfl ?_
 intro W hW
 refine bI ?_
 refine l_end (n_then (c_seq (c_reg ?_)))
 refine aI ?_
 refine l_val (r_neq rfl rfl rfl rfl) rfl rfl ?_
 refine l_split ?_ ?_
 ·intro hc1
  replace hc1 := of_decide_eq_true hc1
  have hs := chk_bad hc1
  refine l_end (n_then ?_)
  refine c_true rfl ?_
  refine c_seq (c_reg ?_)
  refine aI ?_
  refine bI ?_
  refine l_end (n_then (c_ret (r_then ?_)))
  refine ret_tmp (v := .int .i64 (partsE s l)) rfl ?_ ⟨rfl, hW.below⟩
  exact congrArg (Value.int .i64) (parts_s hc1).symm
 ·intro hc1
  replace hc1 := of_decide_eq_false hc1
  have hs := chk_zero hc1
  obtain ⟨k1, k3, d0, d6, -⟩ := schB_iff.1 hs
  have hp := p2_le (n := s.d.toNat) (by omega)
  refine l_end (n_then ?_)
  refine c_false rfl ?_
  refine c_skip (n_then (c_seq (c_reg ?_)))
  refine dA hW 0 tyA26 ?_
  refine aS ?_
  refine l_callX hW (g_psubsets s ba bn bc l hs hl) en83 (hP.past hW.below) rfl rfl rfl rfl ?_
  rintro _ BsS W ⟨tS, ss, rfl, hG⟩ hW
  refine l_val (r_move (v := .tuple _) rfl rfl) rfl rfl ?_
  refine l_val (r_extract (v := .slice _ _ _) rfl rfl rfl) rfl rfl ?_
  refine l_val (r_extract (v := .int _ _) rfl rfl rfl) rfl rfl ?_
  refine bS ?_
  refine bI ?_
  refine l_end (n_then (c_seq (c_seq (c_reg ?_))))
  refine aI ?_
  refine l_val (r_neq rfl rfl rfl rfl) rfl rfl ?_
  refine l_split ?_ ?_
  ·intro hc2
   replace hc2 := of_decide_eq_true hc2
   refine l_end (n_then ?_)
   refine c_true rfl ?_
   refine c_seq (c_reg ?_)
   refine aI ?_
   refine bI ?_
   refine l_end (n_then (c_ret (r_then ?_)))
   refine ret_tmp (v := .int .i64 (partsE s l)) rfl ?_ ⟨rfl, hW.below⟩
   exact congrArg (Value.int .i64) (parts_l (fun e => hc1 e) hc2).symm
  ·intro hc2
   replace hc2 := of_decide_eq_false hc2
   have hz0 : subsE s l = 0 := by omega
   have hal := allm_len d6 l
   have hsi := sortI_len (allm s l)
   obtain ⟨tn, hmn⟩ : ∃ tn, tn = tS.n := ⟨_, rfl⟩
   refine l_end (n_then ?_)
   refine c_false rfl ?_
   refine c_skip (n_then (c_seq (c_reg ?_)))
   refine aS ?_
   have hG1 := (hG hz0).at hW (List.sublist_append_right [_] BsS)
   have htn : tS.n = l.length := by have h1 := hG1.n; have h2 := hG1.len; rw [mems_len] at h2; omega
   refine l_callX hW (g_merged tS.a tS.n tS.c ss (mems s l) (by rw [sumL_flat]; exact Nat.le_trans hal (by omega)) (by omega)) en80 hG1 rfl rfl rfl rfl ?_
   rintro _ BM W ⟨sm, rfl, hNM⟩ hW
   replace hNM : NewI sm (sortI (allm s l)) BM := hNM
   have hmn2 := hNM.n
   refine bS ?_
   refine l_end (n_then (c_seq (c_seq (c_reg ?_))))
   refine aS ?_
   refine l_callX hW (g_Clone sm.a sm.n sm.c (sortI (allm s l)) (by omega)) en60 (hNM.rep.at hW (List.sublist_append_right _ BM)) rfl rfl rfl rfl ?_
   rintro _ BC W ⟨sc, rfl, hNC⟩ hW
   refine l_compact compI hNC hW (by omega) en86 rfl rfl rfl rfl ?_
   intro W hW
   refine l_val (r_lenSlice Tryz.underlying27 rfl rfl) rfl rfl ?_
   refine aS ?_
   refine l_val (r_lenSlice Tryz.underlying27 rfl rfl) rfl rfl ?_
   refine l_val (r_lssN rfl rfl rfl rfl) rfl rfl ?_
   refine l_split ?_ ?_
   ·intro hc3
    replace hc3 := of_decide_eq_true hc3
    refine l_end (n_then ?_)
    refine c_true rfl ?_
    refine c_seq (c_reg ?_)
    refine bI ?_
    refine l_end (n_then (c_ret (r_then ?_)))
    refine ret_tmp (v := .int .i64 (partsE s l)) rfl ?_ ⟨rfl, hW.below⟩
    exact congrArg (Value.int .i64) (parts_n hc1 hc2 (compact_sort.1 (by omega))).symm
   ·intro hc3
    replace hc3 := of_decide_eq_false hc3
    refine l_end (n_then ?_)
    refine c_false rfl ?_
    refine c_skip (n_then (c_seq (c_reg ?_)))
    refine bI ?_
    refine l_end (n_then (c_ret ?_))
    refine ret_tmp (v := .int .i64 (partsE s l)) rfl ?_ ⟨rfl, hW.below⟩
    exact congrArg (Value.int .i64) (parts_y hc1 hc2 (Classical.not_not.1 fun hn => absurd (compact_sort.2 hn) (by omega))).symm

set_option maxRecDepth 10000 in
/-- (*headend/trace.tracer).seen -/
theorem g_tseen (q : Bo) (t : Sl) (gx nn a e : Nat) (n2 l2 : Sl) (oa : Option Addr) (on oc : Nat) (o : List Bool) (f : Int) (n0 : 0 ≤ q.n) (n8 : q.n ≤ 8) (x0 : 0 ≤ q.x) (x1 : q.x ≤ q.a) (m1 : 1 ≤ q.m) (m4 : q.m ≤ 4) (hn : nn ≤ 8) (hx2 : q.a + ((2 * nn + 1 : Nat) : Int) ≤ 100000) (ha2 : a ≤ 100000) (ho : o.length ≤ 100) : GivesS Tryz.prog 105 [.pointer (some ⟨gx, 0, none⟩), .slice oa on oc, .int .i64 f].toArray (fun b0 L => ∀ W, Cl b0 L W → RdT W ⟨oa, on, oc⟩ o) [⟨gx, (boC q t ++ trR nn n2 l2 a e), 124⟩] (fun v B => v = .bool (seenN o f (2 * nn + 1) q a).2.1 ∧ B = [⟨gx, boC (seenN o f (2 * nn + 1) q a).1 t ++ trR nn n2 l2 (seenN o f (2 * nn + 1) q a).2.2 e, 124⟩]) := by
 refine givesS_of Tryz.func105 rfl (bs := [.pointer (some ⟨gx, 0, none⟩), .slice oa on oc, .int .i64 f, undef, undef, undef, undef, undef, undef, undef, undef, undef, undef, undef, undef, undef, undef, undef, undef, undef, undef, undef, undef, undef, undef, undef, undef, undef, undef, undef, undef]) rfl ?_
 intro b L w hP hW
 refine c_seq (c_reg ?_)
 refine bB ?_
 refine l_end (n_then (c_seq (c_seq (c_reg ?_))))
 refine aP ?_
 refine l_val (r_nilCheck rfl rfl) rfl rfl ?_
 refine l_val (r_fieldAddr 28 Tryz.underlying124 rfl tyC3.size rfl rfl rfl) rfl rfl ?_
 refine dC hW 0 tyC3 ?_
 refine l_val (r_mulN (m := 2) rfl rfl rfl (by omega)) rfl rfl ?_
 refine l_val (r_addN (n := 1) rfl rfl rfl (by omega)) rfl rfl ?_
 refine aI ?_
 refine l_end (n_then (c_block ?_))
 refine c_loop (fun (z : Nat × Bo) (j : Nat → Value) => [.pointer (some ⟨gx, 0, none⟩), .slice oa on oc, .int .i64 f, j 3, j 4, j 5, j 6, .pointer (some ⟨gx, 0, none⟩), .pointer (some ⟨gx, 0, none⟩), .pointer (some ⟨gx, 28, none⟩), .int .i64 (nn : Int), .int .i64 ((2 * nn : Nat) : Int), .int .i64 (((2 * nn) + 1 : Nat) : Int), .int .i64 (z.1 : Int), j 14, j 15, j 16, j 17, j 18, j 19, j 20, j 21, j 22, j 23, j 24, j 25, j 26, j 27, j 28, j 29, j 30]) (fun (z : Nat × Bo) => [⟨gx, (boC z.2 t ++ trR nn n2 l2 (a + z.1) e), 124⟩] ++ L) (fun (z : Nat × Bo) => z.1 ≤ (2 * nn + 1) ∧ Askd q z.2 z.1 ∧ seenN o f (2 * nn + 1) q a = seenN o f ((2 * nn + 1) - z.1) z.2 (a + z.1)) (fun (z : Nat × Bo) => (2 * nn + 1) - z.1) (0, q) (by kernel_rfl) hW ⟨Nat.zero_le _, Askd.refl x0 x1, rfl⟩ ?_
 intro z j W hx hW
 obtain ⟨hz, ha, hsn⟩ := hx
 have e1 := ha.a
 have e2 := ha.n
 have e3 := ha.x0
 have e4 := ha.x1
 have e5 := ha.m
 refine c_seq (c_reg ?_)
 refine l_val (r_lssN rfl rfl rfl rfl) rfl rfl ?_
 refine l_split ?_ ?_
 ·intro hc1
  replace hc1 := of_decide_eq_true hc1
  refine l_end (n_then (c_seq ?_))
  refine c_true rfl ?_
  refine c_skip (n_then (c_seq (c_block (c_seq (c_reg ?_)))))
  refine aP ?_
  refine l_val (r_nilCheck rfl rfl) rfl rfl ?_
  refine l_val (r_fieldAddr 29 Tryz.underlying124 rfl tyA38.size rfl rfl rfl) rfl rfl ?_
  refine l_val (r_fieldAddr 31 Tryz.underlying38 rfl tyC3.size rfl rfl rfl) rfl rfl ?_
  refine dC hW 0 tyC3 ?_
  refine l_val (r_addN (n := 1) rfl rfl rfl (by omega)) rfl rfl ?_
  refine l_val (r_nilCheck rfl rfl) rfl rfl ?_
  refine l_val (r_fieldAddr 29 Tryz.underlying124 rfl tyA38.size rfl rfl rfl) rfl rfl ?_
  refine l_val (r_fieldAddr 31 Tryz.underlying38 rfl tyC3.size rfl rfl rfl) rfl rfl ?_
  refine l_storeC hW 0 tyC3 (v := .int .i64 ((a + z.1 + 1 : Nat) : Int)) rfl rfl rfl rfl rfl rfl (trR_len (by decide)) rfl ?_
  intro W hW
  replace hW := (show Cl _ ([⟨gx, boC z.2 t ++ trR nn n2 l2 (a + z.1 + 1) e, 124⟩] ++ L) _ from hW)
  refine l_end (n_then (c_seq (c_reg ?_)))
  refine aP ?_
  refine l_val (r_nilCheck rfl rfl) rfl rfl ?_
  refine l_val (r_fieldAddr 0 Tryz.underlying124 rfl tyA31.size rfl rfl rfl) rfl rfl ?_
  refine aS ?_
  refine aI ?_
  refine l_callS (B := [_]) (L := L) (g_askG (trR nn n2 l2 (a + z.1 + 1) e) 124 z.2 t gx oa on oc o f (by omega) (by omega) (by omega) (by omega) (by omega) (by omega) (by omega) (by omega) ho) hW en84 hP rfl rfl rfl rfl ?_
  rintro _ _ W ⟨rfl, rfl⟩ hW
  refine l_split ?_ ?_
  ·intro hc2
   refine l_end (n_then ?_)
   refine c_true rfl ?_
   refine c_seq (c_reg ?_)
   refine bB ?_
   refine l_end (n_then (c_ret (r_block (r_then (r_then (r_block (r_then ?_)))))))
   refine ret_tmp (v := .bool _) rfl rfl ?_
   have e : seenN o f (2 * nn + 1) q a = (askd z.2 o f, true, a + z.1 + 1) := by rw [hsn, show (2 * nn + 1) - z.1 = ((2 * nn + 1) - z.1 - 1) + 1 by omega, seenN_yes hc2]
   exact ⟨_, [_], rfl, ⟨by rw [e], by rw [e]⟩, hW⟩
  ·intro hc2
   refine l_end (n_then ?_)
   refine c_false rfl ?_
   refine c_skip (n_block (n_then (c_reg ?_)))
   refine l_val (r_addN (n := 1) rfl rfl rfl (by omega)) rfl rfl ?_
   refine aI ?_
   refine l_end (n_then ?_)
   exact loop_next (z.1 + 1, askd z.2 o f) (by kernel_rfl) hW ⟨by simp only; omega, by simp only; exact ha.ask o f, by simp only; rw [hsn, show (2 * nn + 1) - z.1 = ((2 * nn + 1) - (z.1 + 1)) + 1 by omega, seenN_no hc2]; rfl⟩ (by simp only; omega)
 ·intro hc1
  replace hc1 := of_decide_eq_false hc1
  refine l_end (n_then (c_seq ?_))
  refine c_false rfl ?_
  refine c_exit (x_then (x_then ?_))
  refine x_hit ?_
  refine n_then (c_seq (c_reg ?_))
  refine bB ?_
  refine l_end (n_then (c_ret ?_))
  refine ret_tmp (v := .bool _) rfl rfl ?_
  have e : seenN o f (2 * nn + 1) q a = (z.2, false, a + z.1) := by rw [hsn, show (2 * nn + 1) - z.1 = 0 by omega, seenN_zero]
  exact ⟨_, [_], rfl, ⟨by rw [e], by rw [e]⟩, hW⟩

end Go.Proofs.YtoegpalacppllaaGreat

/- Splits, by the program. -/
namespace Go.Proofs.YtoegpalacppllaaGreat
open Go.RowKit Pl
open Tr Hn
set_option maxRecDepth 10000 in
/-- headend/cover.Split$1 -/
theorem g_Split1 (p q r t : Int) : GivesX Tryz.prog 148 [.int .i64 p, .int .i64 q, .int .i64 r, .int .i64 t].toArray (fun _ => True) (fun u Bs => ∃ g, u = .tuple #[.slice (some ⟨g, 0, none⟩) 2 2, .int .i64 0] ∧ Bs = [⟨g, [.int .i64 p, .int .i64 q, .int .i64 r, .int .i64 t], 64⟩]) := by
 refine givesX_of Tryz.func148 rfl (bs := [.int .i64 p, .int .i64 q, .int .i64 r, .int .i64 t, undef, undef, undef, undef, undef, undef, undef, undef, undef, undef, undef, undef, undef]) rfl ?_
 intro w hP hW
 refine c_seq (c_reg ?_)
 refine bS ?_
 refine bI ?_
 refine l_end (n_then (c_seq (c_reg ?_)))
 refine aI ?_
 refine aI ?_
 refine l_val (r_build (ps := [(0, .int _ _), (1, .int _ _)]) (bld64_0_1 _ _) rfl rfl) rfl rfl ?_
 refine aI ?_
 refine aI ?_
 refine l_val (r_build (ps := [(0, .int _ _), (1, .int _ _)]) (bld64_0_1 _ _) rfl rfl) rfl rfl ?_
 refine l_buildSliceF hW (bsl33_2_0_1 _ _ _ _) rfl rfl rfl rfl ?_
 intro gs W hW
 refine bS ?_
 refine bI ?_
 refine l_end (n_then (c_ret ?_))
 refine ret_tmp2 rfl rfl rfl ?_
 exact ⟨_, _, rfl, ⟨gs, rfl, rfl⟩, hW⟩

set_option maxRecDepth 10000 in
/-- (headend/cover.node).sibling -/
theorem g_psibling (v : Nat) (hv : v < 128) : Gives Tryz.prog 55 [.int .i64 (v : Int)].toArray (.int .i64 ((sib v : Nat) : Int)) := by
 refine gives_of Tryz.func55 rfl (bs := [.int .i64 (v : Int), undef, undef, undef, undef]) rfl ?_
 intro w hW
 refine c_seq (c_reg ?_)
 refine bI ?_
 refine l_end (n_then (c_seq (c_reg ?_)))
 refine aI ?_
 refine l_val (r_xorS rfl rfl rfl hv) rfl rfl ?_
 refine bI ?_
 refine l_end (n_then (c_ret ?_))
 refine ret_tmp (v := .int .i64 ((sib v : Nat) : Int)) rfl ?_ ⟨rfl, hW.below⟩
 rfl

set_option maxRecDepth 10000 in
/-- headend/cover.Split -/
theorem g_SplitN (s : Sc) (v x : Nat) (hs : schB s = true) (hsx : subB s v x = true) (h1 : (membersN s v x (p2 s.d.toNat)).length ≠ 1) : GivesX Tryz.prog 107 [.agg [.int .u8 s.k, .int .i64 s.d, .int .i64 s.g, .int .u64 s.p, .int .u64 s.q, .int .u64 s.r].toArray, .agg [.int .i64 (v : Int), .int .i64 (x : Int)].toArray].toArray (fun _ => True) (fun u Bs => ∃ a c, u = .tuple #[.slice a 2 c, .int .i64 0] ∧ OwnSl 64 2 a 2 c (sl2 (splitV s v x)) Bs) := by
 refine givesX_of Tryz.func107 rfl (bs := [.agg [.int .u8 s.k, .int .i64 s.d, .int .i64 s.g, .int .u64 s.p, .int .u64 s.q, .int .u64 s.r].toArray, .agg [.int .i64 (v : Int), .int .i64 (x : Int)].toArray, undef, undef, undef, undef, undef, undef, undef, undef, undef, undef, undef, undef, undef, undef, undef, undef, undef, undef, undef, undef, undef, undef, undef, undef, undef, undef, undef, undef, undef, undef, undef, undef, undef, undef, undef, undef, undef, undef, undef, undef, undef, undef, undef, undef, undef, undef, undef, undef, undef, undef, undef, undef, undef, undef, undef, undef, undef, undef, undef, undef, undef, undef, undef, undef, undef, undef, undef, undef, undef, undef, undef, undef, undef, undef, undef, undef, undef, undef, undef, undef, undef, undef, undef, undef, undef, undef, undef, undef, undef, undef, undef, undef]) rfl ?_
 intro w hP hW
 obtain ⟨k1, k3, d0, d6, -⟩ := schB_iff.1 hs
 obtain ⟨hx1, hx2, hx3, hx4⟩ := sub_x d6 hsx
 obtain ⟨p1, p2', p3, p4⟩ := sub_parts hsx
 refine c_seq (c_reg ?_)
 refine xB hW ?_
 intro g1 W hW
 refine xB hW ?_
 intro g2 W hW
 refine bS ?_
 refine bI ?_
 refine l_end (n_then (c_seq (c_reg ?_)))
 refine dA hW 1 tyA26 ?_
 refine dA hW 0 tyA64 ?_
 refine l_buildSliceF hW (bsl33_1_0 _ _) rfl rfl rfl rfl ?_
 intro gb W hW
 refine l_callR hW (g_enter s (some ⟨gb, 0, none⟩) 1 1 [((v : Int), (x : Int))] hs (by simp)) en51 (RdB.one hW 0 rfl) rfl rfl rfl rfl ?_
 intro W hW
 obtain ⟨ee, hee⟩ : ∃ ee, ee = entE s [((v : Int), (x : Int))] := ⟨_, rfl⟩
 have he0 : ee = 0 := hee.trans ((entE_one s v x).trans (by rw [hsx]; rfl))
 rw [← hee]
 refine l_val (r_move (v := .tuple _) rfl rfl) rfl rfl ?_
 refine l_val (r_extract (v := .agg _) rfl rfl rfl) rfl rfl ?_
 refine l_val (r_extract (v := .int _ _) rfl rfl rfl) rfl rfl ?_
 refine l_alloc hW tyZ106 rfl rfl rfl ?_
 intro g3 W hW
 refine l_storeA hW 0 tyA106 rfl rfl rfl rfl rfl rfl rfl (entT_len _ _) (entT_one _ _) ?_
 intro W hW
 refine bI ?_
 refine l_end (n_then (c_seq (c_seq (c_reg ?_))))
 refine aI ?_
 refine l_val (r_neq rfl rfl rfl rfl) rfl rfl ?_
 refine l_split ?_ ?_
 ·intro hc1
  replace hc1 := of_decide_eq_true hc1
  omega
 ·intro hc1
  replace hc1 := of_decide_eq_false hc1
  have htt : entT s [((v : Int), (x : Int))] = [.int .u8 s.k, .int .i64 s.d, .int .i64 (strideN s.d : Int)] := entT_yes (by rw [← hee]; omega)
  replace hW := (show Cl _ (⟨_, entT s [((v : Int), (x : Int))], _⟩ :: _) _ from hW)
  rw [htt] at hW
  refine l_end (n_then ?_)
  refine c_false rfl ?_
  refine c_skip (n_then (c_seq (c_seq (c_reg ?_))))
  refine dA hW 0 tyA106 ?_
  refine dA hW 2 tyA64 ?_
  refine l_callX hW (g_pmembers s v x d0 d6 hx1 hx2 hx3 hx4) en89 trivial rfl rfl rfl rfl ?_
  rintro _ BM W ⟨am, cm, rfl, hOM⟩ hW
  refine l_val (r_lenSlice Tryz.underlying27 rfl rfl) rfl rfl ?_
  refine l_val (r_eqlN (n := 1) rfl rfl rfl rfl) rfl rfl ?_
  refine l_split ?_ ?_
  ·intro hc2
   replace hc2 := of_decide_eq_true hc2
   omega
  ·intro hc2
   replace hc2 := of_decide_eq_false hc2
   refine l_end (n_then ?_)
   refine c_false rfl ?_
   refine c_skip (n_then (c_seq (c_reg ?_)))
   refine l_val (r_assign (v := .func _ _ _) rfl rfl) rfl rfl ?_
   refine l_end (n_then (c_seq (c_block (c_seq (c_reg ?_)))))
   refine l_val (r_fieldAddr 0 Tryz.underlying106 rfl tyC5.size rfl rfl rfl) rfl rfl ?_
   refine dC hW 0 tyC5 ?_
   refine l_val (r_eql rfl rfl rfl rfl) rfl rfl ?_
   refine l_split ?_ ?_
   ·intro hc3
    replace hc3 := of_decide_eq_true hc3
    refine bB ?_
    refine l_end (n_then ?_)
    refine c_true rfl ?_
    refine c_seq (c_reg ?_)
    refine l_val (r_move (v := .func _ _ _) rfl rfl) rfl rfl ?_
    refine l_val (r_fieldAddr 0 Tryz.underlying64 rfl tyC3.size rfl rfl rfl) rfl rfl ?_
    refine dC hW 2 tyC3 ?_
    refine l_val (r_mulN (m := 2) rfl rfl rfl (by omega)) rfl rfl ?_
    refine l_val (r_fieldAddr 0 Tryz.underlying64 rfl tyC3.size rfl rfl rfl) rfl rfl ?_
    refine dC hW 2 tyC3 ?_
    refine l_val (r_mulN (m := 2) rfl rfl rfl (by omega)) rfl rfl ?_
    refine l_val (r_addN (n := 1) rfl rfl rfl (by omega)) rfl rfl ?_
    refine l_callVX hW (args := [.int .i64 ((2 * v : Nat) : Int), .int .i64 0, .int .i64 ((2 * v + 1 : Nat) : Int), .int .i64 0]) (cap := []) (g_Split1 _ _ _ _) en148 trivial rfl rfl rfl rfl rfl ?_
    rintro _ _ W ⟨gs, rfl, rfl⟩ hW
    refine l_val (r_extract (v := .slice _ _ _) rfl rfl rfl) rfl rfl ?_
    refine l_val (r_extract (v := .int _ _) rfl rfl rfl) rfl rfl ?_
    refine bS ?_
    refine bI ?_
    refine l_end (n_then (c_ret (r_block (r_then ?_))))
    refine ret_tmp2 rfl rfl rfl ?_
    have hsp := split_k1 (s := s) (v := v) (w := (x : Int)) (by omega)
    exact ⟨_, [_], rfl, ⟨_, _, rfl, by rw [hsp]; exact OwnSl.full rfl (by unfold maxLen; decide)⟩, hW.sub (List.sublist_append_right _ _)⟩
   ·intro hc3
    replace hc3 := of_decide_eq_false hc3
    refine bB ?_
    refine l_end (n_then ?_)
    refine c_false rfl ?_
    refine c_seq (c_reg ?_)
    refine l_val (r_fieldAddr 1 Tryz.underlying64 rfl tyC3.size rfl rfl rfl) rfl rfl ?_
    refine dC hW 2 tyC3 ?_
    refine l_val (r_eqlN (n := 0) rfl rfl rfl rfl) rfl rfl ?_
    refine l_split ?_ ?_
    ·intro hc4
     replace hc4 := of_decide_eq_true hc4
     refine bB ?_
     refine l_end (n_then ?_)
     refine c_true rfl ?_
     refine c_seq (c_reg ?_)
     refine l_val (r_move (v := .func _ _ _) rfl rfl) rfl rfl ?_
     refine l_callVX hW (args := [.int .i64 1, .int .i64 2, .int .i64 1, .int .i64 3]) (cap := []) (g_Split1 _ _ _ _) en148 trivial rfl rfl rfl rfl rfl ?_
     rintro _ _ W ⟨gs, rfl, rfl⟩ hW
     refine l_val (r_extract (v := .slice _ _ _) rfl rfl rfl) rfl rfl ?_
     refine l_val (r_extract (v := .int _ _) rfl rfl rfl) rfl rfl ?_
     refine bS ?_
     refine bI ?_
     refine l_end (n_then (c_ret (r_block (r_then ?_))))
     refine ret_tmp2 rfl rfl rfl ?_
     obtain rfl : x = 0 := by omega
     have hsp := (show splitV s v ((0 : Nat) : Int) = [(1, 2), (1, 3)] from split_w0 (s := s) (v := (v : Int)) (by omega))
     exact ⟨_, [_], rfl, ⟨_, _, rfl, by rw [hsp]; exact OwnSl.full rfl (by unfold maxLen; decide)⟩, hW.sub (List.sublist_append_right _ _)⟩
    ·intro hc4
     replace hc4 := of_decide_eq_false hc4
     obtain ⟨hwn, hne, hbe, -⟩ := p4 (by omega) (by omega)
     rw [Int.toNat_natCast, Int.toNat_natCast] at hbe
     have hlx := lev_le (v := x) (by omega)
     have hlv := (below_iff.1 hbe).1
     have hlt : lev v < lev x := Nat.lt_of_le_of_ne hlv fun e => by
      have h2 := (below_iff.1 hbe).2
      rw [e, Nat.sub_self] at h2
      exact hne (by rw [show x = v from h2])
     have hcl : sh x (lev x - lev v - 1) < 128 := Nat.lt_of_le_of_lt (sh_le _ _) (by omega)
     have hsl := (sib_all hcl).2.1
     refine bB ?_
     refine l_end (n_then ?_)
     refine c_false rfl ?_
     refine c_skip (n_block (n_then (c_seq ?_)))
     refine c_regY hW [] [.q, .q, .q, .q, .q, .q] [0, 1, 0, 4, 3, 31] (by kernel_rfl) (by kernel_rfl) ?_
     refine y_val (r_fieldAddr 0 Tryz.underlying64 rfl tyC3.size rfl rfl rfl) rfl rfl ?_
     refine y_loadC 2 tyC3 rfl rfl rfl rfl rfl rfl (by decide) ?_
     refine y_val (r_fieldAddr 1 Tryz.underlying64 rfl tyC3.size rfl rfl rfl) rfl rfl ?_
     refine y_loadC 2 tyC3 rfl rfl rfl rfl rfl rfl (by decide) ?_
     refine y_val (r_assign (v := .int _ _) rfl rfl) rfl rfl ?_
     refine y_val (r_assign (v := .int _ _) rfl rfl) rfl rfl ?_
     refine y_end ?_
     intro W hW
     refine n_then (c_seq (c_reg ?_))
     refine aI ?_
     refine aI ?_
     refine l_call hW (g_ptoward v x (by omega) (by omega) (by omega) (by omega) hlt) en110 rfl rfl rfl rfl ?_
     intro W hW
     refine bI ?_
     refine l_end (n_then (c_seq (c_seq (c_reg ?_))))
     refine aI ?_
     refine aI ?_
     refine l_val (r_eqlN rfl rfl rfl rfl) rfl rfl ?_
     refine l_split ?_ ?_
     ·intro hc5
      replace hc5 := of_decide_eq_true hc5
      refine l_end (n_then ?_)
      refine c_true rfl ?_
      refine c_seq (c_reg ?_)
      refine aI ?_
      refine l_call hW (g_psibling _ (by omega)) en55 rfl rfl rfl rfl ?_
      intro W hW
      refine bI ?_
      refine l_end (n_then (c_seq (c_reg ?_)))
      refine l_val (r_move (v := .func _ _ _) rfl rfl) rfl rfl ?_
      refine aI ?_
      refine aI ?_
      refine l_val (r_mulN (m := 2) rfl rfl rfl (by omega)) rfl rfl ?_
      refine aI ?_
      refine aI ?_
      refine l_val (r_mulN (m := 2) rfl rfl rfl (by omega)) rfl rfl ?_
      refine l_val (r_addN (n := 1) rfl rfl rfl (by omega)) rfl rfl ?_
      refine l_callVX hW (args := [.int .i64 ((sib (sh x (lev x - lev v - 1)) : Nat) : Int), .int .i64 ((2 * sib (sh x (lev x - lev v - 1)) : Nat) : Int), .int .i64 ((sib (sh x (lev x - lev v - 1)) : Nat) : Int), .int .i64 ((2 * sib (sh x (lev x - lev v - 1)) + 1 : Nat) : Int)]) (cap := []) (g_Split1 _ _ _ _) en148 trivial rfl rfl rfl rfl rfl ?_
      rintro _ _ W ⟨gs, rfl, rfl⟩ hW
      refine l_val (r_extract (v := .slice _ _ _) rfl rfl rfl) rfl rfl ?_
      refine l_val (r_extract (v := .int _ _) rfl rfl rfl) rfl rfl ?_
      refine bS ?_
      refine bI ?_
      refine l_end (n_then (c_ret (r_then ?_)))
      refine ret_tmp2 rfl rfl rfl ?_
      have hsp := split_s (s := s) (v := v) (x := x) (by omega) (by omega) (by omega)
      exact ⟨_, [_], rfl, ⟨_, _, rfl, by rw [hsp]; exact OwnSl.full rfl (by unfold maxLen; decide)⟩, hW.sub (List.sublist_append_right _ _)⟩
     ·intro hc5
      replace hc5 := of_decide_eq_false hc5
      refine l_end (n_then ?_)
      refine c_false rfl ?_
      refine c_skip (n_then (c_seq (c_seq (c_reg ?_))))
      refine dA hW 0 tyA106 ?_
      refine aI ?_
      refine aI ?_
      refine l_val (r_build (ps := [(0, .int _ _), (1, .int _ _)]) (bld64_0_1 _ _) rfl rfl) rfl rfl ?_
      refine l_call hW (g_psubset s _ _ d0 d6) en71 rfl rfl rfl rfl ?_
      intro W hW
      refine l_split ?_ ?_
      ·intro hc6
       refine l_val (r_not rfl rfl) rfl rfl ?_
       refine l_end (n_then ?_)
       refine c_false rfl ?_
       refine c_skip (n_then (c_seq (c_reg ?_)))
       refine l_val (r_move (v := .func _ _ _) rfl rfl) rfl rfl ?_
       refine l_val (r_fieldAddr 0 Tryz.underlying64 rfl tyC3.size rfl rfl rfl) rfl rfl ?_
       refine dC hW 2 tyC3 ?_
       refine aI ?_
       refine aI ?_
       refine l_val (r_fieldAddr 1 Tryz.underlying64 rfl tyC3.size rfl rfl rfl) rfl rfl ?_
       refine dC hW 2 tyC3 ?_
       refine l_callVX hW (args := [.int .i64 (v : Int), .int .i64 ((sh x (lev x - lev v - 1) : Nat) : Int), .int .i64 ((sh x (lev x - lev v - 1) : Nat) : Int), .int .i64 (x : Int)]) (cap := []) (g_Split1 _ _ _ _) en148 trivial rfl rfl rfl rfl rfl ?_
       rintro _ _ W ⟨gs, rfl, rfl⟩ hW
       refine l_val (r_extract (v := .slice _ _ _) rfl rfl rfl) rfl rfl ?_
       refine l_val (r_extract (v := .int _ _) rfl rfl rfl) rfl rfl ?_
       refine bS ?_
       refine bI ?_
       refine l_end (n_then (c_ret ?_))
       refine ret_tmp2 rfl rfl rfl ?_
       have hsp := split_c (s := s) (v := v) (x := x) (by omega) (by omega) (by omega) hc6
       exact ⟨_, [_], rfl, ⟨_, _, rfl, by rw [hsp]; exact OwnSl.full rfl (by unfold maxLen; decide)⟩, hW.sub (List.sublist_append_right _ _)⟩
      ·intro hc6
       refine l_val (r_not rfl rfl) rfl rfl ?_
       refine l_end (n_then ?_)
       refine c_true rfl ?_
       refine c_reg ?_
       refine dA hW 0 tyA106 ?_
       refine aI ?_
       refine aI ?_
       refine l_call hW (g_pcut s v x (by rcases Nat.lt_or_ge 1 x with h | h; exact h; rw [lev_one h] at hlt; omega) (by omega) hbe hlt) en56 rfl rfl rfl rfl ?_
       intro W hW
       refine bI ?_
       refine l_end (n_then (c_seq (c_reg ?_)))
       refine l_val (r_move (v := .func _ _ _) rfl rfl) rfl rfl ?_
       refine l_val (r_fieldAddr 0 Tryz.underlying64 rfl tyC3.size rfl rfl rfl) rfl rfl ?_
       refine dC hW 2 tyC3 ?_
       refine aI ?_
       refine aI ?_
       refine l_val (r_fieldAddr 1 Tryz.underlying64 rfl tyC3.size rfl rfl rfl) rfl rfl ?_
       refine dC hW 2 tyC3 ?_
       refine l_callVX hW (args := [.int .i64 (v : Int), .int .i64 ((bet s.d x (lev x - lev v - 1) : Nat) : Int), .int .i64 ((bet s.d x (lev x - lev v - 1) : Nat) : Int), .int .i64 (x : Int)]) (cap := []) (g_Split1 _ _ _ _) en148 trivial rfl rfl rfl rfl rfl ?_
       rintro _ _ W ⟨gs, rfl, rfl⟩ hW
       refine l_val (r_extract (v := .slice _ _ _) rfl rfl rfl) rfl rfl ?_
       refine l_val (r_extract (v := .int _ _) rfl rfl rfl) rfl rfl ?_
       refine bS ?_
       refine bI ?_
       refine l_end (n_then (c_ret ?_))
       refine ret_tmp2 rfl rfl rfl ?_
       have hsp := split_b (s := s) (v := v) (x := x) (by omega) (by omega) (by omega) hc6
       exact ⟨_, [_], rfl, ⟨_, _, rfl, by rw [hsp]; exact OwnSl.full rfl (by unfold maxLen; decide)⟩, hW.sub (List.sublist_append_right _ _)⟩

/-- Split, of whole numbers -/
theorem g_Split (s : Sc) (v x : Int) (hs : schB s = true) (hsx : subB s v x = true) (h1 : (membersN s v x (p2 s.d.toNat)).length ≠ 1) : GivesX Tryz.prog 107 [.agg [.int .u8 s.k, .int .i64 s.d, .int .i64 s.g, .int .u64 s.p, .int .u64 s.q, .int .u64 s.r].toArray, .agg [.int .i64 v, .int .i64 x].toArray].toArray (fun _ => True) (fun u Bs => ∃ a c, u = .tuple #[.slice a 2 c, .int .i64 0] ∧ OwnSl 64 2 a 2 c (sl2 (splitV s v x)) Bs) := by
 obtain ⟨hx1, hx2, hx3, hx4⟩ := sub_x (schB_iff.1 hs).2.2.2.1 hsx
 obtain ⟨v', rfl⟩ : ∃ n : Nat, v = n := ⟨v.toNat, by omega⟩
 obtain ⟨x', rfl⟩ : ∃ n : Nat, x = n := ⟨x.toNat, by omega⟩
 exact g_SplitN s v' x' hs hsx h1
end Go.Proofs.YtoegpalacppllaaGreat

/- One pair less, by the library. -/
namespace Go.Proofs.YtoegpalacppllaaGreat
open Go.RowKit Pl
open Tr Hn
set_option maxRecDepth 10000 in
/-- slices.Delete[[]headend/api.Pair,headend/api.Pair] -/
theorem g_DeleteP (g n c i : Nat) (cur xs : List Value) (hO : OwnSl 146 2 (some ⟨g, 0, none⟩) n c xs [⟨g, cur, 146⟩]) (hi : i < n) (hone : ∀ v ∈ xs, v.oneCell' = true) : GivesS Tryz.prog 81 [.slice (some ⟨g, 0, none⟩) n c, .int .i64 (i : Int), .int .i64 ((i + 1 : Nat) : Int)].toArray (fun _ _ => True) [⟨g, cur, 146⟩] (fun v B => v = .slice (some ⟨g, 0, none⟩) (n - 1) c ∧ OwnSl 146 2 (some ⟨g, 0, none⟩) (n - 1) c (xs.take (i * 2) ++ xs.drop ((i + 1) * 2)) B) := by
 refine givesS_of Tryz.func81 rfl (bs := [.slice (some ⟨g, 0, none⟩) n c, .int .i64 (i : Int), .int .i64 ((i + 1 : Nat) : Int), undef, undef, undef, undef, undef, undef, undef, undef, undef, undef, undef, undef, undef, undef, undef, undef, undef, undef, undef, undef, undef, undef, undef, undef, undef, undef, undef, undef, undef, undef]) rfl ?_
 intro b L w hP hW
 obtain ⟨hnc, hcm, hcl, hct⟩ : n ≤ c ∧ c ≤ maxLen ∧ cur.length = c * 2 ∧ cur.take (n * 2) = xs := by
  rcases hO.2 with ⟨h, _⟩ | ⟨g2, cur2, h1, h2, h3⟩
  ·cases h
  ·simp only [Option.some.injEq, Addr.mk.injEq, and_true, List.cons.injEq, Blk.mk.injEq] at h1 h2
   obtain ⟨rfl, rfl⟩ := h2
   exact h3
 obtain ⟨j, hj⟩ : ∃ j, (if c = i + 1 then 0 else 0 + (i + 1) * 2) = j := ⟨_, rfl⟩
 have hj2 : n - (i + 1) = 0 ∨ j = (i + 1) * 2 := by
  by_cases hc : c = i + 1
  ·exact .inl (by omega)
  ·rw [if_neg hc] at hj; exact .inr (by omega)
 have hxl := congrArg List.length hct
 rw [List.length_take] at hxl
 refine c_seq (c_reg ?_)
 refine bS ?_
 refine l_end (n_then (c_seq (c_reg ?_)))
 refine aS ?_
 refine aI ?_
 refine aI ?_
 refine aS ?_
 refine l_val (r_lenSlice Tryz.underlying67 rfl rfl) rfl rfl ?_
 refine l_val (r_slice3 (l := i) (h := i + 1) (q := n) Tryz.underlying67 tyA146.size rfl rfl rfl rfl rfl (by omega) (by omega) (by omega) rfl) rfl rfl ?_
 refine l_end (n_then (c_seq (c_seq (c_reg ?_))))
 refine aI ?_
 refine aI ?_
 refine l_val (r_eqlN (b := false) rfl rfl rfl (decide_eq_false (by omega))) rfl rfl ?_
 refine l_end (n_then ?_)
 refine c_false rfl ?_
 refine c_skip (n_then (c_seq (c_reg ?_)))
 refine aS ?_
 refine l_val (r_lenSlice Tryz.underlying67 rfl rfl) rfl rfl ?_
 refine bI ?_
 refine l_end (n_then (c_seq ?_))
 refine c_regM hW [] [.q, .q, .q, .q, .q, .q, .tail, .tail] [] [] [] [0, 0, 3, 0, 0, 24, 63, 127] (by kernel_rfl) (by kernel_rfl) rfl (by kernel_rfl) ?_
 refine yS ?_
 refine yI ?_
 refine y_val (r_sliceToN (h := i) Tryz.underlying67 tyA146.size rfl rfl rfl (by omega)) rfl rfl ?_
 refine yS ?_
 refine yI ?_
 refine y_val (r_sliceFromN (l := i + 1) Tryz.underlying67 tyA146.size rfl rfl rfl (by omega) hj) rfl rfl ?_
 refine y_tail ?_
 intro W hW
 refine l_appendIn tyE67 (show Cl _ (_ :: _) _ from hW) rfl rfl rfl rfl rfl (by omega) hcl (by rcases hj2 with h | h <;> omega) (fun u hu => hone u ?_) ?_
 ·rw [← hct]
  rcases hj2 with h | h
  ·rw [h] at hu; simp at hu
  ·subst h
   have hd := List.drop_take (i := (i + 1) * 2) (j := n * 2) (l := cur)
   rw [show n * 2 - (i + 1) * 2 = (n - (i + 1)) * 2 by omega] at hd
   rw [← hd] at hu
   exact List.mem_of_mem_drop hu
 intro W hW
 refine bS ?_
 refine l_end (n_then (c_seq (c_reg ?_)))
 refine aS ?_
 refine aS ?_
 refine l_val (r_lenSlice Tryz.underlying67 rfl rfl) rfl rfl ?_
 refine aI ?_
 refine l_val (r_sliceN (l := i + (n - (i + 1))) (h := n) (j := (i + (n - (i + 1))) * 2) Tryz.underlying67 tyA146.size rfl rfl rfl rfl (by omega) (by omega) (by rw [if_neg (by omega)]; omega)) rfl rfl ?_
 refine l_clear (sz := 2) (z := .agg z146.toArray) Tryz.underlying67 tyZ146 rfl (by simp [Value.cells, Value.oneCell']) (by decide) (show Cl _ (_ :: _) _ from hW) rfl rfl rfl rfl (by omega) (by simp only [List.length_append, List.length_take, List.length_drop]; omega) ?_
 intro zs W hzs hW
 refine l_end (n_then (c_seq (c_reg ?_)))
 refine aS ?_
 refine bS ?_
 refine l_end (n_then (c_ret ?_))
 refine ret_tmp (v := .slice _ _ _) rfl rfl ?_
 obtain ⟨hc1, hc2⟩ := del_cells hcl hnc hi hct hj2 hzs
 refine ⟨_, [_], rfl, ⟨congrArg (fun k => Value.slice (some ⟨g, 0, none⟩) k c) (by omega), ?_, .inr ⟨g, _, rfl, rfl, by omega, hcm, hc1, hc2⟩⟩, hW⟩
 rw [List.length_append, List.length_take, List.length_drop]; omega

end Go.Proofs.YtoegpalacppllaaGreat

/- Copies of elements of many cells, appended zeros where there is no room, an element replaced by two. No function of the program is in sight here. -/
namespace Go.Proofs.YtoegpalacppllaaGreat
open Go.RowKit Pl Tr Hn

/-- cells of a row in which an element is replaced, with room -/
theorem repl_in {cur news : List Value} {n i : Nat} (hn : news.length = 4) (hi : i + 1 < n) (hc : (n + 1) * 2 ≤ cur.length) :
    ((((cur.take ((i + 2) * 2) ++ ((cur.drop ((i + 1) * 2)).take ((n - (i + 1)) * 2)) ++ cur.drop ((i + 2) * 2 + (n - (i + 1)) * 2)).take (i * 2) ++ news ++ (cur.take ((i + 2) * 2) ++ ((cur.drop ((i + 1) * 2)).take ((n - (i + 1)) * 2)) ++ cur.drop ((i + 2) * 2 + (n - (i + 1)) * 2)).drop (i * 2 + 2 * 2))).take ((n + 1) * 2)) = (cur.take (n * 2)).take (i * 2) ++ (news ++ (cur.take (n * 2)).drop ((i + 1) * 2)) := by
  have hT : ((cur.drop ((i + 1) * 2)).take ((n - (i + 1)) * 2)).length = (n - (i + 1)) * 2 := by rw [List.length_take, List.length_drop]; omega
  have h1 : (cur.take ((i + 2) * 2)).length = i * 2 + 2 * 2 := by rw [List.length_take]; omega
  have e1 : (cur.take ((i + 2) * 2) ++ ((cur.drop ((i + 1) * 2)).take ((n - (i + 1)) * 2)) ++ cur.drop ((i + 2) * 2 + (n - (i + 1)) * 2)).take (i * 2) = cur.take (i * 2) := by
    rw [List.append_assoc, List.take_append_of_le_length (by omega), List.take_take]; congr 1; omega
  have e2 : (cur.take ((i + 2) * 2) ++ ((cur.drop ((i + 1) * 2)).take ((n - (i + 1)) * 2)) ++ cur.drop ((i + 2) * 2 + (n - (i + 1)) * 2)).drop (i * 2 + 2 * 2) = ((cur.drop ((i + 1) * 2)).take ((n - (i + 1)) * 2)) ++ cur.drop ((i + 2) * 2 + (n - (i + 1)) * 2) := by
    rw [List.append_assoc, ← h1, List.drop_left]
  rw [e1, e2, List.take_take, show min (i * 2) (n * 2) = i * 2 by omega, List.drop_take, show n * 2 - (i + 1) * 2 = (n - (i + 1)) * 2 by omega]
  have hA : (cur.take (i * 2)).length = i * 2 := by rw [List.length_take]; omega
  rw [show cur.take (i * 2) ++ news ++ (((cur.drop ((i + 1) * 2)).take ((n - (i + 1)) * 2)) ++ cur.drop ((i + 2) * 2 + (n - (i + 1)) * 2)) = (cur.take (i * 2) ++ (news ++ ((cur.drop ((i + 1) * 2)).take ((n - (i + 1)) * 2)))) ++ cur.drop ((i + 2) * 2 + (n - (i + 1)) * 2) by simp only [List.append_assoc]]
  exact List.take_left' (by simp only [List.length_append, hA, hn, hT]; omega)
/-- .. without room -/
theorem repl_out {cur curN news : List Value} {n i : Nat} (hn : news.length = 4) (hi : i + 1 < n) (hc : n * 2 ≤ cur.length) (hN : (n + 1) * 2 ≤ curN.length) (hA : curN.take (i * 2) = cur.take (i * 2)) :
    (((curN.take (i * 2) ++ news ++ curN.drop (i * 2 + 2 * 2)).take ((i + 2) * 2) ++ ((cur.drop ((i + 1) * 2)).take ((n - (i + 1)) * 2)) ++ (curN.take (i * 2) ++ news ++ curN.drop (i * 2 + 2 * 2)).drop ((i + 2) * 2 + (n - (i + 1)) * 2)).take ((n + 1) * 2)) = (cur.take (n * 2)).take (i * 2) ++ (news ++ (cur.take (n * 2)).drop ((i + 1) * 2)) := by
  have hT : ((cur.drop ((i + 1) * 2)).take ((n - (i + 1)) * 2)).length = (n - (i + 1)) * 2 := by rw [List.length_take, List.length_drop]; omega
  have hl : (curN.take (i * 2) ++ news).length = (i + 2) * 2 := by rw [List.length_append, List.length_take, hn]; omega
  have e1 : (curN.take (i * 2) ++ news ++ curN.drop (i * 2 + 2 * 2)).take ((i + 2) * 2) = curN.take (i * 2) ++ news := List.take_left' hl
  rw [e1, hA, List.take_take, show min (i * 2) (n * 2) = i * 2 by omega, List.drop_take, show n * 2 - (i + 1) * 2 = (n - (i + 1)) * 2 by omega]
  have hA2 : (cur.take (i * 2)).length = i * 2 := by rw [List.length_take]; omega
  rw [show cur.take (i * 2) ++ news ++ ((cur.drop ((i + 1) * 2)).take ((n - (i + 1)) * 2)) = cur.take (i * 2) ++ (news ++ ((cur.drop ((i + 1) * 2)).take ((n - (i + 1)) * 2))) by simp only [List.append_assoc]]
  exact List.take_left' (by simp only [List.length_append, hA2, hn, hT]; omega)
/-- the beginning of a slice -/
theorem OwnSl.cutTo {e : TypeId} {g n c i : Nat} {xs cur : List Value} (h : OwnSl e 2 (some ⟨g, 0, none⟩) n c xs [⟨g, cur, e⟩]) (hi : i ≤ n) : OwnSl e 2 (some ⟨g, 0, none⟩) i c (xs.take (i * 2)) [⟨g, cur, e⟩] := by
  have hl := h.1
  rcases h.2 with ⟨h1, _⟩ | ⟨g2, cur2, h1, h2, h3, h4, h5, h6⟩
  · cases h1
  · simp only [Option.some.injEq, Addr.mk.injEq, and_true, List.cons.injEq, Blk.mk.injEq] at h1 h2
    obtain ⟨rfl, rfl⟩ := h2
    refine ⟨by rw [List.length_take]; omega, .inr ⟨g, cur, rfl, rfl, by omega, h4, h5, ?_⟩⟩
    rw [← h6, List.take_take]; congr 1; omega

section
variable {P : Program} {ops : Array Oper} {Q : Exit → Act → World → Prop} {bs : List Value} {us : List (Nat × Value)} {ds : List Deferred} {w0 : Base} {W W' : World} {rest : List Oper} {o : Oper} {L Bs : List Blk} {d : Nat} {v : Value} {r : Option (Option Nat)} {m : Nat}
/-- the built-in copy of elements of many cells into a block of the call's own -/
theorem l_copyN (hW : Cl w0 L W) (p : Nat) {t t2 e sz bytes : Nat} (hE : TyE P t e sz bytes) {x y : Operand} {g i dn dc k c2 j : Nat} {ax : Addr} {cs news : List Value} {ty : TypeId} (hg : o.guard = none) (ho : o.op = .call { callee := .builtin .copy, args := #[x, y], argTypes := #[t, t2] })
    (hx : ev bs us x = .slice (some ⟨g, i, none⟩) dn dc) (hy : ev bs us y = .slice (some ax) k c2) (hd : o.dst = some d) (hp : L[p]? = some ⟨g, cs, ty⟩) (hr : ∀ j u, news[j]? = some u → W.cell? (ax.add j) = some u) (hl : news.length = j * sz) (hj : min k dn = j) (hfit : i + j * sz ≤ cs.length) (h1 : ∀ v ∈ news, v.oneCell' = true)
    (h : ∀ W', Cl w0 (L.set p ⟨g, cs.take i ++ news ++ cs.drop (i + j * sz), ty⟩) W' → LW r m P ops Q rest (fr bs ((d, .int .i64 (j : Int)) :: us) ds) W') : LW r m P ops Q (o :: rest) (fr bs us ds) W := by
  obtain ⟨inf, z, hi, hz, hsz, hby, hzs⟩ := hE.info
  subst hsz
  have hst := splice_setCells (P := P) (hW.at p hp) (i := i) (news := news) (by rw [hl]; exact hfit) h1
  rw [hl] at hst
  have hload : (Builtin.firstCells inf.size j (.slice (some ax) k c2)).run P W = .ok news.toArray W := by
    have hl2 := run_loadCells_list (P := P) W ax news hr
    rw [hl] at hl2
    simp [Builtin.firstCells, hl2]
  refine l_run hg ?_ hd (h _ (hW.setRow p hp _))
  have hmin : Nat.min k dn = j := hj
  unfold execOp
  simp [ho, resolve, invoke, builtin, hx, hy, Builtin.copy_, run_underlying hE.u, Builtin.lenOf, hmin, sizeOf, typeInfo, hi, hload, hst, goInt]
/-- zero values are appended to what has no room for them -/
theorem l_appendZO {t tn e sz bytes n c k : Nat} (hE : TyE P t e sz bytes) (hn : P.underlying tn = some (.int .i64)) (hW : Cl w0 L W) (p : Nat) {g : Nat} {cur : List Value} {ty : TypeId} (hp : L[p]? = some ⟨g, cur, ty⟩) {s x : Operand} (hk : 0 < k) (hfull : c < n + k) (hnl : n * sz ≤ cur.length) (hm : n + k ≤ 4611686018427387904) (hfit : (n + k) * bytes ≤ 140737488355328) (hg : o.guard = none) (ho : o.op = .call { callee := .builtin .append, args := #[s, x], argTypes := #[t, tn] }) (hs : ev bs us s = .slice (some ⟨g, 0, none⟩) n c) (hx : ev bs us x = .int .i64 (k : Int)) (hd : o.dst = some d)
    (h : ∀ gN cN curN W', n + k ≤ cN → cN ≤ maxLen → curN.length = cN * sz → curN.take (n * sz) = cur.take (n * sz) → Cl w0 (⟨gN, curN, e⟩ :: L) W' → LW r m P ops Q rest (fr bs ((d, .slice (some ⟨gN, 0, none⟩) (n + k) cN) :: us) ds) W') : LW r m P ops Q (o :: rest) (fr bs us ds) W := by
  obtain ⟨i, z, hi, hz, hsz, hby, hzs⟩ := hE.info
  have hpos := hE.pos
  subst hsz hby
  have hgW := hW.drew.at p hp
  simp only at hgW
  have hol : (cur.take (n * i.size)).length = n * i.size := by rw [List.length_take]; omega
  have hold : (Builtin.firstCells i.size n (.slice (some ⟨g, 0, none⟩) n c)).run P W.drew = .ok (cur.take (n * i.size)).toArray W.drew := by
    have := run_loadCells_list (P := P) W.drew ⟨g, 0, none⟩ (cur.take (n * i.size)) (fun j u hu => by
      rw [cells_of hgW]
      rw [List.getElem?_take] at hu
      split at hu
      · simpa using hu
      · cases hu)
    rw [hol] at this
    simp [Builtin.firstCells, this]
  have hrun := Go.Lib.run_append_grow_zeros W t tn o.type e i z .i64 .i64 hE.u hn hi hz (some ⟨g, 0, none⟩) n c (cur.take (n * i.size)) hold k hk hpos hfull (by omega) (by have := Nat.mul_le_mul_right i.bytes (show k ≤ n + k by omega); omega) (growslice_fits hfull hfit)
  have hG := grownCap_ge W (n + k) c e
  have hG2 := grownCap_le_maxLen W (n + k) c e (by unfold maxLen; omega)
  have hrun2 : ∀ v W', (Builtin.append_ #[t, tn] o.type #[.slice (some ⟨g, 0, none⟩) n c, .int .i64 (k : Int)]).run P W = .ok v W' → (execOp (ev bs us) o).run P W = .ok (.value v) W' := fun v W' hr => by
    unfold execOp
    simp [ho, resolve, invoke, builtin, hs, hx, hr]
  refine l_run hg (hrun2 _ _ hrun) hd ?_
  have hal := hW.drew.alloc (((cur.take (n * i.size)).toArray ++ Builtin.zeroCells z.cells k ++ Builtin.zeroCells z.cells (grownCap W (n + k) c e - (n + k))) : Array Value).toList e
  rw [Array.toArray_toList] at hal
  refine h W.heap.size _ _ _ hG hG2 ?_ ?_ hal
  · have h3 : (n + k) * i.size + (grownCap W (n + k) c e - (n + k)) * i.size = grownCap W (n + k) c e * i.size := by rw [← Nat.add_mul]; congr 1; omega
    rw [Nat.add_mul] at h3
    simp only [Array.length_toList, Array.size_append, List.size_toArray, hol, size_zeroCells, hzs]
    omega
  · simp only [Array.toList_append, List.append_assoc]
    exact List.take_left' hol
/-- a call of a function that the model itself answers -/
theorem l_callE (hW : Cl w0 L W) {f : FuncId} {xs : Array Operand} {ts : Array TypeId} {args : List Value} (hc : (callFunc f args.toArray).run P W = .ok (.value v) W) (hg : o.guard = none) (ho : o.op = .call { callee := .value (.func f), args := xs, argTypes := ts }) (ha : xs.toList.map (ev bs us) = args) (hd : o.dst = some d)
    (h : Cl w0 L W → LW r m P ops Q rest (fr bs ((d, v) :: us) ds) W) : LW r m P ops Q (o :: rest) (fr bs us ds) W := by
  refine l_run hg ?_ hd (h hW)
  have e : xs.map (ev bs us) = args.toArray := by subst ha; apply Array.ext'; simp only [Array.toList_map]
  unfold execOp
  have e2 : (#[] : Array Value) ++ args.toArray ++ #[] = args.toArray := by simp
  simp only [ho, resolve, e, ev, Deferred.ofValue, Sem.run_bind, Sem.run_pure, Result.andThen_ok, invoke, e2]
  exact hc
theorem apart_run {t e sz tR : Nat} (ht : P.underlying t = some (.slice e)) (hz : ∀ w, (sizeOf e).run P w = .ok sz w) (hW : Cl w0 L W) {p q g gs i la ca lb cb : Nat} {cs cs2 : List Value} {ty ty2 : TypeId} (hpq : q ≠ p) (hp : L[p]? = some ⟨g, cs, ty⟩) (hq : L[q]? = some ⟨gs, cs2, ty2⟩) (hne : cs2 ≠ []) :
    (Extern.SlicesOverlaps.overlaps #[t, t] #[tR] #[.slice (some ⟨g, i, none⟩) la ca, .slice (some ⟨gs, 0, none⟩) lb cb]).run P W = .ok (.bool false) W := by
  have h1 := hW.at p hp
  have h2 := hW.at q hq
  simp only at h1 h2
  refine Go.Lib.run_overlaps_apart W t tR e ht sz hz ⟨g, i, none⟩ ⟨gs, 0, none⟩ la ca lb cb (fun e => apart_at hW.apart hp hq hpq e.symm) ty ty2 cs.length cs2.length ?_ ?_ ?_ ?_ ?_
  · simp [World.shape?, h1]
  · simp [World.shape?, h2]
  · exact fun e => hne (List.eq_nil_of_length_eq_zero e)
  · simp [World.frozen?, h1]
  · simp [World.frozen?, h1]
variable {a : Act}
theorem c_scope {m : Nat} {c : Code} (h : CW none m P c (Exit.noGoto Q) a W) : CW none m P (Code.scope c) Q a W := wp_scope_straight h
theorem c_label {m l : Nat} (h : Q .normal a W) : CW none m P (Code.label l) Q a W := wp_label h
theorem n_scope (h : Q .normal a W) : Exit.noGoto Q .normal a W := h
section
variable {S : List Nat} {ks : List Kd} {ms : List Mk} {V : List (List Value)} {R : Act → St → Prop} {T : List Oper → Act → St → Prop}
/-- a call that makes memory of its own and looks at what another maker has made, and at what is there -/
theorem y_callXs (i j : Nat) {f : FuncId} {xs : Array Operand} {ts : Array TypeId} {X : Value → List Blk → Prop} {z zj : List Value} {kj : Mk} (he : Enters P f)
    (hk : ms[i]? = some ⟨d, fun _ => X⟩) (hV : V[i]? = some z) (hkj : ms[j]? = some kj) (hVj : V[j]? = some zj)
    (hgv : ∀ u Bs L2, Sim S L L2 → kj.X zj u Bs → ∃ args Pre, GivesX P f (List.toArray args) Pre X ∧ (∀ w, Cl w0 (L2 ++ Bs) w → Pre w) ∧ xs.toList.map (ev bs ((kj.d, u) :: us)) = args) (ho : o.op = .call { callee := .value (.func f), args := xs, argTypes := ts })
    (h : lx P ops w0 S ms R T ks rest (fr bs us ds) (L, V)) : lx P ops w0 S ms R T (.mkd i j :: ks) (o :: rest) (fr bs us ds) (L, V) :=
  y_mkd i j hk hV hkj hVj (fun u Bs L2 hs hx w hC => by
    obtain ⟨args, Pre, g, hp, ha⟩ := hgv u Bs L2 hs hx
    refine .inr ⟨f, args.toArray, run_call he ho ha w, ?_⟩
    exact (g w (hp w hC)).mono fun e w' ⟨v, Bs', he, hx, hc⟩ => ⟨v, he, Bs', hx, hC.beside hc⟩) h
/-- loads of what is known of all worlds in which the blocks lie -/
theorem y_loadR {t : TypeId} (ht : TyC P t) {x : Operand} {b i : Nat} (hc : ∀ L2 w, Sim S L L2 → Cl w0 L2 w → w.cell? ⟨b, i, none⟩ = some v) (hw : Region.wanted o (yielded ops (fr bs us ds).tmps) = true) (ho : o.op = .load t x) (hx : ev bs us x = .pointer (some ⟨b, i, none⟩)) (hd : o.dst = some d)
    (h : lx P ops w0 S ms R T ks rest (fr bs ((d, v) :: us) ds) (L, V)) : lx P ops w0 S ms R T (.q :: ks) (o :: rest) (fr bs us ds) (L, V) :=
  ⟨v, (L, V), ⟨fun L2 hs => yields_run hw fun w hC => by
    rw [eval_ev]
    have hc' := hc L2 w hs hC
    unfold execOp
    simp [ho, hx, Instr.loadAt, Instr.sureAddr, loadVar, ht.agg w, hc'], rfl⟩, by simp only [putK, hd, put_st]; exact h⟩
theorem y_loadR2 {t : TypeId} (ht : TyA P t 2) {x : Operand} {b i : Nat} {u0 u1 : Value} (hc : ∀ L2 w, Sim S L L2 → Cl w0 L2 w → w.cell? ⟨b, i + 0, none⟩ = some u0 ∧ w.cell? ⟨b, i + 1, none⟩ = some u1) (hw : Region.wanted o (yielded ops (fr bs us ds).tmps) = true) (ho : o.op = .load t x) (hx : ev bs us x = .pointer (some ⟨b, i, none⟩)) (hd : o.dst = some d)
    (h : lx P ops w0 S ms R T ks rest (fr bs ((d, .agg [u0, u1].toArray) :: us) ds) (L, V)) : lx P ops w0 S ms R T (.q :: ks) (o :: rest) (fr bs us ds) (L, V) :=
  ⟨.agg [u0, u1].toArray, (L, V), ⟨fun L2 hs => yields_run hw fun w hC => by
    rw [eval_ev]
    obtain ⟨h0, h1⟩ := hc L2 w hs hC
    have hl : (loadCells ⟨b, i, none⟩ [u0, u1].length).run P w = .ok [u0, u1].toArray w := run_loadCells_list (P := P) w ⟨b, i, none⟩ [u0, u1] (fun j v hv => by
      rw [Addr.add_lit]
      match j with
      | 0 => simp only [List.getElem?_cons_zero, Option.some.injEq] at hv; subst hv; exact h0
      | 1 => simp only [List.getElem?_cons_succ, List.getElem?_cons_zero, Option.some.injEq] at hv; subst hv; exact h1
      | j + 2 => simp at hv)
    unfold execOp
    simp only [ho, hx, Instr.loadAt, Instr.sureAddr, Sem.run_bind, Sem.run_pure, Result.andThen_ok]
    simp only [List.length_cons, List.length_nil] at hl
    simp [loadVar, ht.agg w, ht.size w, hl], rfl⟩, by simp only [putK, hd, put_st]; exact h⟩
end
theorem RdG.cell {w : World} {b o n c i : Nat} {cs : List Sl} {gs : List (List Int)} {s : Sl} (k : RdG w ⟨some ⟨b, o, none⟩, n, c⟩ cs gs) (hs : cs[i]? = some s) : w.cell? ⟨b, o + i, none⟩ = some s.v := by
  obtain ⟨b', i', ha, hc⟩ := k.rd.rd i s.v (by rw [List.getElem?_map, hs]; rfl)
  simp only [Option.some.injEq, Addr.mk.injEq, and_true] at ha
  obtain ⟨rfl, rfl⟩ := ha
  exact hc
theorem RdB.cells {w : World} {b i n c j : Nat} {l : List (Int × Int)} (k : RdB w ⟨some ⟨b, i, none⟩, n, c⟩ l) (hj : j < l.length) : w.cell? ⟨b, i + j * 2 + 0, none⟩ = some (IV (qn l j)) ∧ w.cell? ⟨b, i + j * 2 + 1, none⟩ = some (IV (qm l j)) := by
  obtain ⟨b', i', ha, hc⟩ := k.ptr (by omega)
  simp only [Option.some.injEq, Addr.mk.injEq, and_true] at ha
  obtain ⟨rfl, rfl⟩ := ha
  exact hc j hj
/-- a tracer at work -/
structure TrP (e : TypeId) (N : Nat) (b0 : Bo) (tot : List Int) (t0 : Ts) (z : TrS) : Prop where
  tin : Tin N b0 tot z.t
  eq : traced N t0 = traced N z.t
  nm : NewI z.n2 z.t.nm z.bn
  ls : OwnSl e 2 z.la z.t.l.length z.lc (sl2 z.t.l) z.bl
theorem pickF {b : Base} {x : Blk} {A B C D E : List Blk} (h : Cl b ([x] ++ ((((A ++ B) ++ C) ++ D) ++ E)) W) : Cl b ((x :: (B ++ C)) ++ A) W := h.pick (D ++ E) (by classical exact List.perm_iff_count.2 fun x => by simp only [List.count_append, List.count_cons, List.count_nil]; omega)
theorem pickI {b : Base} {X A B : List Blk} (h : Cl b ((X ++ B) ++ A) W) : Cl b (((X ++ A) ++ []) ++ B) W := h.perm (by classical exact List.perm_iff_count.2 fun x => by simp only [List.count_append, List.count_nil]; omega)
theorem pickM {b : Base} {X G M : List Blk} (h : Cl b (M ++ (G ++ X)) W) : Cl b (X ++ (G ++ M)) W := h.perm (by classical exact List.perm_iff_count.2 fun x => by simp only [List.count_append]; omega)
/-- the partition's row ahead, behind a naming -/
theorem pickA {b : Base} {X A B C D E G M : List Blk} (h : Cl b ((X ++ ((((A ++ B) ++ C) ++ D) ++ E)) ++ (G ++ M)) W) : Cl b (C ++ (X ++ (A ++ M))) W := h.pick (B ++ (D ++ (E ++ G))) (by classical exact List.perm_iff_count.2 fun x => by simp only [List.count_append]; omega)
/-- .. behind a split -/
theorem pickB {b : Base} {X A B C D E G : List Blk} (h : Cl b (G ++ (X ++ ((((A ++ B) ++ C) ++ D) ++ E))) W) : Cl b (C ++ (X ++ ((A ++ B) ++ G))) W := h.pick (D ++ E) (by classical exact List.perm_iff_count.2 fun x => by simp only [List.count_append]; omega)
theorem pickC {b : Base} {X A B C G : List Blk} (h : Cl b ((X ++ ((A ++ B) ++ G)) ++ C) W) : Cl b (((X ++ A) ++ B) ++ C) W := h.pick G (by classical exact List.perm_iff_count.2 fun x => by simp only [List.count_append]; omega)
end
end Go.Proofs.YtoegpalacppllaaGreat

/- A subset less, or two in its place, by the library. -/
namespace Go.Proofs.YtoegpalacppllaaGreat
open Go.RowKit Pl
open Tr Hn
set_option maxRecDepth 10000 in
/-- slices.Delete[[]headend/api.Subset,headend/api.Subset] -/
theorem g_DeleteB (g n c i : Nat) (cur xs : List Value) (hO : OwnSl 64 2 (some ⟨g, 0, none⟩) n c xs [⟨g, cur, 64⟩]) (hi : i < n) (hone : ∀ v ∈ xs, v.oneCell' = true) : GivesS Tryz.prog 106 [.slice (some ⟨g, 0, none⟩) n c, .int .i64 (i : Int), .int .i64 ((i + 1 : Nat) : Int)].toArray (fun _ _ => True) [⟨g, cur, 64⟩] (fun v B => v = .slice (some ⟨g, 0, none⟩) (n - 1) c ∧ OwnSl 64 2 (some ⟨g, 0, none⟩) (n - 1) c (xs.take (i * 2) ++ xs.drop ((i + 1) * 2)) B) := by
 refine givesS_of Tryz.func106 rfl (bs := [.slice (some ⟨g, 0, none⟩) n c, .int .i64 (i : Int), .int .i64 ((i + 1 : Nat) : Int), undef, undef, undef, undef, undef, undef, undef, undef, undef, undef, undef, undef, undef, undef, undef, undef, undef, undef, undef, undef, undef, undef, undef, undef, undef, undef, undef, undef, undef, undef]) rfl ?_
 intro b L w hP hW
 obtain ⟨hnc, hcm, hcl, hct⟩ : n ≤ c ∧ c ≤ maxLen ∧ cur.length = c * 2 ∧ cur.take (n * 2) = xs := by
  rcases hO.2 with ⟨h, _⟩ | ⟨g2, cur2, h1, h2, h3⟩
  ·cases h
  ·simp only [Option.some.injEq, Addr.mk.injEq, and_true, List.cons.injEq, Blk.mk.injEq] at h1 h2
   obtain ⟨rfl, rfl⟩ := h2
   exact h3
 obtain ⟨j, hj⟩ : ∃ j, (if c = i + 1 then 0 else 0 + (i + 1) * 2) = j := ⟨_, rfl⟩
 have hj2 : n - (i + 1) = 0 ∨ j = (i + 1) * 2 := by
  by_cases hc : c = i + 1
  ·exact .inl (by omega)
  ·rw [if_neg hc] at hj; exact .inr (by omega)
 have hxl := congrArg List.length hct
 rw [List.length_take] at hxl
 refine c_seq (c_reg ?_)
 refine bS ?_
 refine l_end (n_then (c_seq (c_reg ?_)))
 refine aS ?_
 refine aI ?_
 refine aI ?_
 refine aS ?_
 refine l_val (r_lenSlice Tryz.underlying33 rfl rfl) rfl rfl ?_
 refine l_val (r_slice3 (l := i) (h := i + 1) (q := n) Tryz.underlying33 tyA64.size rfl rfl rfl rfl rfl (by omega) (by omega) (by omega) rfl) rfl rfl ?_
 refine l_end (n_then (c_seq (c_seq (c_reg ?_))))
 refine aI ?_
 refine aI ?_
 refine l_val (r_eqlN (b := false) rfl rfl rfl (decide_eq_false (by omega))) rfl rfl ?_
 refine l_end (n_then ?_)
 refine c_false rfl ?_
 refine c_skip (n_then (c_seq (c_reg ?_)))
 refine aS ?_
 refine l_val (r_lenSlice Tryz.underlying33 rfl rfl) rfl rfl ?_
 refine bI ?_
 refine l_end (n_then (c_seq ?_))
 refine c_regM hW [] [.q, .q, .q, .q, .q, .q, .tail, .tail] [] [] [] [0, 0, 3, 0, 0, 24, 63, 127] (by kernel_rfl) (by kernel_rfl) rfl (by kernel_rfl) ?_
 refine yS ?_
 refine yI ?_
 refine y_val (r_sliceToN (h := i) Tryz.underlying33 tyA64.size rfl rfl rfl (by omega)) rfl rfl ?_
 refine yS ?_
 refine yI ?_
 refine y_val (r_sliceFromN (l := i + 1) Tryz.underlying33 tyA64.size rfl rfl rfl (by omega) hj) rfl rfl ?_
 refine y_tail ?_
 intro W hW
 refine l_appendIn tyE33 (show Cl _ (_ :: _) _ from hW) rfl rfl rfl rfl rfl (by omega) hcl (by rcases hj2 with h | h <;> omega) (fun u hu => hone u ?_) ?_
 ·rw [← hct]
  rcases hj2 with h | h
  ·rw [h] at hu; simp at hu
  ·subst h
   have hd := List.drop_take (i := (i + 1) * 2) (j := n * 2) (l := cur)
   rw [show n * 2 - (i + 1) * 2 = (n - (i + 1)) * 2 by omega] at hd
   rw [← hd] at hu
   exact List.mem_of_mem_drop hu
 intro W hW
 refine bS ?_
 refine l_end (n_then (c_seq (c_reg ?_)))
 refine aS ?_
 refine aS ?_
 refine l_val (r_lenSlice Tryz.underlying33 rfl rfl) rfl rfl ?_
 refine aI ?_
 refine l_val (r_sliceN (l := i + (n - (i + 1))) (h := n) (j := (i + (n - (i + 1))) * 2) Tryz.underlying33 tyA64.size rfl rfl rfl rfl (by omega) (by omega) (by rw [if_neg (by omega)]; omega)) rfl rfl ?_
 refine l_clear (sz := 2) (z := .agg z64.toArray) Tryz.underlying33 tyZ64 rfl (by simp [Value.cells, Value.oneCell']) (by decide) (show Cl _ (_ :: _) _ from hW) rfl rfl rfl rfl (by omega) (by simp only [List.length_append, List.length_take, List.length_drop]; omega) ?_
 intro zs W hzs hW
 refine l_end (n_then (c_seq (c_reg ?_)))
 refine aS ?_
 refine bS ?_
 refine l_end (n_then (c_ret ?_))
 refine ret_tmp (v := .slice _ _ _) rfl rfl ?_
 obtain ⟨hc1, hc2⟩ := del_cells hcl hnc hi hct hj2 hzs
 refine ⟨_, [_], rfl, ⟨congrArg (fun k => Value.slice (some ⟨g, 0, none⟩) k c) (by omega), ?_, .inr ⟨g, _, rfl, rfl, by omega, hcm, hc1, hc2⟩⟩, hW⟩
 rw [List.length_append, List.length_take, List.length_drop]; omega

theorem mem_mid {cur : List Value} {n i : Nat} {u : Value} (hi : i < n) (h : u ∈ (cur.drop ((i + 1) * 2)).take ((n - (i + 1)) * 2)) : u ∈ cur.take (n * 2) := by
 have hd := List.drop_take (i := (i + 1) * 2) (j := n * 2) (l := cur)
 rw [show n * 2 - (i + 1) * 2 = (n - (i + 1)) * 2 by omega] at hd
 rw [← hd] at h
 exact List.mem_of_mem_drop h
theorem get_mid {cur : List Value} {k m j : Nat} {u : Value} (h : ((cur.drop k).take m)[j]? = some u) : cur[k + j]? = some u := by
 rw [List.getElem?_take] at h
 split at h
 ·rwa [List.getElem?_drop] at h
 ·cases h
set_option maxRecDepth 10000 in
/-- slices.Replace[[]headend/api.Subset,headend/api.Subset] -/
theorem g_ReplaceB (g n c i gs cS : Nat) (cur xs curS news : List Value) (hO : OwnSl 64 2 (some ⟨g, 0, none⟩) n c xs [⟨g, cur, 64⟩]) (hi : i < n) (hone : ∀ v ∈ xs, v.oneCell' = true) (hS : curS.take 4 = news) (hSl : news.length = 4) (hone2 : ∀ v ∈ news, v.oneCell' = true) (hn : n ≤ 100) : GivesS Tryz.prog 108 [.slice (some ⟨g, 0, none⟩) n c, .int .i64 (i : Int), .int .i64 ((i + 1 : Nat) : Int), .slice (some ⟨gs, 0, none⟩) 2 cS].toArray (fun _ L => (⟨gs, curS, 64⟩ : Blk) ∈ L) [⟨g, cur, 64⟩] (fun v B => ∃ a c2, v = .slice a (n + 1) c2 ∧ OwnSl 64 2 a (n + 1) c2 (xs.take (i * 2) ++ (news ++ xs.drop ((i + 1) * 2))) B) := by
 refine givesS_of Tryz.func108 rfl (bs := [.slice (some ⟨g, 0, none⟩) n c, .int .i64 (i : Int), .int .i64 ((i + 1 : Nat) : Int), .slice (some ⟨gs, 0, none⟩) 2 cS, undef, undef, undef, undef, undef, undef, undef, undef, undef, undef, undef, undef, undef, undef, undef, undef, undef, undef, undef, undef, undef, undef, undef, undef, undef, undef, undef, undef, undef, undef, undef, undef, undef, undef, undef, undef, undef, undef, undef, undef, undef, undef, undef, undef, undef, undef, undef, undef, undef, undef, undef, undef, undef, undef, undef, undef, undef, undef, undef, undef, undef, undef, undef, undef, undef, undef, undef, undef, undef, undef, undef, undef, undef, undef, undef, undef, undef, undef, undef, undef, undef, undef, undef, undef, undef, undef, undef, undef, undef, undef, undef, undef, undef, undef, undef, undef, undef, undef, undef, undef, undef, undef, undef, undef, undef, undef, undef, undef, undef, undef, undef, undef, undef, undef, undef, undef, undef, undef, undef, undef, undef, undef, undef, undef, undef, undef, undef, undef, undef, undef, undef, undef, undef, undef, undef, undef, undef, undef, undef, undef, undef, undef, undef, undef, undef, undef, undef, undef, undef, undef, undef, undef, undef, undef, undef, undef, undef, undef, undef, undef, undef, undef, undef, undef, undef, undef, undef, undef, undef, undef, undef, undef, undef, undef, undef, undef, undef, undef, undef, undef, undef, undef, undef, undef, undef, undef, undef, undef, undef, undef, undef, undef, undef, undef, undef, undef, undef, undef, undef, undef, undef, undef, undef, undef, undef, undef, undef, undef, undef, undef, undef, undef, undef, undef, undef, undef, undef, undef, undef, undef]) rfl ?_
 intro b L w hP hW
 obtain ⟨hnc, hcm, hcl, hct⟩ : n ≤ c ∧ c ≤ maxLen ∧ cur.length = c * 2 ∧ cur.take (n * 2) = xs := by
  rcases hO.2 with ⟨h, _⟩ | ⟨g2, cur2, h1, h2, h3⟩
  ·cases h
  ·simp only [Option.some.injEq, Addr.mk.injEq, and_true, List.cons.injEq, Blk.mk.injEq] at h1 h2
   obtain ⟨rfl, rfl⟩ := h2
   exact h3
 have hxl := hO.1
 have hnS : curS ≠ [] := fun e => by rw [e] at hS; rw [← hS] at hSl; simp at hSl
 obtain ⟨pS, hpS⟩ := List.getElem?_of_mem hP
 refine c_seq (c_reg ?_)
 refine bS ?_
 refine l_end (n_then (c_seq (c_reg ?_)))
 refine aS ?_
 refine aI ?_
 refine aI ?_
 refine l_val (r_sliceN (l := i) (h := i + 1) (j := i * 2) Tryz.underlying33 tyA64.size rfl rfl rfl rfl (by omega) (by omega) (by rw [if_neg (by omega)]; omega)) rfl rfl ?_
 refine l_end (n_then (c_seq (c_seq (c_reg ?_))))
 refine aI ?_
 refine aI ?_
 refine l_val (r_eqlN (b := false) rfl rfl rfl (decide_eq_false (by omega))) rfl rfl ?_
 refine l_end (n_then ?_)
 refine c_false rfl ?_
 refine c_skip (n_then (c_seq (c_seq (c_reg ?_))))
 refine aI ?_
 refine aS ?_
 refine l_val (r_lenSlice Tryz.underlying33 rfl rfl) rfl rfl ?_
 refine l_val (r_eqlN rfl rfl rfl rfl) rfl rfl ?_
 refine l_split ?_ ?_
 ·intro hc1
  replace hc1 := of_decide_eq_true hc1
  refine l_end (n_then ?_)
  refine c_true rfl ?_
  refine c_seq (c_reg ?_)
  refine aS ?_
  refine aI ?_
  refine l_val (r_sliceToN (h := i) Tryz.underlying33 tyA64.size rfl rfl rfl (by omega)) rfl rfl ?_
  refine aS ?_
  refine l_append tyE33 (L := L) (hO.cutTo (i := i) (by omega)) (show Cl _ (L ++ [_]) _ from (show Cl _ ([_] ++ L) _ from hW).perm List.perm_append_comm) (news := news) (N := n + 1) (by omega) rfl rfl rfl rfl rfl (by omega) (fun j u hu => by rw [cells_of (hW.at (pS + 1) hpS), Nat.zero_add]; exact take_get hS hu) hone2 (by unfold maxLen; omega) (by omega) ?_
  intro a1 c1 Bs1 W hO1 hW
  refine bS ?_
  refine l_end (n_then (c_seq (c_seq (c_reg ?_))))
  refine aS ?_
  refine l_val (r_lenSlice Tryz.underlying33 rfl rfl) rfl rfl ?_
  refine aS ?_
  refine l_val (r_lenSlice Tryz.underlying33 rfl rfl) rfl rfl ?_
  refine l_val (r_lssN (b := false) rfl rfl rfl (decide_eq_false (by omega))) rfl rfl ?_
  refine l_end (n_then ?_)
  refine c_false rfl ?_
  refine c_skip (n_then (c_seq (c_reg ?_)))
  refine aS ?_
  refine bS ?_
  refine l_end (n_then (c_ret (r_then ?_)))
  refine ret_tmp (v := .slice _ _ _) rfl rfl ?_
  exact ⟨_, Bs1, rfl, ⟨a1, c1, rfl, hO1.castx rfl (by rw [List.drop_of_length_le (l := xs) (by omega), List.append_nil])⟩, hW.perm List.perm_append_comm⟩
 ·intro hc1
  replace hc1 := of_decide_eq_false hc1
  refine l_end (n_then ?_)
  refine c_false rfl ?_
  refine c_skip (n_then (c_seq ?_))
  refine c_regY hW [] [.q, .q, .q, .q, .q, .q, .q, .q, .q, .q, .q, .q, .q] [0, 0, 3, 7, 0, 16, 63, 0, 0, 384, 896, 2047, 4095] (by kernel_rfl) (by kernel_rfl) ?_
  refine yS ?_
  refine yI ?_
  refine y_val (r_sliceToN (h := i) Tryz.underlying33 tyA64.size rfl rfl rfl (by omega)) rfl rfl ?_
  refine y_val (r_lenSlice Tryz.underlying33 rfl rfl) rfl rfl ?_
  refine yS ?_
  refine y_val (r_lenSlice Tryz.underlying33 rfl rfl) rfl rfl ?_
  refine y_val (r_addN rfl rfl rfl (by omega)) rfl rfl ?_
  refine yS ?_
  refine yI ?_
  refine y_val (r_sliceFromN (l := i + 1) (j := (i + 1) * 2) Tryz.underlying33 tyA64.size rfl rfl rfl (by omega) (by rw [if_neg (by omega)]; omega)) rfl rfl ?_
  refine y_val (r_lenSlice Tryz.underlying33 rfl rfl) rfl rfl ?_
  refine y_val (r_addN rfl rfl rfl (by omega)) rfl rfl ?_
  refine y_val (r_assign (v := .int _ _) rfl rfl) rfl rfl ?_
  refine y_end ?_
  intro W hW
  refine n_then (c_seq (c_seq (c_reg ?_)))
  refine aI ?_
  refine aS ?_
  refine l_val (r_cap Tryz.underlying33 rfl rfl) rfl rfl ?_
  refine l_val (r_gtrN rfl rfl rfl rfl) rfl rfl ?_
  refine l_split ?_ ?_
  ·intro hc2
   replace hc2 := of_decide_eq_true hc2
   refine l_end (n_then ?_)
   refine c_true rfl ?_
   refine c_seq (c_reg ?_)
   refine aS ?_
   refine aI ?_
   refine l_val (r_sliceToN (h := i) Tryz.underlying33 tyA64.size rfl rfl rfl (by omega)) rfl rfl ?_
   refine aI ?_
   refine aI ?_
   refine l_val (r_subN rfl rfl rfl (by omega) (by omega)) rfl rfl ?_
   refine l_appendZO (k := n + 1 - i) tyE33 Tryz.underlying3 hW 0 rfl (by omega) (by omega) (by omega) (by omega) (by omega) rfl rfl rfl (congrArg (fun k : Nat => Value.int .i64 (k : Int)) (show _ = n + 1 - i by omega)) rfl ?_
   intro gN cN curN W hN1 hN2 hN3 hN4 hW
   refine bS ?_
   refine l_end (n_then (c_seq (c_reg ?_)))
   refine aS ?_
   refine aI ?_
   refine l_val (r_sliceFromN (l := i) (j := (i) * 2) Tryz.underlying33 tyA64.size rfl rfl rfl (by omega) (by rw [if_neg (by omega)]; omega)) rfl rfl ?_
   refine aS ?_
   refine l_copyN hW 0 tyE33 (news := news) (j := 2) rfl rfl rfl rfl rfl rfl (fun j u hu => by rw [cells_of (hW.at (pS + 2) hpS), Nat.zero_add]; exact take_get hS hu) hSl (by omega) (by omega) hone2 ?_
   intro W hW
   refine l_end (n_then (c_seq ?_))
   refine c_regM hW [] [.q, .q, .q, .q, .q, .q, .q, .q, .q, .tail] [] [] [] [0, 0, 0, 4, 14, 31, 0, 0, 192, 511] (by kernel_rfl) (by kernel_rfl) rfl (by kernel_rfl) ?_
   refine yS ?_
   refine yI ?_
   refine yS ?_
   refine y_val (r_lenSlice Tryz.underlying33 rfl rfl) rfl rfl ?_
   refine y_val (r_addN rfl rfl rfl (by omega)) rfl rfl ?_
   refine y_val (r_sliceFromN (l := i + 2) (j := (i + 2) * 2) Tryz.underlying33 tyA64.size rfl rfl rfl (by omega) (by rw [if_neg (by omega)]; omega)) rfl rfl ?_
   refine yS ?_
   refine yI ?_
   refine y_val (r_sliceFromN (l := i + 1) (j := (i + 1) * 2) Tryz.underlying33 tyA64.size rfl rfl rfl (by omega) (by rw [if_neg (by omega)]; omega)) rfl rfl ?_
   refine y_tail ?_
   intro W hW
   refine l_copyN hW 0 tyE33 (news := ((cur.drop ((i + 1) * 2)).take ((n - (i + 1)) * 2))) (j := (n - (i + 1))) rfl rfl rfl rfl rfl rfl (fun j u hu => by rw [cells_of (hW.at 1 rfl)]; exact get_mid hu) (by rw [List.length_take, List.length_drop]; omega) (by omega) (by simp only [List.length_append, List.length_take, List.length_drop]; omega) (fun u hu => hone u (by rw [← hct]; exact mem_mid hi hu)) ?_
   intro W hW
   refine l_end (n_then (c_seq (c_reg ?_)))
   refine aS ?_
   refine bS ?_
   refine l_end (n_then (c_ret (r_then ?_)))
   refine ret_tmp (v := .slice _ _ _) rfl rfl ?_
   refine ⟨_, [_], rfl, ⟨some ⟨gN, 0, none⟩, cN, congrArg (fun k => Value.slice (some ⟨gN, 0, none⟩) k cN) (show (i + (n + 1 - i)) = n + 1 by omega), ?_, .inr ⟨gN, _, rfl, rfl, by omega, hN2, ?_, ?_⟩⟩, (show Cl _ (_ :: _ :: L) _ from hW).sub (.cons_cons _ (List.sublist_cons_self _ L))⟩
   ·rw [List.length_append, List.length_append, List.length_take, List.length_drop]; omega
   ·simp only [List.length_append, List.length_take, List.length_drop]; omega
   ·rw [repl_out hSl (by omega) (by omega) (by omega) hN4, hct]
  ·intro hc2
   replace hc2 := of_decide_eq_false hc2
   refine l_end (n_then ?_)
   refine c_false rfl ?_
   refine c_skip (n_then (c_seq (c_reg ?_)))
   refine aS ?_
   refine aI ?_
   refine l_val (r_sliceToN (h := i + 2 + (n - (i + 1))) Tryz.underlying33 tyA64.size rfl rfl rfl (by omega)) rfl rfl ?_
   refine bS ?_
   refine l_end (n_then (c_seq (c_seq (c_reg ?_))))
   refine aI ?_
   refine aS ?_
   refine l_val (r_lenSlice Tryz.underlying33 rfl rfl) rfl rfl ?_
   refine l_val (r_addN rfl rfl rfl (by omega)) rfl rfl ?_
   refine aI ?_
   refine l_val (r_leqN (b := false) rfl rfl rfl (decide_eq_false (by omega))) rfl rfl ?_
   refine l_end (n_then ?_)
   refine c_false rfl ?_
   refine c_skip (n_then (c_seq (c_seq (c_reg ?_))))
   refine aS ?_
   refine aI ?_
   refine aS ?_
   refine l_val (r_lenSlice Tryz.underlying33 rfl rfl) rfl rfl ?_
   refine l_val (r_addN rfl rfl rfl (by omega)) rfl rfl ?_
   refine l_val (r_sliceFromN (l := i + 2) (j := (i + 2) * 2) Tryz.underlying33 tyA64.size rfl rfl rfl (by omega) (by rw [if_neg (by omega)]; omega)) rfl rfl ?_
   refine aS ?_
   refine l_callE hW (v := .bool false) (args := [.slice (some ⟨g, (i + 2) * 2, none⟩) (i + 2 + (n - (i + 1)) - (i + 2)) (c - (i + 2)), .slice (some ⟨gs, 0, none⟩) 2 cS]) (by rw [run_callFunc_extern Tryz.func150 (by kernel_rfl) (by kernel_rfl) (by kernel_rfl) (e := Go.Extern.SlicesOverlaps.overlaps #[33, 33] #[4]) (by kernel_rfl), apart_run Tryz.underlying33 tyA64.size hW (p := 0) (q := pS + 1) (by omega) rfl hpS hnS]; rfl) rfl rfl rfl rfl ?_
   intro hW
   refine l_val (r_not rfl rfl) rfl rfl ?_
   refine l_end (n_then ?_)
   refine c_true rfl ?_
   refine c_seq ?_
   refine c_regM hW [] [.q, .q, .q, .q, .q, .q, .q, .q, .q, .tail] [] [] [] [0, 0, 0, 4, 14, 31, 0, 0, 192, 511] (by kernel_rfl) (by kernel_rfl) rfl (by kernel_rfl) ?_
   refine yS ?_
   refine yI ?_
   refine yS ?_
   refine y_val (r_lenSlice Tryz.underlying33 rfl rfl) rfl rfl ?_
   refine y_val (r_addN rfl rfl rfl (by omega)) rfl rfl ?_
   refine y_val (r_sliceFromN (l := i + 2) (j := (i + 2) * 2) Tryz.underlying33 tyA64.size rfl rfl rfl (by omega) (by rw [if_neg (by omega)]; omega)) rfl rfl ?_
   refine yS ?_
   refine yI ?_
   refine y_val (r_sliceFromN (l := i + 1) (j := (i + 1) * 2) Tryz.underlying33 tyA64.size rfl rfl rfl (by omega) (by rw [if_neg (by omega)]; omega)) rfl rfl ?_
   refine y_tail ?_
   intro W hW
   refine l_copyN hW 0 tyE33 (news := ((cur.drop ((i + 1) * 2)).take ((n - (i + 1)) * 2))) (j := (n - (i + 1))) rfl rfl rfl rfl rfl rfl (fun j u hu => by rw [cells_of (hW.at 0 rfl)]; exact get_mid hu) (by rw [List.length_take, List.length_drop]; omega) (by omega) (by omega) (fun u hu => hone u (by rw [← hct]; exact mem_mid hi hu)) ?_
   intro W hW
   refine l_end (n_then (c_seq (c_reg ?_)))
   refine aS ?_
   refine aI ?_
   refine l_val (r_sliceFromN (l := i) (j := (i) * 2) Tryz.underlying33 tyA64.size rfl rfl rfl (by omega) (by rw [if_neg (by omega)]; omega)) rfl rfl ?_
   refine aS ?_
   refine l_copyN hW 0 tyE33 (news := news) (j := 2) rfl rfl rfl rfl rfl rfl (fun j u hu => by rw [cells_of (hW.at (pS + 1) hpS), Nat.zero_add]; exact take_get hS hu) hSl (by omega) (by simp only [List.length_append, List.length_take, List.length_drop]; omega) hone2 ?_
   intro W hW
   refine l_end (n_then (c_seq (c_reg ?_)))
   refine aS ?_
   refine bS ?_
   refine l_end (n_then (c_ret (r_then ?_)))
   refine ret_tmp (v := .slice _ _ _) rfl rfl ?_
   refine ⟨_, [_], rfl, ⟨some ⟨g, 0, none⟩, c, congrArg (fun k => Value.slice (some ⟨g, 0, none⟩) k c) (show i + 2 + (n - (i + 1)) = n + 1 by omega), ?_, .inr ⟨g, _, rfl, rfl, by omega, hcm, ?_, ?_⟩⟩, hW⟩
   ·rw [List.length_append, List.length_append, List.length_take, List.length_drop]; omega
   ·simp only [List.length_append, List.length_take, List.length_drop]; omega
   ·rw [repl_in hSl (by omega) (by omega), hct]

end Go.Proofs.YtoegpalacppllaaGreat

