/- Part 3 of 5: what the law of this claim leans on -/
import Derived.Test.YtoegpalacppllaaPkA2
/- Labels, by the reference. -/
namespace Go.Proofs.Ytoegpalacppllaa
open Go.RowKit Pl
open Tr Hn
set_option maxRecDepth 10000 in
/-- headend/headendref03.leads -/
theorem g_rleads (s : Sc) (node minus v x : Int) (hs : schB s = true) (hx : subB s v x = true) (hm : minus < 128) : Gives Try.prog 132 [.agg [.int .u8 s.k, .int .i64 s.d, .int .i64 s.g, .int .u64 s.p, .int .u64 s.q, .int .u64 s.r].toArray, .int .i64 node, .int .i64 minus, .agg [.int .i64 v, .int .i64 x].toArray].toArray (.bool (leadB s node minus v x)) := by
  refine gives_of Try.func132 rfl (bs := [.agg [.int .u8 s.k, .int .i64 s.d, .int .i64 s.g, .int .u64 s.p, .int .u64 s.q, .int .u64 s.r].toArray, .int .i64 node, .int .i64 minus, .agg [.int .i64 v, .int .i64 x].toArray, undef, undef, undef, undef, undef, undef, undef, undef, undef, undef, undef, undef, undef, undef, undef, undef, undef, undef, undef, undef, undef, undef, undef, undef, undef, undef, undef, undef, undef, undef, undef, undef, undef, undef, undef, undef, undef, undef, undef, undef, undef, undef]) rfl ?_
  intro w hW
  obtain ⟨k1, k3, d0, d6, -⟩ := schB_iff.1 hs
  have hv2 := node_lt (sub_parts hx).1 d6
  refine c_seq ?_
  refine c_reg ?_
  refine l_box hW rfl rfl rfl rfl ?_
  intro g1 W hW
  refine l_box hW rfl rfl rfl rfl ?_
  intro g2 W hW
  refine l_val (r_assign (v := .bool _) rfl rfl) rfl rfl ?_
  refine l_end ?_
  refine n_then ?_
  refine c_seq ?_
  refine c_seq ?_
  refine c_reg ?_
  refine l_val (r_fieldAddr 0 Try.underlying26 rfl tyC5.size rfl rfl rfl) rfl rfl ?_
  refine l_loadC hW 1 tyC5 rfl rfl rfl rfl rfl rfl ?_
  refine l_val (r_eql rfl rfl rfl rfl) rfl rfl ?_
  refine l_split ?_ ?_
  · intro hc1
    replace hc1 := of_decide_eq_true hc1
    refine l_val (r_move (v := .bool _) rfl rfl) rfl rfl ?_
    refine l_not (by kernel_rfl) rfl ?_
    refine l_not (by kernel_rfl) rfl ?_
    refine l_not (by kernel_rfl) rfl ?_
    refine l_val (r_pick (v := .bool _) rfl rfl rfl) rfl rfl ?_
    refine l_end ?_
    refine n_then ?_
    refine c_true rfl ?_
    refine c_seq ?_
    refine c_reg ?_
    refine l_val (r_move (v := .int _ _) rfl rfl) rfl rfl ?_
    refine l_val (r_fieldAddr 0 Try.underlying112 rfl tyC3.size rfl rfl rfl) rfl rfl ?_
    refine l_loadC hW 0 tyC3 rfl rfl rfl rfl rfl rfl ?_
    refine l_val (r_eql rfl rfl rfl rfl) rfl rfl ?_
    refine l_split ?_ ?_
    · intro hc2
      replace hc2 := of_decide_eq_true hc2
      refine l_val (r_move (v := .bool _) rfl rfl) rfl rfl ?_
      refine l_valG (r_move (v := .int _ _) rfl rfl) (by kernel_rfl) rfl ?_
      refine l_valG (r_fieldAddr 1 Try.underlying112 rfl tyC3.size rfl rfl rfl) (by kernel_rfl) rfl ?_
      refine l_loadCG hW 0 tyC3 (by kernel_rfl) rfl rfl rfl rfl rfl ?_
      refine l_valG (r_eql rfl rfl rfl rfl) (by kernel_rfl) rfl ?_
      refine l_val (r_pick (v := .bool _) rfl rfl rfl) rfl rfl ?_
      refine l_val (r_assign (v := .bool _) rfl rfl) rfl rfl ?_
      refine l_end ?_
      refine n_then ?_
      refine c_ret ?_
      refine r_then ?_
      refine ret_tmp (v := .bool (leadB s node minus v x)) rfl ?_ ⟨rfl, hW.below⟩
      exact congrArg Value.bool (by rw [leadB, if_pos (.inl (by omega))]; exact decide_eq_decide.2 (by omega))
    · intro hc2
      replace hc2 := of_decide_eq_false hc2
      refine l_val (r_move (v := .bool _) rfl rfl) rfl rfl ?_
      refine l_not (by kernel_rfl) rfl ?_
      refine l_not (by kernel_rfl) rfl ?_
      refine l_not (by kernel_rfl) rfl ?_
      refine l_not (by kernel_rfl) rfl ?_
      refine l_val (r_pick (v := .bool _) rfl rfl rfl) rfl rfl ?_
      refine l_val (r_assign (v := .bool _) rfl rfl) rfl rfl ?_
      refine l_end ?_
      refine n_then ?_
      refine c_ret ?_
      refine r_then ?_
      refine ret_tmp (v := .bool (leadB s node minus v x)) rfl ?_ ⟨rfl, hW.below⟩
      exact congrArg Value.bool (by rw [leadB, if_pos (.inl (by omega)), decide_eq_false (by omega)])
  · intro hc1
    replace hc1 := of_decide_eq_false hc1
    refine l_val (r_move (v := .bool _) rfl rfl) rfl rfl ?_
    refine l_valG (r_fieldAddr 1 Try.underlying112 rfl tyC3.size rfl rfl rfl) (by kernel_rfl) rfl ?_
    refine l_loadCG hW 0 tyC3 (by kernel_rfl) rfl rfl rfl rfl rfl ?_
    refine l_valG (r_eql rfl rfl rfl rfl) (by kernel_rfl) rfl ?_
    refine l_split ?_ ?_
    · intro hc3
      replace hc3 := of_decide_eq_true hc3
      refine l_val (r_pick (v := .bool _) rfl rfl rfl) rfl rfl ?_
      refine l_end ?_
      refine n_then ?_
      refine c_true rfl ?_
      refine c_seq ?_
      refine c_reg ?_
      refine l_val (r_move (v := .int _ _) rfl rfl) rfl rfl ?_
      refine l_val (r_fieldAddr 0 Try.underlying112 rfl tyC3.size rfl rfl rfl) rfl rfl ?_
      refine l_loadC hW 0 tyC3 rfl rfl rfl rfl rfl rfl ?_
      refine l_val (r_eql rfl rfl rfl rfl) rfl rfl ?_
      refine l_split ?_ ?_
      · intro hc4
        replace hc4 := of_decide_eq_true hc4
        refine l_val (r_move (v := .bool _) rfl rfl) rfl rfl ?_
        refine l_valG (r_move (v := .int _ _) rfl rfl) (by kernel_rfl) rfl ?_
        refine l_valG (r_fieldAddr 1 Try.underlying112 rfl tyC3.size rfl rfl rfl) (by kernel_rfl) rfl ?_
        refine l_loadCG hW 0 tyC3 (by kernel_rfl) rfl rfl rfl rfl rfl ?_
        refine l_valG (r_eql rfl rfl rfl rfl) (by kernel_rfl) rfl ?_
        refine l_val (r_pick (v := .bool _) rfl rfl rfl) rfl rfl ?_
        refine l_val (r_assign (v := .bool _) rfl rfl) rfl rfl ?_
        refine l_end ?_
        refine n_then ?_
        refine c_ret ?_
        refine r_then ?_
        refine ret_tmp (v := .bool (leadB s node minus v x)) rfl ?_ ⟨rfl, hW.below⟩
        exact congrArg Value.bool (by rw [leadB, if_pos (.inr (by omega))]; exact decide_eq_decide.2 (by omega))
      · intro hc4
        replace hc4 := of_decide_eq_false hc4
        refine l_val (r_move (v := .bool _) rfl rfl) rfl rfl ?_
        refine l_not (by kernel_rfl) rfl ?_
        refine l_not (by kernel_rfl) rfl ?_
        refine l_not (by kernel_rfl) rfl ?_
        refine l_not (by kernel_rfl) rfl ?_
        refine l_val (r_pick (v := .bool _) rfl rfl rfl) rfl rfl ?_
        refine l_val (r_assign (v := .bool _) rfl rfl) rfl rfl ?_
        refine l_end ?_
        refine n_then ?_
        refine c_ret ?_
        refine r_then ?_
        refine ret_tmp (v := .bool (leadB s node minus v x)) rfl ?_ ⟨rfl, hW.below⟩
        exact congrArg Value.bool (by rw [leadB, if_pos (.inr (by omega)), decide_eq_false (by omega)])
    · intro hc3
      replace hc3 := of_decide_eq_false hc3
      have hw2 := node_lt ((sub_parts hx).2.2.2 (by omega) (by omega)).1 d6
      refine l_val (r_pick (v := .bool _) rfl rfl rfl) rfl rfl ?_
      refine l_end ?_
      refine n_then ?_
      refine c_false rfl ?_
      refine c_skip ?_
      refine n_then ?_
      refine c_seq ?_
      refine c_reg ?_
      refine l_val (r_move (v := .int _ _) rfl rfl) rfl rfl ?_
      refine l_val (r_fieldAddr 0 Try.underlying112 rfl tyC3.size rfl rfl rfl) rfl rfl ?_
      refine l_loadC hW 0 tyC3 rfl rfl rfl rfl rfl rfl ?_
      refine l_val (r_eql rfl rfl rfl rfl) rfl rfl ?_
      refine l_split ?_ ?_
      · intro hc5
        replace hc5 := of_decide_eq_true hc5
        refine l_val (r_move (v := .bool _) rfl rfl) rfl rfl ?_
        refine l_valG (r_move (v := .int _ _) rfl rfl) (by kernel_rfl) rfl ?_
        refine l_valG (r_geq rfl rfl rfl rfl) (by kernel_rfl) rfl ?_
        refine l_split ?_ ?_
        · intro hc6
          replace hc6 := of_decide_eq_true hc6
          refine l_val (r_pick (v := .bool _) rfl rfl rfl) rfl rfl ?_
          refine l_val (r_move (v := .bool _) rfl rfl) rfl rfl ?_
          refine l_valG (r_move (v := .int _ _) rfl rfl) (by kernel_rfl) rfl ?_
          refine l_valG (r_move (v := .int _ _) rfl rfl) (by kernel_rfl) rfl ?_
          refine l_callG hW (g_rBelowZ minus node (by omega) (by omega) (by omega) (by omega)) en98 (by kernel_rfl) rfl rfl rfl ?_
          intro W hW
          refine l_split ?_ ?_
          · intro hc7
            refine l_val (r_pick (v := .bool _) rfl rfl rfl) rfl rfl ?_
            refine l_val (r_move (v := .bool _) rfl rfl) rfl rfl ?_
            refine l_valG (r_fieldAddr 1 Try.underlying112 rfl tyC3.size rfl rfl rfl) (by kernel_rfl) rfl ?_
            refine l_loadCG hW 0 tyC3 (by kernel_rfl) rfl rfl rfl rfl rfl ?_
            refine l_valG (r_move (v := .int _ _) rfl rfl) (by kernel_rfl) rfl ?_
            refine l_callG hW (g_rBelowZ x minus (by omega) (by omega) (by omega) (by omega)) en98 (by kernel_rfl) rfl rfl rfl ?_
            intro W hW
            refine l_val (r_pick (v := .bool _) rfl rfl rfl) rfl rfl ?_
            refine l_val (r_assign (v := .bool _) rfl rfl) rfl rfl ?_
            refine l_end ?_
            refine n_then ?_
            refine c_ret ?_
            refine ret_tmp (v := .bool (leadB s node minus v x)) rfl ?_ ⟨rfl, hW.below⟩
            exact congrArg Value.bool (by rw [leadB, if_neg (by omega), decide_eq_true (by omega), hc7]; rfl)
          · intro hc7
            refine l_val (r_pick (v := .bool _) rfl rfl rfl) rfl rfl ?_
            refine l_val (r_move (v := .bool _) rfl rfl) rfl rfl ?_
            refine l_not (by kernel_rfl) rfl ?_
            refine l_not (by kernel_rfl) rfl ?_
            refine l_not (by kernel_rfl) rfl ?_
            refine l_not (by kernel_rfl) rfl ?_
            refine l_val (r_pick (v := .bool _) rfl rfl rfl) rfl rfl ?_
            refine l_val (r_assign (v := .bool _) rfl rfl) rfl rfl ?_
            refine l_end ?_
            refine n_then ?_
            refine c_ret ?_
            refine ret_tmp (v := .bool (leadB s node minus v x)) rfl ?_ ⟨rfl, hW.below⟩
            exact congrArg Value.bool (by rw [leadB, if_neg (by omega), hc7, Bool.and_false]; rfl)
        · intro hc6
          replace hc6 := of_decide_eq_false hc6
          refine l_val (r_pick (v := .bool _) rfl rfl rfl) rfl rfl ?_
          refine l_val (r_move (v := .bool _) rfl rfl) rfl rfl ?_
          refine l_not (by kernel_rfl) rfl ?_
          refine l_not (by kernel_rfl) rfl ?_
          refine l_not (by kernel_rfl) rfl ?_
          refine l_val (r_pick (v := .bool _) rfl rfl rfl) rfl rfl ?_
          refine l_val (r_move (v := .bool _) rfl rfl) rfl rfl ?_
          refine l_not (by kernel_rfl) rfl ?_
          refine l_not (by kernel_rfl) rfl ?_
          refine l_not (by kernel_rfl) rfl ?_
          refine l_not (by kernel_rfl) rfl ?_
          refine l_val (r_pick (v := .bool _) rfl rfl rfl) rfl rfl ?_
          refine l_val (r_assign (v := .bool _) rfl rfl) rfl rfl ?_
          refine l_end ?_
          refine n_then ?_
          refine c_ret ?_
          refine ret_tmp (v := .bool (leadB s node minus v x)) rfl ?_ ⟨rfl, hW.below⟩
          exact congrArg Value.bool (by rw [leadB, if_neg (by omega), decide_eq_false (by omega)]; rfl)
      · intro hc5
        replace hc5 := of_decide_eq_false hc5
        refine l_val (r_move (v := .bool _) rfl rfl) rfl rfl ?_
        refine l_not (by kernel_rfl) rfl ?_
        refine l_not (by kernel_rfl) rfl ?_
        refine l_val (r_pick (v := .bool _) rfl rfl rfl) rfl rfl ?_
        refine l_val (r_move (v := .bool _) rfl rfl) rfl rfl ?_
        refine l_not (by kernel_rfl) rfl ?_
        refine l_not (by kernel_rfl) rfl ?_
        refine l_not (by kernel_rfl) rfl ?_
        refine l_val (r_pick (v := .bool _) rfl rfl rfl) rfl rfl ?_
        refine l_val (r_move (v := .bool _) rfl rfl) rfl rfl ?_
        refine l_not (by kernel_rfl) rfl ?_
        refine l_not (by kernel_rfl) rfl ?_
        refine l_not (by kernel_rfl) rfl ?_
        refine l_not (by kernel_rfl) rfl ?_
        refine l_val (r_pick (v := .bool _) rfl rfl rfl) rfl rfl ?_
        refine l_val (r_assign (v := .bool _) rfl rfl) rfl rfl ?_
        refine l_end ?_
        refine n_then ?_
        refine c_ret ?_
        refine ret_tmp (v := .bool (leadB s node minus v x)) rfl ?_ ⟨rfl, hW.below⟩
        exact congrArg Value.bool (by rw [leadB, if_neg (by omega), decide_eq_false (by omega)]; rfl)

set_option maxRecDepth 10000 in
/-- headend/headendref03.LabelsOf -/
theorem g_rLabelsOf (s : Sc) (u : Nat) (hs : schB s = true) (hu : u < p2 s.d.toNat) : GivesX Try.prog 131 [.agg [.int .u8 s.k, .int .i64 s.d, .int .i64 s.g, .int .u64 s.p, .int .u64 s.q, .int .u64 s.r].toArray, .int .i64 (u : Int)].toArray (fun _ => True) (NewSl 112 2 (labN s u).length (sl2 (labN s u))) := by
  refine givesX_of Try.func131 rfl (bs := [.agg [.int .u8 s.k, .int .i64 s.d, .int .i64 s.g, .int .u64 s.p, .int .u64 s.q, .int .u64 s.r].toArray, .int .i64 (u : Int), undef, undef, undef, undef, undef, undef, undef, undef, undef, undef, undef, undef, undef, undef, undef, undef, undef, undef, undef, undef, undef, undef, undef, undef, undef, undef, undef, undef, undef, undef, undef, undef, undef, undef, undef, undef, undef, undef, undef, undef, undef, undef, undef, undef, undef, undef, undef, undef, undef, undef, undef, undef, undef, undef, undef, undef, undef, undef, undef, undef, undef, undef, undef, undef, undef, undef, undef, undef, undef]) rfl ?_
  intro w hP hW
  obtain ⟨k1, k3, d0, d6, -⟩ := schB_iff.1 hs
  have hp := p2_le (n := s.d.toNat) (by omega)
  have hly := leaf_lev hu
  have hl1 : lev 1 = 0 := lev_one (Nat.le_refl _)
  have hkx : (lev (p2 s.d.toNat + u) - lev 1) = s.d.toNat := by rw [hly, hl1]; rfl
  refine c_seq ?_
  refine c_reg ?_
  refine l_box hW rfl rfl rfl rfl ?_
  intro g1 W hW
  refine l_val (r_assign (v := .slice _ _ _) rfl rfl) rfl rfl ?_
  refine l_end ?_
  refine n_then ?_
  refine c_seq ?_
  refine c_reg ?_
  refine l_val (r_assign (v := .slice _ _ _) rfl rfl) rfl rfl ?_
  refine l_end ?_
  refine n_then ?_
  refine c_seq ?_
  refine c_reg ?_
  refine l_val (r_fieldAddr 1 Try.underlying26 rfl tyC3.size rfl rfl rfl) rfl rfl ?_
  refine l_loadC hW 0 tyC3 rfl rfl rfl rfl rfl rfl ?_
  refine l_call hW (g_Receivers _ (by omega) (by omega)) en65 rfl rfl rfl rfl ?_
  intro W hW
  refine l_val (r_move (v := .int _ _) rfl rfl) rfl rfl ?_
  refine l_val (r_addN rfl rfl rfl (by omega)) rfl rfl ?_
  refine l_callX hW (g_rPath 1 (p2 s.d.toNat + u) (by omega) (below_top (by have := p2_pos s.d.toNat; omega) (by omega))) en130 trivial rfl rfl rfl rfl ?_
  rintro _ _ W ⟨ap, cp, rfl, hO⟩ hW
  obtain ⟨gp, cur, rfl, rfl, -, -, htk⟩ := hO.row (by omega)
  have hnode : ∀ i, i < s.d.toNat + 1 → cur[i]? = some (.int .i64 ((pn s.d.toNat (p2 s.d.toNat + u) i : Nat) : Int)) := fun i hi => by
    rw [take_get htk (path_get (by omega)), hkx]; rfl
  refine l_val (r_assign (v := .slice _ _ _) rfl rfl) rfl rfl ?_
  refine l_end ?_
  refine n_then ?_
  refine c_seq ?_
  refine c_seq ?_
  refine c_reg ?_
  refine l_val (r_fieldAddr 0 Try.underlying26 rfl tyC5.size rfl rfl rfl) rfl rfl ?_
  refine l_loadC hW 0 tyC5 rfl rfl rfl rfl rfl rfl ?_
  refine l_val (r_eql rfl rfl rfl rfl) rfl rfl ?_
  refine l_split ?_ ?_
  · intro hc1
    replace hc1 := of_decide_eq_true hc1
    refine l_end ?_
    refine n_then ?_
    refine c_true rfl ?_
    refine c_seq ?_
    refine c_seq ?_
    refine c_reg ?_
    refine l_val (r_assign (v := .int _ _) rfl rfl) rfl rfl ?_
    refine l_end ?_
    refine n_then ?_
    refine c_block ?_
    refine c_loop (fun (x : Nat × Option Addr × Nat × List Blk) (j : Nat → Value) => [.agg [.int .u8 s.k, .int .i64 s.d, .int .i64 s.g, .int .u64 s.p, .int .u64 s.q, .int .u64 s.r].toArray, .int .i64 (u : Int), .pointer (some ⟨g1, 0, none⟩), j 3, j 4, .slice x.2.1 (lab1 s.d.toNat (p2 s.d.toNat + u) x.1).length x.2.2.1, .slice (some ⟨gp, 0, none⟩) ((lev (p2 s.d.toNat + u) - lev 1) + 1) cp, .int .i64 (x.1 : Int), j 8, j 9, j 10, .pointer (some ⟨g1, 1, none⟩), .int .i64 s.d, .int .i64 ((p2 s.d.toNat : Nat) : Int), .int .i64 (u : Int), .int .i64 (((p2 s.d.toNat) + u : Nat) : Int), .slice (some ⟨gp, 0, none⟩) ((lev (p2 s.d.toNat + u) - lev 1) + 1) cp, .pointer (some ⟨g1, 0, none⟩), .int .u8 s.k, .bool true, j 20, j 21, j 22, j 23, j 24, j 25, j 26, j 27, j 28, j 29, j 30, j 31, j 32, j 33, j 34, j 35, j 36, j 37, j 38, j 39, j 40, j 41, j 42, j 43, j 44, j 45, j 46, j 47, j 48, j 49, j 50, j 51, j 52, j 53, j 54, j 55, j 56, j 57, j 58, j 59, j 60, j 61, j 62, j 63, j 64, j 65, j 66, j 67, j 68, j 69, j 70]) (fun (x : Nat × Option Addr × Nat × List Blk) => [⟨g1, [.int .u8 s.k, .int .i64 s.d, .int .i64 s.g, .int .u64 s.p, .int .u64 s.q, .int .u64 s.r], 26⟩, ⟨gp, cur, 3⟩] ++ x.2.2.2) (fun (x : Nat × Option Addr × Nat × List Blk) => x.1 ≤ s.d.toNat + 1 ∧ OwnSl 112 2 x.2.1 (lab1 s.d.toNat (p2 s.d.toNat + u) x.1).length x.2.2.1 (sl2 (lab1 s.d.toNat (p2 s.d.toNat + u) x.1)) x.2.2.2) (fun (x : Nat × Option Addr × Nat × List Blk) => s.d.toNat + 1 - x.1) (0, none, 0, []) (by kernel_rfl) (by simpa using hW) ⟨Nat.zero_le _, OwnSl.nil 112 2⟩ ?_
    intro x j W hx hW
    obtain ⟨hx, hO⟩ := hx
    refine c_seq ?_
    refine c_seq ?_
    refine c_reg ?_
    refine l_val (r_move (v := .int _ _) rfl rfl) rfl rfl ?_
    refine l_val (r_move (v := .slice _ _ _) rfl rfl) rfl rfl ?_
    refine l_val (r_lenSlice Try.underlying35 rfl rfl) rfl rfl ?_
    refine l_val (r_lssN rfl rfl rfl rfl) rfl rfl ?_
    refine l_split ?_ ?_
    · intro hc2
      replace hc2 := of_decide_eq_true hc2
      refine l_end ?_
      refine n_then ?_
      refine c_true rfl ?_
      refine c_skip ?_
      refine n_then ?_
      refine c_seq ?_
      refine c_block ?_
      refine c_reg ?_
      have hlab : lab1 s.d.toNat (p2 s.d.toNat + u) (x.1 + 1) = lab1 s.d.toNat (p2 s.d.toNat + u) x.1 ++ [(((pn s.d.toNat (p2 s.d.toNat + u) x.1 : Nat) : Int), 0)] := rfl
      have hll := lab1_len s.d.toNat (p2 s.d.toNat + u) x.1
      refine l_val (r_move (v := .slice _ _ _) rfl rfl) rfl rfl ?_
      refine l_val (r_move (v := .slice _ _ _) rfl rfl) rfl rfl ?_
      refine l_val (r_move (v := .int _ _) rfl rfl) rfl rfl ?_
      refine l_val (r_indexAddrSl1 (n := x.1) Try.underlying35 tyC3.size rfl rfl rfl (by omega)) rfl rfl ?_
      refine l_loadC hW 1 tyC3 (v := .int .i64 ((pn s.d.toNat (p2 s.d.toNat + u) x.1 : Nat) : Int)) rfl rfl rfl rfl rfl (hnode x.1 (by omega)) ?_
      refine l_val (r_build (ps := [(0, .int _ _)]) (bld112_0 _) rfl rfl) rfl rfl ?_
      refine l_buildSliceF hW (bsl40_1_0 _ _) rfl rfl rfl rfl ?_
      intro gb W hW
      refine l_appendB tyE40 (L := [_, _, _]) hO hW 0 (N := (lab1 s.d.toNat (p2 s.d.toNat + u) (x.1 + 1)).length) (by rw [hlab]; simp only [List.length_append, List.length_cons, List.length_nil] <;> omega) rfl rfl rfl rfl rfl rfl rfl (by simp [Value.oneCell']) (by rw [hlab]; simp only [List.length_append, List.length_cons, List.length_nil]; unfold maxLen; omega) (by rw [hlab]; simp only [List.length_append, List.length_cons, List.length_nil]; omega) ?_
      intro a1 c1 Bs1 W hO1 hW
      replace hO1 := hO1.castx rfl (xs' := sl2 (lab1 s.d.toNat (p2 s.d.toNat + u) (x.1 + 1))) (by rw [hlab, sl2_append (lab1 s.d.toNat (p2 s.d.toNat + u) x.1) [_]]; rfl)
      refine l_val (r_assign (v := .slice _ _ _) rfl rfl) rfl rfl ?_
      refine l_end ?_
      refine n_block ?_
      refine n_then ?_
      refine c_reg ?_
      refine l_val (r_move (v := .int _ _) rfl rfl) rfl rfl ?_
      refine l_val (r_addN (n := 1) rfl rfl rfl (by omega)) rfl rfl ?_
      refine l_val (r_assign (v := .int _ _) rfl rfl) rfl rfl ?_
      refine l_end ?_
      refine n_then ?_
      exact loop_next (x.1 + 1, a1, c1, Bs1) (by kernel_rfl) (hW.drop 1) ⟨by simp only; omega, hO1⟩ (by simp only; omega)
    · intro hc2
      replace hc2 := of_decide_eq_false hc2
      refine l_end ?_
      refine n_then ?_
      refine c_false rfl ?_
      refine c_exit ?_
      refine x_then ?_
      refine x_then ?_
      refine x_hit ?_
      refine n_then ?_
      refine c_seq ?_
      refine c_reg ?_
      refine l_val (r_move (v := .slice _ _ _) rfl rfl) rfl rfl ?_
      refine l_val (r_assign (v := .slice _ _ _) rfl rfl) rfl rfl ?_
      refine l_end ?_
      refine n_then ?_
      refine c_ret ?_
      refine r_then ?_
      refine ret_tmp (v := .slice _ _ _) rfl rfl ?_
      have e : x.1 = s.d.toNat + 1 := by omega
      rw [show labN s u = lab1 s.d.toNat (p2 s.d.toNat + u) x.1 by rw [labN, if_pos (by omega), e]]
      exact ⟨_, _, rfl, ⟨_, _, rfl, hO⟩, hW.sub (List.sublist_append_right _ _)⟩
  · intro hc1
    replace hc1 := of_decide_eq_false hc1
    refine l_end ?_
    refine n_then ?_
    refine c_false rfl ?_
    refine c_skip ?_
    refine n_then ?_
    refine c_seq ?_
    refine c_reg ?_
    refine l_val (r_move (v := .slice _ _ _) rfl rfl) rfl rfl ?_
    refine l_val (r_build (ps := [(0, .int _ _)]) (bld112_0 _) rfl rfl) rfl rfl ?_
    refine l_buildSliceF hW (bsl40_1_0 _ _) rfl rfl rfl rfl ?_
    intro gb W hW
    refine l_appendB tyE40 (L := [_, _, _]) (OwnSl.nil 112 2) (by simpa using hW) 0 (N := 1) rfl rfl rfl rfl rfl rfl rfl rfl (by simp [Value.oneCell']) (by decide) (by decide) ?_
    intro a0 c0 Bs0 W hO0 hW
    refine l_val (r_assign (v := .slice _ _ _) rfl rfl) rfl rfl ?_
    refine l_end ?_
    replace hW := hW.drop 1
    refine n_then ?_
    refine c_seq ?_
    refine c_seq ?_
    refine c_reg ?_
    refine l_val (r_assign (v := .int _ _) rfl rfl) rfl rfl ?_
    refine l_end ?_
    refine n_then ?_
    refine c_block ?_
    refine c_loop (fun (x : Nat × Option Addr × Nat × List Blk × Nat) (j : Nat → Value) => [.agg [.int .u8 s.k, .int .i64 s.d, .int .i64 s.g, .int .u64 s.p, .int .u64 s.q, .int .u64 s.r].toArray, .int .i64 (u : Int), .pointer (some ⟨g1, 0, none⟩), j 3, j 4, .slice x.2.1 x.2.2.2.2 x.2.2.1, .slice (some ⟨gp, 0, none⟩) ((lev (p2 s.d.toNat + u) - lev 1) + 1) cp, j 7, .int .i64 (x.1 : Int), j 9, j 10, .pointer (some ⟨g1, 1, none⟩), .int .i64 s.d, .int .i64 ((p2 s.d.toNat : Nat) : Int), .int .i64 (u : Int), .int .i64 (((p2 s.d.toNat) + u : Nat) : Int), .slice (some ⟨gp, 0, none⟩) ((lev (p2 s.d.toNat + u) - lev 1) + 1) cp, .pointer (some ⟨g1, 0, none⟩), .int .u8 s.k, .bool false, j 20, j 21, j 22, j 23, j 24, j 25, j 26, j 27, j 28, j 29, j 30, j 31, j 32, j 33, j 34, j 35, .agg ([.int .i64 1, .int .i64 0]).toArray, j 37, .slice a0 1 c0, j 39, j 40, j 41, j 42, j 43, j 44, j 45, j 46, j 47, j 48, j 49, j 50, j 51, j 52, j 53, j 54, j 55, j 56, j 57, j 58, j 59, j 60, j 61, j 62, j 63, j 64, j 65, j 66, j 67, j 68, j 69, j 70]) (fun (x : Nat × Option Addr × Nat × List Blk × Nat) => [⟨g1, [.int .u8 s.k, .int .i64 s.d, .int .i64 s.g, .int .u64 s.p, .int .u64 s.q, .int .u64 s.r], 26⟩, ⟨gp, cur, 3⟩] ++ x.2.2.2.1) (fun (x : Nat × Option Addr × Nat × List Blk × Nat) => x.1 ≤ s.d.toNat + 1 ∧ x.2.2.2.2 = (labs s (p2 s.d.toNat + u) x.1).length ∧ OwnSl 112 2 x.2.1 x.2.2.2.2 x.2.2.1 (sl2 (labs s (p2 s.d.toNat + u) x.1)) x.2.2.2.1) (fun (x : Nat × Option Addr × Nat × List Blk × Nat) => s.d.toNat + 1 - x.1) (0, a0, c0, Bs0, 1) (by kernel_rfl) hW ⟨Nat.zero_le _, rfl, hO0⟩ ?_
    intro x j W hx hW
    obtain ⟨hx, hxn, hO⟩ := hx
    refine c_seq ?_
    refine c_seq ?_
    refine c_reg ?_
    refine l_val (r_move (v := .int _ _) rfl rfl) rfl rfl ?_
    refine l_val (r_move (v := .slice _ _ _) rfl rfl) rfl rfl ?_
    refine l_val (r_lenSlice Try.underlying35 rfl rfl) rfl rfl ?_
    refine l_val (r_lssN rfl rfl rfl rfl) rfl rfl ?_
    refine l_split ?_ ?_
    · intro hc3
      replace hc3 := of_decide_eq_true hc3
      refine l_end ?_
      refine n_then ?_
      refine c_true rfl ?_
      refine c_skip ?_
      refine n_then ?_
      refine c_seq ?_
      refine c_block ?_
      refine c_seq ?_
      refine c_reg ?_
      refine l_val (r_move (v := .int _ _) rfl rfl) rfl rfl ?_
      refine l_val (r_addN (n := 1) rfl rfl rfl (by omega)) rfl rfl ?_
      refine l_val (r_assign (v := .int _ _) rfl rfl) rfl rfl ?_
      refine l_end ?_
      refine n_then ?_
      refine c_block ?_
      refine c_loop (fun (q : Nat × Option Addr × Nat × List Blk × Nat) (j : Nat → Value) => [.agg [.int .u8 s.k, .int .i64 s.d, .int .i64 s.g, .int .u64 s.p, .int .u64 s.q, .int .u64 s.r].toArray, .int .i64 (u : Int), .pointer (some ⟨g1, 0, none⟩), j 3, j 4, .slice q.2.1 q.2.2.2.2 q.2.2.1, .slice (some ⟨gp, 0, none⟩) ((lev (p2 s.d.toNat + u) - lev 1) + 1) cp, j 7, .int .i64 (x.1 : Int), .int .i64 (q.1 : Int), j 10, .pointer (some ⟨g1, 1, none⟩), .int .i64 s.d, .int .i64 ((p2 s.d.toNat : Nat) : Int), .int .i64 (u : Int), .int .i64 (((p2 s.d.toNat) + u : Nat) : Int), .slice (some ⟨gp, 0, none⟩) ((lev (p2 s.d.toNat + u) - lev 1) + 1) cp, .pointer (some ⟨g1, 0, none⟩), .int .u8 s.k, .bool false, j 20, j 21, j 22, j 23, j 24, j 25, j 26, j 27, j 28, j 29, j 30, j 31, j 32, j 33, j 34, j 35, .agg ([.int .i64 1, .int .i64 0]).toArray, j 37, .slice a0 1 c0, .int .i64 (x.1 : Int), .slice (some ⟨gp, 0, none⟩) ((lev (p2 s.d.toNat + u) - lev 1) + 1) cp, .int .i64 (((lev (p2 s.d.toNat + u) - lev 1) + 1 : Nat) : Int), .bool true, j 43, j 44, .int .i64 (x.1 : Int), .int .i64 ((x.1 + 1 : Nat) : Int), j 47, j 48, j 49, j 50, j 51, j 52, j 53, j 54, j 55, j 56, j 57, j 58, j 59, j 60, j 61, j 62, j 63, j 64, j 65, j 66, j 67, j 68, j 69, j 70]) (fun (q : Nat × Option Addr × Nat × List Blk × Nat) => [⟨g1, [.int .u8 s.k, .int .i64 s.d, .int .i64 s.g, .int .u64 s.p, .int .u64 s.q, .int .u64 s.r], 26⟩, ⟨gp, cur, 3⟩] ++ q.2.2.2.1) (fun (q : Nat × Option Addr × Nat × List Blk × Nat) => x.1 < q.1 ∧ q.1 ≤ s.d.toNat + 1 ∧ q.2.2.2.2 = (labs s (p2 s.d.toNat + u) x.1 ++ rowL s (p2 s.d.toNat + u) x.1 q.1).length ∧ OwnSl 112 2 q.2.1 q.2.2.2.2 q.2.2.1 (sl2 (labs s (p2 s.d.toNat + u) x.1 ++ rowL s (p2 s.d.toNat + u) x.1 q.1)) q.2.2.2.1) (fun (q : Nat × Option Addr × Nat × List Blk × Nat) => s.d.toNat + 1 - q.1) (x.1 + 1, x.2.1, x.2.2.1, x.2.2.2.1, x.2.2.2.2) (by kernel_rfl) hW ⟨by simp only; omega, by simp only; omega, by simp only [rowL_none s _ x.1 (Nat.le_refl _), List.append_nil]; exact hxn, by simp only [rowL_none s _ x.1 (Nat.le_refl _), List.append_nil]; exact hO⟩ ?_
      intro q j W hx hW
      replace hO := hx.2.2.2
      have hOq := hx.2.2.2
      have hqn := hx.2.2.1
      have hqm := hqn
      rw [List.length_append] at hqm
      have hx1 := hx.1
      have hx2 := hx.2.1
      have hq1 := labs_len s (p2 s.d.toNat + u) x.1
      have hq2 := rowL_len s (p2 s.d.toNat + u) x.1 q.1
      have hq3 : x.1 * (s.d.toNat + 1) ≤ 7 * 7 := Nat.mul_le_mul (by omega) (by omega)
      refine c_seq ?_
      refine c_seq ?_
      refine c_reg ?_
      refine l_val (r_move (v := .int _ _) rfl rfl) rfl rfl ?_
      refine l_val (r_move (v := .slice _ _ _) rfl rfl) rfl rfl ?_
      refine l_val (r_lenSlice Try.underlying35 rfl rfl) rfl rfl ?_
      refine l_val (r_lssN rfl rfl rfl rfl) rfl rfl ?_
      refine l_split ?_ ?_
      · intro hc4
        replace hc4 := of_decide_eq_true hc4
        refine l_end ?_
        refine n_then ?_
        refine c_true rfl ?_
        refine c_skip ?_
        refine n_then ?_
        refine c_seq ?_
        refine c_block ?_
        refine c_seq ?_
        refine c_regM hW [] [.q, .q, .q, .q, .q, .q, .q, .q, .q, .q, .mk 0, .st 0] [⟨10, allocX 112 2⟩] [z112] [10] [0, 0, 3, 7, 0, 0, 48, 112, 240, 511, 0, 2047] (by kernel_rfl) (by kernel_rfl) rfl (by kernel_rfl) ?_
        refine y_val (r_move (v := .slice _ _ _) rfl rfl) rfl rfl ?_
        refine y_val (r_move (v := .int _ _) rfl rfl) rfl rfl ?_
        refine y_val (r_indexAddrSl1 (n := x.1) Try.underlying35 tyC3.size rfl rfl rfl (by omega)) rfl rfl ?_
        refine y_loadC 1 tyC3 (v := .int .i64 ((pn s.d.toNat (p2 s.d.toNat + u) x.1 : Nat) : Int)) (by kernel_rfl) rfl rfl rfl rfl (hnode x.1 (by omega)) (by decide) ?_
        refine y_val (r_move (v := .slice _ _ _) rfl rfl) rfl rfl ?_
        refine y_val (r_move (v := .int _ _) rfl rfl) rfl rfl ?_
        refine y_val (r_indexAddrSl1 (n := q.1) Try.underlying35 tyC3.size rfl rfl rfl (by omega)) rfl rfl ?_
        refine y_loadC 1 tyC3 (v := .int .i64 ((pn s.d.toNat (p2 s.d.toNat + u) q.1 : Nat) : Int)) (by kernel_rfl) rfl rfl rfl rfl (hnode q.1 (by omega)) (by decide) ?_
        refine y_val (r_xorS rfl rfl rfl (Nat.lt_of_le_of_lt (sh_le _ _) (by omega))) rfl rfl ?_
        refine y_val (r_build (ps := [(0, .int _ _), (1, .int _ _)]) (bld112_0_1 _ _) rfl rfl) rfl rfl ?_
        refine y_alloc 0 tyZ112 rfl rfl rfl rfl ?_
        refine y_stA 0 tyA112 rfl rfl rfl rfl (by first | rfl | exact kc_len _ | exact kcf_len _ | exact boC_len _ _ | (simp; done)) (by first | exact kc_one _ | exact kcf_one _ | exact boC_one _ _ | (simp [Value.oneCell']; done)) ?_
        refine y_end ?_
        refine y_made ?_
        rintro _ _ ⟨g2, rfl, rfl, -⟩
        intro W hW
        refine n_then ?_
        refine c_seq ?_
        refine c_reg ?_
        refine l_loadA hW 1 tyA26 rfl rfl rfl rfl rfl (by first | rfl | exact kc_len _ | exact kcf_len _ | exact boC_len _ _ | (simp; done)) ?_
        refine l_loadA hW 0 tyA112 rfl rfl rfl rfl rfl (by first | rfl | exact kc_len _ | exact kcf_len _ | exact boC_len _ _ | (simp; done)) ?_
        refine l_call hW (g_rIsSubset _ _ _ hs) en75 rfl rfl rfl rfl ?_
        intro W hW
        refine l_split ?_ ?_
        · intro hc5
          have hrow : labs s (p2 s.d.toNat + u) x.1 ++ rowL s (p2 s.d.toNat + u) x.1 (q.1 + 1) = (labs s (p2 s.d.toNat + u) x.1 ++ rowL s (p2 s.d.toNat + u) x.1 q.1) ++ [(((pn s.d.toNat (p2 s.d.toNat + u) x.1 : Nat) : Int), ((sib (pn s.d.toNat (p2 s.d.toNat + u) q.1) : Nat) : Int))] := by rw [rowL, if_pos (by omega), labE, if_pos hc5, List.append_assoc]
          refine l_end ?_
          refine n_then ?_
          refine c_true rfl ?_
          refine c_reg ?_
          refine l_val (r_move (v := .slice _ _ _) rfl rfl) rfl rfl ?_
          refine l_loadA hW 0 tyA112 rfl rfl rfl rfl rfl (by first | rfl | exact kc_len _ | exact kcf_len _ | exact boC_len _ _ | (simp; done)) ?_
          refine l_buildSliceF hW (bsl40_1_0 _ _) rfl rfl rfl rfl ?_
          intro gb W hW
          refine l_appendB tyE40 (L := [_, _, _, _]) hO hW 0 (N := (labs s (p2 s.d.toNat + u) x.1 ++ rowL s (p2 s.d.toNat + u) x.1 (q.1 + 1)).length) (by rw [hrow]; simp only [List.length_append, List.length_cons, List.length_nil] <;> omega) rfl rfl rfl rfl rfl rfl rfl (by simp [Value.oneCell']) (by rw [hrow]; simp only [List.length_append, List.length_cons, List.length_nil]; unfold maxLen; omega) (by rw [hrow]; simp only [List.length_append, List.length_cons, List.length_nil]; omega) ?_
          intro a1 c1 Bs1 W hO1 hW
          replace hO1 := hO1.castx rfl (xs' := sl2 (labs s (p2 s.d.toNat + u) x.1 ++ rowL s (p2 s.d.toNat + u) x.1 (q.1 + 1))) (by rw [hrow, sl2_append (labs s (p2 s.d.toNat + u) x.1 ++ rowL s (p2 s.d.toNat + u) x.1 q.1) [_]]; rfl)
          refine l_val (r_assign (v := .slice _ _ _) rfl rfl) rfl rfl ?_
          refine l_end ?_
          refine n_block ?_
          refine n_then ?_
          refine c_reg ?_
          refine l_val (r_move (v := .int _ _) rfl rfl) rfl rfl ?_
          refine l_val (r_addN (n := 1) rfl rfl rfl (by omega)) rfl rfl ?_
          refine l_val (r_assign (v := .int _ _) rfl rfl) rfl rfl ?_
          refine l_end ?_
          refine n_then ?_
          exact loop_next (q.1 + 1, a1, c1, Bs1, (labs s (p2 s.d.toNat + u) x.1 ++ rowL s (p2 s.d.toNat + u) x.1 (q.1 + 1)).length) (by kernel_rfl) (hW.drop 2) ⟨by simp only; omega, by simp only; omega, rfl, hO1⟩ (by simp only; omega)
        · intro hc5
          have hrow : labs s (p2 s.d.toNat + u) x.1 ++ rowL s (p2 s.d.toNat + u) x.1 (q.1 + 1) = labs s (p2 s.d.toNat + u) x.1 ++ rowL s (p2 s.d.toNat + u) x.1 q.1 := by rw [rowL, if_pos (by omega), labE, if_neg (by rw [hc5]; decide), List.append_nil]
          refine l_end ?_
          refine n_then ?_
          refine c_false rfl ?_
          refine c_skip ?_
          refine n_block ?_
          refine n_then ?_
          refine c_reg ?_
          refine l_val (r_move (v := .int _ _) rfl rfl) rfl rfl ?_
          refine l_val (r_addN (n := 1) rfl rfl rfl (by omega)) rfl rfl ?_
          refine l_val (r_assign (v := .int _ _) rfl rfl) rfl rfl ?_
          refine l_end ?_
          refine n_then ?_
          exact loop_next (q.1 + 1, q.2.1, q.2.2.1, q.2.2.2.1, q.2.2.2.2) (by kernel_rfl) (hW.drop 1) ⟨by simp only; omega, by simp only; omega, by simp only [hrow]; exact hqn, by simp only [hrow]; exact hOq⟩ (by simp only; omega)
      · intro hc4
        replace hc4 := of_decide_eq_false hc4
        refine l_end ?_
        refine n_then ?_
        refine c_false rfl ?_
        refine c_exit ?_
        refine x_then ?_
        refine x_then ?_
        refine x_hit ?_
        refine n_block ?_
        refine n_then ?_
        refine c_reg ?_
        refine l_val (r_move (v := .int _ _) rfl rfl) rfl rfl ?_
        refine l_val (r_addN (n := 1) rfl rfl rfl (by omega)) rfl rfl ?_
        refine l_val (r_assign (v := .int _ _) rfl rfl) rfl rfl ?_
        refine l_end ?_
        refine n_then ?_
        have e : q.1 = s.d.toNat + 1 := by omega
        exact loop_next (x.1 + 1, q.2.1, q.2.2.1, q.2.2.2.1, q.2.2.2.2) (by kernel_rfl) hW ⟨by simp only; omega, by simp only [labs, ← e]; exact hqn, by simp only [labs, ← e]; exact hOq⟩ (by simp only; omega)
    · intro hc3
      replace hc3 := of_decide_eq_false hc3
      refine l_end ?_
      refine n_then ?_
      refine c_false rfl ?_
      refine c_exit ?_
      refine x_then ?_
      refine x_then ?_
      refine x_hit ?_
      refine n_then ?_
      refine c_seq ?_
      refine c_reg ?_
      refine l_val (r_move (v := .slice _ _ _) rfl rfl) rfl rfl ?_
      refine l_val (r_assign (v := .slice _ _ _) rfl rfl) rfl rfl ?_
      refine l_end ?_
      refine n_then ?_
      refine c_ret ?_
      refine ret_tmp (v := .slice _ _ _) rfl rfl ?_
      have e : x.1 = s.d.toNat + 1 := by omega
      rw [show labN s u = labs s (p2 s.d.toNat + u) x.1 by rw [labN, if_neg (by omega), e], ← hxn]
      exact ⟨_, _, rfl, ⟨_, _, rfl, hO⟩, hW.sub (List.sublist_append_right _ _)⟩

end Go.Proofs.Ytoegpalacppllaa

/- Lists of numbers. -/
namespace Go.Proofs.Ytoegpalacppllaa
open Go.RowKit Pl
open Tr Hn
set_option maxRecDepth 10000 in
/-- headend/headendref03.SameInts -/
theorem g_SameInts (aa : Option Addr) (an ac : Nat) (l : List Int) (ba : Option Addr) (bn bc : Nat) (m : List Int) (hl : l.length ≤ 4294967296) : GivesR Try.prog 26 [.slice aa an ac, .slice ba bn bc].toArray (fun w => RdI w ⟨aa, an, ac⟩ l ∧ RdI w ⟨ba, bn, bc⟩ m) (.bool (decide (l = m))) := by
  refine givesR_of Try.func26 rfl (bs := [.slice aa an ac, .slice ba bn bc, undef, undef, undef, undef, undef, undef, undef, undef, undef, undef, undef, undef, undef, undef, undef, undef, undef, undef, undef, undef, undef, undef, undef, undef]) rfl ?_
  intro w hP hW
  have hn : an = l.length := hP.1.len
  have hm : bn = m.length := hP.2.len
  refine c_seq ?_
  refine c_reg ?_
  refine l_val (r_assign (v := .bool _) rfl rfl) rfl rfl ?_
  refine l_end ?_
  refine n_then ?_
  refine c_seq ?_
  refine c_seq ?_
  refine c_reg ?_
  refine l_val (r_move (v := .slice _ _ _) rfl rfl) rfl rfl ?_
  refine l_val (r_lenSlice Try.underlying35 rfl rfl) rfl rfl ?_
  refine l_val (r_move (v := .slice _ _ _) rfl rfl) rfl rfl ?_
  refine l_val (r_lenSlice Try.underlying35 rfl rfl) rfl rfl ?_
  refine l_val (r_neqN rfl rfl rfl rfl) rfl rfl ?_
  refine l_split ?_ ?_
  · intro hc1
    replace hc1 := of_decide_eq_true hc1
    refine l_end ?_
    refine n_then ?_
    refine c_true rfl ?_
    refine c_seq ?_
    refine c_reg ?_
    refine l_val (r_assign (v := .bool _) rfl rfl) rfl rfl ?_
    refine l_end ?_
    refine n_then ?_
    refine c_ret ?_
    refine r_then ?_
    refine ret_tmp (v := .bool (decide (l = m))) rfl ?_ ⟨rfl, hW.below⟩
    rw [same_len (by omega)]; rfl
  · intro hc1
    replace hc1 := of_decide_eq_false hc1
    refine l_end ?_
    refine n_then ?_
    refine c_false rfl ?_
    refine c_skip ?_
    refine n_then ?_
    refine c_seq ?_
    refine c_seq ?_
    refine c_reg ?_
    refine l_val (r_assign (v := .int _ _) rfl rfl) rfl rfl ?_
    refine l_end ?_
    refine n_then ?_
    refine c_block ?_
    refine c_loop (fun (i : Nat) (j : Nat → Value) => [.slice aa an ac, .slice ba bn bc, j 2, j 3, j 4, .int .i64 (i : Int), .slice aa an ac, j 7, .slice ba bn bc, j 9, .bool false, j 11, j 12, j 13, j 14, j 15, j 16, j 17, j 18, j 19, j 20, j 21, j 22, j 23, j 24, j 25]) (fun (i : Nat) => []) (fun (i : Nat) => i ≤ an ∧ ∀ k, k < i → at_ l k = at_ m k) (fun (i : Nat) => an - i) 0 (by kernel_rfl) hW ⟨by omega, all_zero⟩ ?_
    intro i j W hx hW
    refine c_seq ?_
    refine c_seq ?_
    refine c_reg ?_
    refine l_val (r_move (v := .int _ _) rfl rfl) rfl rfl ?_
    refine l_val (r_move (v := .slice _ _ _) rfl rfl) rfl rfl ?_
    refine l_val (r_lenSlice Try.underlying35 rfl rfl) rfl rfl ?_
    refine l_val (r_lssN rfl rfl rfl rfl) rfl rfl ?_
    refine l_split ?_ ?_
    · intro hc2
      replace hc2 := of_decide_eq_true hc2
      obtain ⟨b0, o0, ha, hc⟩ := hP.1.ptr (by omega)
      simp only at ha
      subst ha
      obtain ⟨b1, o1, ha, hd⟩ := hP.2.ptr (by omega)
      simp only at ha
      subst ha
      refine l_end ?_
      refine n_then ?_
      refine c_true rfl ?_
      refine c_skip ?_
      refine n_then ?_
      refine c_seq ?_
      refine c_block ?_
      refine c_seq ?_
      refine c_regY hW [] [.q, .q, .q, .q, .q, .q, .q, .q, .q] [0, 0, 3, 7, 0, 0, 48, 112, 255] (by kernel_rfl) (by kernel_rfl) ?_
      refine y_val (r_move (v := .slice _ _ _) rfl rfl) rfl rfl ?_
      refine y_val (r_move (v := .int _ _) rfl rfl) rfl rfl ?_
      refine y_val (r_indexAddrSl2 (n := i) Try.underlying35 tyC3.size rfl rfl rfl (by omega)) rfl rfl ?_
      refine y_loadF tyC3 (v := .int .i64 (at_ l (i))) (hc (i) (by omega)) (by kernel_rfl) rfl rfl rfl ?_
      refine y_val (r_move (v := .slice _ _ _) rfl rfl) rfl rfl ?_
      refine y_val (r_move (v := .int _ _) rfl rfl) rfl rfl ?_
      refine y_val (r_indexAddrSl2 (n := i) Try.underlying35 tyC3.size rfl rfl rfl (by omega)) rfl rfl ?_
      refine y_loadF tyC3 (v := .int .i64 (at_ m (i))) (hd (i) (by omega)) (by kernel_rfl) rfl rfl rfl ?_
      refine y_val (r_neq rfl rfl rfl rfl) rfl rfl ?_
      refine y_split ?_ ?_
      · intro hc3
        replace hc3 := of_decide_eq_true hc3
        refine y_end ?_
        intro W hW
        refine n_then ?_
        refine c_true rfl ?_
        refine c_seq ?_
        refine c_reg ?_
        refine l_val (r_assign (v := .bool _) rfl rfl) rfl rfl ?_
        refine l_end ?_
        refine n_then ?_
        refine c_ret ?_
        refine r_block ?_
        refine r_then ?_
        refine r_then ?_
        refine r_block ?_
        refine r_then ?_
        refine ret_tmp (v := .bool (decide (l = m))) rfl ?_ ⟨rfl, hW.below⟩
        rw [same_no (i := i) (by omega)]; rfl
      · intro hc3
        replace hc3 := of_decide_eq_false hc3
        refine y_end ?_
        intro W hW
        refine n_then ?_
        refine c_false rfl ?_
        refine c_skip ?_
        refine n_block ?_
        refine n_then ?_
        refine c_reg ?_
        refine l_val (r_move (v := .int _ _) rfl rfl) rfl rfl ?_
        refine l_val (r_addN (n := 1) rfl rfl rfl (by omega)) rfl rfl ?_
        refine l_val (r_assign (v := .int _ _) rfl rfl) rfl rfl ?_
        refine l_end ?_
        refine n_then ?_
        exact loop_next (i + 1) (by kernel_rfl) hW ⟨by omega, all_step hx.2 (by omega)⟩ (by omega)
    · intro hc2
      replace hc2 := of_decide_eq_false hc2
      refine l_end ?_
      refine n_then ?_
      refine c_false rfl ?_
      refine c_exit ?_
      refine x_then ?_
      refine x_then ?_
      refine x_hit ?_
      refine n_then ?_
      refine c_seq ?_
      refine c_reg ?_
      refine l_val (r_assign (v := .bool _) rfl rfl) rfl rfl ?_
      refine l_end ?_
      refine n_then ?_
      refine c_ret ?_
      refine ret_tmp (v := .bool (decide (l = m))) rfl ?_ ⟨rfl, hW.below⟩
      rw [same_yes (by omega) fun k hk => hx.2 k (by omega)]; rfl

end Go.Proofs.Ytoegpalacppllaa

/- What is known, by the reference. -/
namespace Go.Proofs.Ytoegpalacppllaa
open Go.RowKit Pl
open Tr Hn
set_option maxRecDepth 10000 in
/-- headend/headendref03.Known -/
theorem g_rKnownN (s : Sc) (u : Nat) (v x : Int) (hs : schB s = true) (hu : u < p2 s.d.toNat) (hx : subB s v x = true) : Gives Try.prog 111 [.agg [.int .u8 s.k, .int .i64 s.d, .int .i64 s.g, .int .u64 s.p, .int .u64 s.q, .int .u64 s.r].toArray, .int .i64 (u : Int), .agg [.int .i64 v, .int .i64 x].toArray].toArray (.int .i64 (knownI s (labN s u) v x)) := by
  refine gives_of Try.func111 rfl (bs := [.agg [.int .u8 s.k, .int .i64 s.d, .int .i64 s.g, .int .u64 s.p, .int .u64 s.q, .int .u64 s.r].toArray, .int .i64 (u : Int), .agg [.int .i64 v, .int .i64 x].toArray, undef, undef, undef, undef, undef, undef, undef, undef, undef, undef, undef, undef, undef, undef, undef, undef, undef, undef, undef, undef, undef, undef, undef, undef, undef, undef, undef, undef, undef]) rfl ?_
  intro w hW
  have hll := lab_len (u := u) hs
  have hlp := lab_pos s u
  refine c_seq ?_
  refine c_reg ?_
  refine l_box hW rfl rfl rfl rfl ?_
  intro g1 W hW
  refine l_box hW rfl rfl rfl rfl ?_
  intro g2 W hW
  refine l_val (r_assign (v := .int _ _) rfl rfl) rfl rfl ?_
  refine l_end ?_
  refine n_then ?_
  refine c_seq ?_
  refine c_reg ?_
  refine l_loadA hW 1 tyA26 rfl rfl rfl rfl rfl (by first | rfl | exact kc_len _ | exact kcf_len _ | exact boC_len _ _ | (simp; done)) ?_
  refine l_val (r_move (v := .int _ _) rfl rfl) rfl rfl ?_
  refine l_callX hW (g_rLabelsOf s u hs hu) en131 trivial rfl rfl rfl rfl ?_
  rintro _ _ W ⟨aq, cq, rfl, hO⟩ hW
  obtain ⟨gq, cur, rfl, rfl, -, -, htk⟩ := hO.row (by omega)
  have hq0 : ∀ i, i < (labN s u).length → cur[0 + i * 2 + 0]? = some (.int .i64 (qn (labN s u) i)) := fun i hi => take_get htk (by rw [show 0 + i * 2 + 0 = 2 * i by omega]; exact sl2_get0 _ i hi)
  have hq1 : ∀ i, i < (labN s u).length → cur[0 + i * 2 + 1]? = some (.int .i64 (qm (labN s u) i)) := fun i hi => take_get htk (by rw [show 0 + i * 2 + 1 = 2 * i + 1 by omega]; exact sl2_get1 _ i hi)
  refine l_val (r_assign (v := .slice _ _ _) rfl rfl) rfl rfl ?_
  refine l_end ?_
  refine n_then ?_
  refine c_seq ?_
  refine c_seq ?_
  refine c_reg ?_
  refine l_val (r_assign (v := .int _ _) rfl rfl) rfl rfl ?_
  refine l_end ?_
  refine n_then ?_
  refine c_block ?_
  refine c_loop (fun (i : Nat) (j : Nat → Value) => [.agg [.int .u8 s.k, .int .i64 s.d, .int .i64 s.g, .int .u64 s.p, .int .u64 s.q, .int .u64 s.r].toArray, .int .i64 (u : Int), .agg [.int .i64 v, .int .i64 x].toArray, .pointer (some ⟨g1, 0, none⟩), j 4, .pointer (some ⟨g2, 0, none⟩), j 6, .slice (some ⟨gq, 0, none⟩) (labN s u).length cq, .int .i64 (i : Int), .agg ([.int .u8 s.k, .int .i64 s.d, .int .i64 s.g, .int .u64 s.p, .int .u64 s.q, .int .u64 s.r]).toArray, .int .i64 (u : Int), .slice (some ⟨gq, 0, none⟩) (labN s u).length cq, j 12, j 13, j 14, j 15, j 16, j 17, j 18, j 19, j 20, j 21, j 22, j 23, j 24, j 25, j 26, j 27, j 28, j 29, j 30, j 31]) (fun (i : Nat) => [⟨g2, [.int .i64 v, .int .i64 x], 112⟩, ⟨g1, [.int .u8 s.k, .int .i64 s.d, .int .i64 s.g, .int .u64 s.p, .int .u64 s.q, .int .u64 s.r], 26⟩, ⟨gq, cur, 112⟩]) (fun (i : Nat) => i ≤ (labN s u).length ∧ ∀ k, k < i → leadB s (qn (labN s u) k) (qm (labN s u) k) v x = false) (fun (i : Nat) => (labN s u).length - i) 0 (by kernel_rfl) hW ⟨by omega, all_zero⟩ ?_
  intro i j W hx hW
  obtain ⟨hi0, hib⟩ := hx
  refine c_seq ?_
  refine c_seq ?_
  refine c_reg ?_
  refine l_val (r_move (v := .int _ _) rfl rfl) rfl rfl ?_
  refine l_val (r_move (v := .slice _ _ _) rfl rfl) rfl rfl ?_
  refine l_val (r_lenSlice Try.underlying40 rfl rfl) rfl rfl ?_
  refine l_val (r_lssN rfl rfl rfl rfl) rfl rfl ?_
  refine l_split ?_ ?_
  · intro hc1
    replace hc1 := of_decide_eq_true hc1
    refine l_end ?_
    refine n_then ?_
    refine c_true rfl ?_
    refine c_skip ?_
    refine n_then ?_
    refine c_seq ?_
    refine c_block ?_
    refine c_seq ?_
    refine c_regY hW [] [.q, .q, .q, .q, .q, .q, .q, .q, .q, .q, .q, .q, .q] [0, 0, 0, 6, 14, 30, 0, 0, 192, 448, 960, 0, 4095] (by kernel_rfl) (by kernel_rfl) ?_
    refine y_loadA 1 tyA26 rfl rfl rfl rfl rfl (by first | rfl | exact kc_len _ | exact kcf_len _ | exact boC_len _ _ | (simp; done)) (by decide) ?_
    refine y_val (r_move (v := .slice _ _ _) rfl rfl) rfl rfl ?_
    refine y_val (r_move (v := .int _ _) rfl rfl) rfl rfl ?_
    refine y_val (r_indexAddrSlB (n := i) Try.underlying40 tyA112.size rfl rfl rfl (by omega)) rfl rfl ?_
    refine y_val (r_fieldAddr _ Try.underlying112 rfl tyC3.size rfl rfl rfl) rfl rfl ?_
    refine y_loadC 2 tyC3 (v := .int .i64 (qn (labN s u) i)) (by kernel_rfl) rfl rfl rfl rfl (hq0 i (by omega)) (by decide) ?_
    refine y_val (r_move (v := .slice _ _ _) rfl rfl) rfl rfl ?_
    refine y_val (r_move (v := .int _ _) rfl rfl) rfl rfl ?_
    refine y_val (r_indexAddrSlB (n := i) Try.underlying40 tyA112.size rfl rfl rfl (by omega)) rfl rfl ?_
    refine y_val (r_fieldAddr _ Try.underlying112 rfl tyC3.size rfl rfl rfl) rfl rfl ?_
    refine y_loadC 2 tyC3 (v := .int .i64 (qm (labN s u) i)) (by kernel_rfl) rfl rfl rfl rfl (hq1 i (by omega)) (by decide) ?_
    refine y_loadA 0 tyA112 rfl rfl rfl rfl rfl (by first | rfl | exact kc_len _ | exact kcf_len _ | exact boC_len _ _ | (simp; done)) (by decide) ?_
    refine y_call (g_rleads s (qn (labN s u) i) (qm (labN s u) i) v x hs hx (lab_lt hs hu i (by omega))) en132 rfl rfl rfl rfl ?_
    refine y_split ?_ ?_
    · intro hc2
      refine y_end ?_
      intro W hW
      refine n_then ?_
      refine c_true rfl ?_
      refine c_seq ?_
      refine c_reg ?_
      refine l_val (r_move (v := .int _ _) rfl rfl) rfl rfl ?_
      refine l_val (r_assign (v := .int _ _) rfl rfl) rfl rfl ?_
      refine l_end ?_
      refine n_then ?_
      refine c_ret ?_
      refine r_block ?_
      refine r_then ?_
      refine r_then ?_
      refine r_block ?_
      refine r_then ?_
      refine ret_tmp (v := .int .i64 (knownI s (labN s u) v x)) rfl ?_ ⟨rfl, hW.below⟩
      exact congrArg (Value.int .i64) (known_yes (by omega) hc2 hib).symm
    · intro hc2
      refine y_end ?_
      intro W hW
      refine n_then ?_
      refine c_false rfl ?_
      refine c_skip ?_
      refine n_block ?_
      refine n_then ?_
      refine c_reg ?_
      refine l_val (r_move (v := .int _ _) rfl rfl) rfl rfl ?_
      refine l_val (r_addN (n := 1) rfl rfl rfl (by omega)) rfl rfl ?_
      refine l_val (r_assign (v := .int _ _) rfl rfl) rfl rfl ?_
      refine l_end ?_
      refine n_then ?_
      exact loop_next (i + 1) (by kernel_rfl) hW ⟨by omega, all_upto hib hc2⟩ (by omega)
  · intro hc1
    replace hc1 := of_decide_eq_false hc1
    refine l_end ?_
    refine n_then ?_
    refine c_false rfl ?_
    refine c_exit ?_
    refine x_then ?_
    refine x_then ?_
    refine x_hit ?_
    refine n_then ?_
    refine c_seq ?_
    refine c_reg ?_
    refine l_val (r_assign (v := .int _ _) rfl rfl) rfl rfl ?_
    refine l_end ?_
    refine n_then ?_
    refine c_ret ?_
    refine ret_tmp (v := .int .i64 (knownI s (labN s u) v x)) rfl ?_ ⟨rfl, hW.below⟩
    exact congrArg (Value.int .i64) (known_no fun k hk => hib k (by omega)).symm

/-- Known, of whole numbers -/
theorem g_rKnown (s : Sc) (u v x : Int) (hs : schB s = true) (h0 : 0 ≤ u) (hu : u < ((p2 s.d.toNat : Nat) : Int)) (hx : subB s v x = true) : Gives Try.prog 111 [.agg [.int .u8 s.k, .int .i64 s.d, .int .i64 s.g, .int .u64 s.p, .int .u64 s.q, .int .u64 s.r].toArray, .int .i64 u, .agg [.int .i64 v, .int .i64 x].toArray].toArray (.int .i64 (knownI s (labN s u.toNat) v x)) := by
  obtain ⟨u', rfl⟩ : ∃ n : Nat, u = n := ⟨u.toNat, by omega⟩
  exact g_rKnownN s u' v x hs (by omega) hx
set_option maxRecDepth 10000 in
/-- headend/headendref03.Knows -/
theorem g_rKnows (s : Sc) (aa : Option Addr) (an ac : Nat) (l : List Int) (v x : Int) (hs : schB s = true) (hu : usersB l ((p2 s.d.toNat : Nat) : Int) = true) (hx : subB s v x = true) (hll : l.length ≤ 100) : GivesR Try.prog 77 [.agg [.int .u8 s.k, .int .i64 s.d, .int .i64 s.g, .int .u64 s.p, .int .u64 s.q, .int .u64 s.r].toArray, .slice aa an ac, .agg [.int .i64 v, .int .i64 x].toArray].toArray (fun w => RdI w ⟨aa, an, ac⟩ l) (.tuple #[.bool (opnB s l v x), .int .i64 0]) := by
  refine givesR_of Try.func77 rfl (bs := [.agg [.int .u8 s.k, .int .i64 s.d, .int .i64 s.g, .int .u64 s.p, .int .u64 s.q, .int .u64 s.r].toArray, .slice aa an ac, .agg [.int .i64 v, .int .i64 x].toArray, undef, undef, undef, undef, undef, undef, undef, undef, undef, undef, undef, undef, undef, undef, undef, undef, undef, undef, undef, undef, undef, undef, undef, undef, undef, undef, undef, undef, undef, undef, undef, undef]) rfl ?_
  intro w hP hW
  obtain ⟨k1, k3, d0, d6, -⟩ := schB_iff.1 hs
  have hn : an = l.length := hP.len
  have hx0 := hx
  refine c_seq ?_
  refine c_reg ?_
  refine l_box hW rfl rfl rfl rfl ?_
  intro g1 W hW
  refine l_box hW rfl rfl rfl rfl ?_
  intro g2 W hW
  refine l_val (r_assign (v := .bool _) rfl rfl) rfl rfl ?_
  refine l_val (r_assign (v := .int _ _) rfl rfl) rfl rfl ?_
  refine l_end ?_
  refine n_then ?_
  refine c_seq ?_
  refine c_seq ?_
  refine c_reg ?_
  refine l_loadA hW 1 tyA26 rfl rfl rfl rfl rfl (by first | rfl | exact kc_len _ | exact kcf_len _ | exact boC_len _ _ | (simp; done)) ?_
  refine l_call hW (g_rValid s) en68 rfl rfl rfl rfl ?_
  intro W hW
  rw [hs]
  refine l_val (r_not rfl rfl) rfl rfl ?_
  refine l_end ?_
  refine n_then ?_
  refine c_false rfl ?_
  refine c_skip ?_
  refine n_then ?_
  refine c_seq ?_
  refine c_seq ?_
  refine c_reg ?_
  refine l_val (r_fieldAddr 1 Try.underlying26 rfl tyC3.size rfl rfl rfl) rfl rfl ?_
  refine l_loadC hW 1 tyC3 rfl rfl rfl rfl rfl rfl ?_
  refine l_val (r_move (v := .slice _ _ _) rfl rfl) rfl rfl ?_
  refine l_callR hW (g_rIsList s.d d0 d6 aa an ac l (by omega)) en45 (hP.past hW.below) rfl rfl rfl rfl ?_
  intro W hW
  rw [hu]
  refine l_val (r_not rfl rfl) rfl rfl ?_
  refine l_end ?_
  refine n_then ?_
  refine c_false rfl ?_
  refine c_skip ?_
  refine n_then ?_
  refine c_seq ?_
  refine c_seq ?_
  refine c_reg ?_
  refine l_loadA hW 1 tyA26 rfl rfl rfl rfl rfl (by first | rfl | exact kc_len _ | exact kcf_len _ | exact boC_len _ _ | (simp; done)) ?_
  refine l_loadA hW 0 tyA112 rfl rfl rfl rfl rfl (by first | rfl | exact kc_len _ | exact kcf_len _ | exact boC_len _ _ | (simp; done)) ?_
  refine l_call hW (g_rIsSubset s v x hs) en75 rfl rfl rfl rfl ?_
  intro W hW
  rw [hx]
  refine l_val (r_not rfl rfl) rfl rfl ?_
  refine l_end ?_
  refine n_then ?_
  refine c_false rfl ?_
  refine c_skip ?_
  refine n_then ?_
  refine c_seq ?_
  refine c_seq ?_
  refine c_reg ?_
  refine l_val (r_assign (v := .int _ _) rfl rfl) rfl rfl ?_
  refine l_end ?_
  refine n_then ?_
  refine c_block ?_
  refine c_loop (fun (i : Nat) (j : Nat → Value) => [.agg [.int .u8 s.k, .int .i64 s.d, .int .i64 s.g, .int .u64 s.p, .int .u64 s.q, .int .u64 s.r].toArray, .slice aa an ac, .agg [.int .i64 v, .int .i64 x].toArray, .pointer (some ⟨g1, 0, none⟩), j 4, .pointer (some ⟨g2, 0, none⟩), j 6, j 7, .int .i64 (i : Int), .agg ([.int .u8 s.k, .int .i64 s.d, .int .i64 s.g, .int .u64 s.p, .int .u64 s.q, .int .u64 s.r]).toArray, .bool true, .bool false, .pointer (some ⟨g1, 1, none⟩), .int .i64 s.d, .slice aa an ac, .bool true, .bool false, .agg ([.int .u8 s.k, .int .i64 s.d, .int .i64 s.g, .int .u64 s.p, .int .u64 s.q, .int .u64 s.r]).toArray, .agg ([.int .i64 v, .int .i64 x]).toArray, .bool true, .bool false, j 21, j 22, j 23, j 24, j 25, j 26, j 27, j 28, j 29, j 30, j 31, j 32, j 33, j 34]) (fun (i : Nat) => [⟨g2, [.int .i64 v, .int .i64 x], 112⟩, ⟨g1, [.int .u8 s.k, .int .i64 s.d, .int .i64 s.g, .int .u64 s.p, .int .u64 s.q, .int .u64 s.r], 26⟩]) (fun (i : Nat) => i ≤ an ∧ ∀ k, k < i → memB s v x (at_ l k).toNat = false) (fun (i : Nat) => an - i) 0 (by kernel_rfl) hW ⟨by omega, all_zero⟩ ?_
  intro i j W hx hW
  obtain ⟨hi0, hib⟩ := hx
  refine c_seq ?_
  refine c_seq ?_
  refine c_reg ?_
  refine l_val (r_move (v := .int _ _) rfl rfl) rfl rfl ?_
  refine l_val (r_move (v := .slice _ _ _) rfl rfl) rfl rfl ?_
  refine l_val (r_lenSlice Try.underlying35 rfl rfl) rfl rfl ?_
  refine l_val (r_lssN rfl rfl rfl rfl) rfl rfl ?_
  refine l_split ?_ ?_
  · intro hc1
    replace hc1 := of_decide_eq_true hc1
    obtain ⟨b0, o0, ha, hc⟩ := hP.ptr (by omega)
    simp only at ha
    subst ha
    refine l_end ?_
    refine n_then ?_
    refine c_true rfl ?_
    refine c_skip ?_
    refine n_then ?_
    refine c_seq ?_
    refine c_block ?_
    refine c_seq ?_
    refine c_regY hW [] [.q, .q, .q, .q, .q, .q, .q, .q] [0, 0, 0, 6, 14, 0, 63, 127] (by kernel_rfl) (by kernel_rfl) ?_
    refine y_loadA 1 tyA26 rfl rfl rfl rfl rfl (by first | rfl | exact kc_len _ | exact kcf_len _ | exact boC_len _ _ | (simp; done)) (by decide) ?_
    refine y_val (r_move (v := .slice _ _ _) rfl rfl) rfl rfl ?_
    refine y_val (r_move (v := .int _ _) rfl rfl) rfl rfl ?_
    refine y_val (r_indexAddrSl2 (n := i) Try.underlying35 tyC3.size rfl rfl rfl (by omega)) rfl rfl ?_
    refine y_loadF tyC3 (v := .int .i64 (at_ l (i))) (hc (i) (by omega)) (by kernel_rfl) rfl rfl rfl ?_
    refine y_loadA 0 tyA112 rfl rfl rfl rfl rfl (by first | rfl | exact kc_len _ | exact kcf_len _ | exact boC_len _ _ | (simp; done)) (by decide) ?_
    refine y_call (g_rKnown _ _ _ _ hs (users_at hu (by omega)).1 (users_at hu (by omega)).2 hx) en111 rfl rfl rfl rfl ?_
    refine y_val (r_geq rfl rfl rfl rfl) rfl rfl ?_
    refine y_split ?_ ?_
    · intro hc2
      replace hc2 := of_decide_eq_true hc2
      refine y_end ?_
      intro W hW
      refine n_then ?_
      refine c_true rfl ?_
      refine c_seq ?_
      refine c_reg ?_
      refine l_val (r_assign (v := .bool _) rfl rfl) rfl rfl ?_
      refine l_val (r_assign (v := .int _ _) rfl rfl) rfl rfl ?_
      refine l_end ?_
      refine n_then ?_
      refine c_ret ?_
      refine r_block ?_
      refine r_then ?_
      refine r_then ?_
      refine r_block ?_
      refine r_then ?_
      refine ret_tmp2 rfl rfl rfl ?_
      exact ⟨by rw [opn_yes (i := i) (by omega) ((known_mem hs hx0 (by have := users_at hu (show i < l.length by omega); omega)).1 hc2)]; rfl, hW.below⟩
    · intro hc2
      replace hc2 := of_decide_eq_false hc2
      refine y_end ?_
      intro W hW
      refine n_then ?_
      refine c_false rfl ?_
      refine c_skip ?_
      refine n_block ?_
      refine n_then ?_
      refine c_reg ?_
      refine l_val (r_move (v := .int _ _) rfl rfl) rfl rfl ?_
      refine l_val (r_addN (n := 1) rfl rfl rfl (by omega)) rfl rfl ?_
      refine l_val (r_assign (v := .int _ _) rfl rfl) rfl rfl ?_
      refine l_end ?_
      refine n_then ?_
      exact loop_next (i + 1) (by kernel_rfl) hW ⟨by omega, all_upto hib (by rw [← Bool.not_eq_true]; exact fun e => hc2 ((known_mem hs hx0 (by have := users_at hu (show i < l.length by omega); omega)).2 e))⟩ (by omega)
  · intro hc1
    replace hc1 := of_decide_eq_false hc1
    refine l_end ?_
    refine n_then ?_
    refine c_false rfl ?_
    refine c_exit ?_
    refine x_then ?_
    refine x_then ?_
    refine x_hit ?_
    refine n_then ?_
    refine c_seq ?_
    refine c_reg ?_
    refine l_val (r_assign (v := .bool _) rfl rfl) rfl rfl ?_
    refine l_val (r_assign (v := .int _ _) rfl rfl) rfl rfl ?_
    refine l_end ?_
    refine n_then ?_
    refine c_ret ?_
    refine ret_tmp2 rfl rfl rfl ?_
    exact ⟨by rw [opn_no fun k hk => hib k (by omega)]; rfl, hW.below⟩

end Go.Proofs.Ytoegpalacppllaa

/- Lists of subsets, by the reference. -/
namespace Go.Proofs.Ytoegpalacppllaa
open Go.RowKit Pl
open Tr Hn
set_option maxRecDepth 10000 in
/-- headend/headendref08.subsets -/
theorem g_rsubsets (s : Sc) (ba : Option Addr) (bn bc : Nat) (l : List (Int × Int)) (hs : schB s = true) (hl : l.length ≤ 100) : GivesR Try.prog 42 [.agg [.int .u8 s.k, .int .i64 s.d, .int .i64 s.g, .int .u64 s.p, .int .u64 s.q, .int .u64 s.r].toArray, .slice ba bn bc].toArray (fun w => RdB w ⟨ba, bn, bc⟩ l) (.int .i64 (subsE s l)) := by
  refine givesR_of Try.func42 rfl (bs := [.agg [.int .u8 s.k, .int .i64 s.d, .int .i64 s.g, .int .u64 s.p, .int .u64 s.q, .int .u64 s.r].toArray, .slice ba bn bc, undef, undef, undef, undef, undef, undef, undef, undef, undef, undef, undef, undef, undef, undef, undef, undef, undef, undef, undef, undef]) rfl ?_
  intro w hP hW
  have hn : bn = l.length := hP.len
  refine c_seq ?_
  refine c_reg ?_
  refine l_box hW rfl rfl rfl rfl ?_
  intro g1 W hW
  refine l_val (r_assign (v := .int _ _) rfl rfl) rfl rfl ?_
  refine l_end ?_
  refine n_then ?_
  refine c_seq ?_
  refine c_seq ?_
  refine c_reg ?_
  refine l_val (r_move (v := .slice _ _ _) rfl rfl) rfl rfl ?_
  refine l_val (r_lenSlice Try.underlying40 rfl rfl) rfl rfl ?_
  refine l_val (r_gtrN (n := 64) rfl rfl rfl rfl) rfl rfl ?_
  refine l_split ?_ ?_
  · intro hc1
    replace hc1 := of_decide_eq_true hc1
    refine l_end ?_
    refine n_then ?_
    refine c_true rfl ?_
    refine c_seq ?_
    refine c_reg ?_
    refine l_val (r_assign (v := .int _ _) rfl rfl) rfl rfl ?_
    refine l_end ?_
    refine n_then ?_
    refine c_ret ?_
    refine r_then ?_
    refine ret_tmp (v := .int .i64 (subsE s l)) rfl ?_ ⟨rfl, hW.below⟩
    rw [subsE_many (by omega)]; rfl
  · intro hc1
    replace hc1 := of_decide_eq_false hc1
    refine l_end ?_
    refine n_then ?_
    refine c_false rfl ?_
    refine c_skip ?_
    refine n_then ?_
    refine c_seq ?_
    refine c_seq ?_
    refine c_reg ?_
    refine l_val (r_assign (v := .int _ _) rfl rfl) rfl rfl ?_
    refine l_end ?_
    refine n_then ?_
    refine c_block ?_
    refine c_loop (fun (i : Nat) (j : Nat → Value) => [.agg [.int .u8 s.k, .int .i64 s.d, .int .i64 s.g, .int .u64 s.p, .int .u64 s.q, .int .u64 s.r].toArray, .slice ba bn bc, .pointer (some ⟨g1, 0, none⟩), j 3, j 4, .int .i64 (i : Int), .slice ba bn bc, j 7, .bool false, j 9, j 10, j 11, j 12, j 13, j 14, j 15, j 16, j 17, j 18, j 19, j 20, j 21]) (fun (i : Nat) => [⟨g1, [.int .u8 s.k, .int .i64 s.d, .int .i64 s.g, .int .u64 s.p, .int .u64 s.q, .int .u64 s.r], 26⟩]) (fun (i : Nat) => i ≤ bn ∧ ∀ k, k < i → subB s (qn l k) (qm l k) = true) (fun (i : Nat) => bn - i) 0 (by kernel_rfl) hW ⟨by omega, all_zero⟩ ?_
    intro i j W hx hW
    refine c_seq ?_
    refine c_seq ?_
    refine c_reg ?_
    refine l_val (r_move (v := .int _ _) rfl rfl) rfl rfl ?_
    refine l_val (r_move (v := .slice _ _ _) rfl rfl) rfl rfl ?_
    refine l_val (r_lenSlice Try.underlying40 rfl rfl) rfl rfl ?_
    refine l_val (r_lssN rfl rfl rfl rfl) rfl rfl ?_
    refine l_split ?_ ?_
    · intro hc2
      replace hc2 := of_decide_eq_true hc2
      obtain ⟨b0, o0, ha, hc⟩ := hP.ptr (by omega)
      simp only at ha
      subst ha
      refine l_end ?_
      refine n_then ?_
      refine c_true rfl ?_
      refine c_skip ?_
      refine n_then ?_
      refine c_seq ?_
      refine c_block ?_
      refine c_seq ?_
      refine c_regY hW [] [.q, .q, .q, .q, .q, .q, .q] [0, 0, 0, 6, 14, 31, 63] (by kernel_rfl) (by kernel_rfl) ?_
      refine y_loadA 0 tyA26 rfl rfl rfl rfl rfl (by first | rfl | exact kc_len _ | exact kcf_len _ | exact boC_len _ _ | (simp; done)) (by decide) ?_
      refine y_val (r_move (v := .slice _ _ _) rfl rfl) rfl rfl ?_
      refine y_val (r_move (v := .int _ _) rfl rfl) rfl rfl ?_
      refine y_val (r_indexAddrSlB (n := i) Try.underlying40 tyA112.size rfl rfl rfl (by omega)) rfl rfl ?_
      refine y_loadF2 tyA112 (hc i (by omega)).1 (hc i (by omega)).2 (by kernel_rfl) rfl rfl rfl ?_
      refine y_call (g_rIsSubset _ _ _ hs) en75 rfl rfl rfl rfl ?_
      refine y_split ?_ ?_
      · intro hc3
        refine y_val (r_not rfl rfl) rfl rfl ?_
        refine y_end ?_
        intro W hW
        refine n_then ?_
        refine c_false rfl ?_
        refine c_skip ?_
        refine n_block ?_
        refine n_then ?_
        refine c_reg ?_
        refine l_val (r_move (v := .int _ _) rfl rfl) rfl rfl ?_
        refine l_val (r_addN (n := 1) rfl rfl rfl (by omega)) rfl rfl ?_
        refine l_val (r_assign (v := .int _ _) rfl rfl) rfl rfl ?_
        refine l_end ?_
        refine n_then ?_
        exact loop_next (i + 1) (by kernel_rfl) hW ⟨by omega, all_upto hx.2 (by simpa using hc3)⟩ (by omega)
      · intro hc3
        refine y_val (r_not rfl rfl) rfl rfl ?_
        refine y_end ?_
        intro W hW
        refine n_then ?_
        refine c_true rfl ?_
        refine c_seq ?_
        refine c_reg ?_
        refine l_val (r_assign (v := .int _ _) rfl rfl) rfl rfl ?_
        refine l_end ?_
        refine n_then ?_
        refine c_ret ?_
        refine r_block ?_
        refine r_then ?_
        refine r_then ?_
        refine r_block ?_
        refine r_then ?_
        refine ret_tmp (v := .int .i64 (subsE s l)) rfl ?_ ⟨rfl, hW.below⟩
        rw [subsE_no (i := i) (by omega) (by omega) hc3]; rfl
    · intro hc2
      replace hc2 := of_decide_eq_false hc2
      refine l_end ?_
      refine n_then ?_
      refine c_false rfl ?_
      refine c_exit ?_
      refine x_then ?_
      refine x_then ?_
      refine x_hit ?_
      refine n_then ?_
      refine c_seq ?_
      refine c_reg ?_
      refine l_val (r_assign (v := .int _ _) rfl rfl) rfl rfl ?_
      refine l_end ?_
      refine n_then ?_
      refine c_ret ?_
      refine ret_tmp (v := .int .i64 (subsE s l)) rfl ?_ ⟨rfl, hW.below⟩
      rw [subsE_yes (by omega) fun k hk => hx.2 k (by omega)]; rfl

end Go.Proofs.Ytoegpalacppllaa

/- Whether a box is valid. -/
namespace Go.Proofs.Ytoegpalacppllaa
open Go.RowKit Pl
open Tr Hn
set_option maxRecDepth 10000 in
/-- headend/headendref08.CheckBox -/
theorem g_rCheckBox (b : Bo) (t : Sl) (hl : b.l.length ≤ 100) : GivesR Try.prog 16 [.agg (boC b t).toArray].toArray (fun w => RdI w t b.l) (.int .i64 (chkB b)) := by
  refine givesR_of Try.func16 rfl (bs := [.agg (boC b t).toArray, undef, undef, undef, undef, undef, undef, undef, undef, undef, undef, undef, undef, undef, undef, undef, undef, undef, undef, undef, undef, undef, undef, undef, undef, undef, undef, undef, undef, undef, undef, undef, undef, undef, undef, undef, undef, undef, undef, undef, undef, undef, undef, undef, undef, undef, undef, undef, undef, undef, undef, undef, undef, undef, undef, undef, undef, undef, undef, undef, undef, undef, undef, undef, undef, undef, undef]) rfl ?_
  intro w hP hW
  refine c_seq ?_
  refine c_reg ?_
  refine l_box hW rfl rfl rfl rfl ?_
  intro g1 W hW
  refine l_val (r_assign (v := .int _ _) rfl rfl) rfl rfl ?_
  refine l_end ?_
  refine n_then ?_
  refine c_seq ?_
  refine c_seq ?_
  refine c_reg ?_
  refine l_val (r_fieldAddr 0 Try.underlying39 rfl tyA26.size rfl rfl rfl) rfl rfl ?_
  refine l_loadP hW 0 tyA26 rfl rfl rfl rfl rfl (by first | rfl | omega | (simp; done) | (simp; omega)) rfl ?_
  refine l_call hW (g_rCheck _) en36 rfl rfl rfl rfl ?_
  intro W hW
  refine l_val (r_assign (v := .int _ _) rfl rfl) rfl rfl ?_
  refine l_end ?_
  refine n_then ?_
  refine c_seq ?_
  refine c_reg ?_
  refine l_val (r_move (v := .int _ _) rfl rfl) rfl rfl ?_
  refine l_val (r_neq rfl rfl rfl rfl) rfl rfl ?_
  refine l_split ?_ ?_
  · intro hc1
    replace hc1 := of_decide_eq_true hc1
    have hs := chk_bad hc1
    refine l_end ?_
    refine n_then ?_
    refine c_true rfl ?_
    refine c_seq ?_
    refine c_reg ?_
    refine l_val (r_move (v := .int _ _) rfl rfl) rfl rfl ?_
    refine l_val (r_assign (v := .int _ _) rfl rfl) rfl rfl ?_
    refine l_end ?_
    refine n_then ?_
    refine c_ret ?_
    refine r_then ?_
    refine ret_tmp (v := .int .i64 (chkB b)) rfl ?_ ⟨rfl, hW.below⟩
    exact congrArg (Value.int .i64) ((chk_no hs).trans (chkB_s hs).symm)
  · intro hc1
    replace hc1 := of_decide_eq_false hc1
    have hs := chk_zero hc1
    obtain ⟨k1, k3, d0, d6, -⟩ := schB_iff.1 hs
    have hp := p2_le (n := b.s.d.toNat) (by omega)
    refine l_end ?_
    refine n_then ?_
    refine c_false rfl ?_
    refine c_skip ?_
    refine n_then ?_
    refine c_seq ?_
    refine c_seq ?_
    refine c_reg ?_
    refine l_val (r_fieldAddr 0 Try.underlying39 rfl tyA26.size rfl rfl rfl) rfl rfl ?_
    refine l_val (r_fieldAddr 1 Try.underlying26 rfl tyC3.size rfl rfl rfl) rfl rfl ?_
    refine l_loadC hW 0 tyC3 rfl rfl rfl rfl rfl rfl ?_
    refine l_val (r_fieldAddr 6 Try.underlying39 rfl tyC35.size rfl rfl rfl) rfl rfl ?_
    refine l_loadC hW 0 tyC35 rfl rfl rfl rfl rfl rfl ?_
    refine l_callR hW (g_rIsList b.s.d d0 d6 t.a t.n t.c b.l (by omega)) en45 (hP.past hW.below) rfl rfl rfl rfl ?_
    intro W hW
    refine l_split ?_ ?_
    · intro hc2
      refine l_val (r_not rfl rfl) rfl rfl ?_
      refine l_val (r_move (v := .bool _) rfl rfl) rfl rfl ?_
      refine l_valG (r_fieldAddr 7 Try.underlying39 rfl tyC5.size rfl rfl rfl) (by kernel_rfl) rfl ?_
      refine l_loadCG hW 0 tyC5 (by kernel_rfl) rfl rfl rfl rfl rfl ?_
      refine l_valG (r_lss rfl rfl rfl rfl) (by kernel_rfl) rfl ?_
      refine l_split ?_ ?_
      · intro hc3
        replace hc3 := of_decide_eq_true hc3
        refine l_val (r_pick (v := .bool _) rfl rfl rfl) rfl rfl ?_
        refine l_val (r_move (v := .bool _) rfl rfl) rfl rfl ?_
        refine l_not (by kernel_rfl) rfl ?_
        refine l_not (by kernel_rfl) rfl ?_
        refine l_not (by kernel_rfl) rfl ?_
        refine l_val (r_pick (v := .bool _) rfl rfl rfl) rfl rfl ?_
        refine l_val (r_move (v := .bool _) rfl rfl) rfl rfl ?_
        refine l_not (by kernel_rfl) rfl ?_
        refine l_not (by kernel_rfl) rfl ?_
        refine l_not (by kernel_rfl) rfl ?_
        refine l_val (r_pick (v := .bool _) rfl rfl rfl) rfl rfl ?_
        refine l_val (r_move (v := .bool _) rfl rfl) rfl rfl ?_
        refine l_not (by kernel_rfl) rfl ?_
        refine l_not (by kernel_rfl) rfl ?_
        refine l_not (by kernel_rfl) rfl ?_
        refine l_val (r_pick (v := .bool _) rfl rfl rfl) rfl rfl ?_
        refine l_val (r_move (v := .bool _) rfl rfl) rfl rfl ?_
        refine l_not (by kernel_rfl) rfl ?_
        refine l_not (by kernel_rfl) rfl ?_
        refine l_not (by kernel_rfl) rfl ?_
        refine l_val (r_pick (v := .bool _) rfl rfl rfl) rfl rfl ?_
        refine l_val (r_move (v := .bool _) rfl rfl) rfl rfl ?_
        refine l_not (by kernel_rfl) rfl ?_
        refine l_not (by kernel_rfl) rfl ?_
        refine l_not (by kernel_rfl) rfl ?_
        refine l_val (r_pick (v := .bool _) rfl rfl rfl) rfl rfl ?_
        refine l_end ?_
        refine n_then ?_
        refine c_true rfl ?_
        refine c_seq ?_
        refine c_reg ?_
        refine l_val (r_assign (v := .int _ _) rfl rfl) rfl rfl ?_
        refine l_end ?_
        refine n_then ?_
        refine c_ret ?_
        refine r_then ?_
        refine ret_tmp (v := .int .i64 (chkB b)) rfl ?_ ⟨rfl, hW.below⟩
        rw [chkB_n hs (by omega)]; rfl
      · intro hc3
        replace hc3 := of_decide_eq_false hc3
        refine l_val (r_pick (v := .bool _) rfl rfl rfl) rfl rfl ?_
        refine l_val (r_move (v := .bool _) rfl rfl) rfl rfl ?_
        refine l_valG (r_fieldAddr 7 Try.underlying39 rfl tyC5.size rfl rfl rfl) (by kernel_rfl) rfl ?_
        refine l_loadCG hW 0 tyC5 (by kernel_rfl) rfl rfl rfl rfl rfl ?_
        refine l_valG (r_gtr rfl rfl rfl rfl) (by kernel_rfl) rfl ?_
        refine l_split ?_ ?_
        · intro hc4
          replace hc4 := of_decide_eq_true hc4
          refine l_val (r_pick (v := .bool _) rfl rfl rfl) rfl rfl ?_
          refine l_val (r_move (v := .bool _) rfl rfl) rfl rfl ?_
          refine l_not (by kernel_rfl) rfl ?_
          refine l_not (by kernel_rfl) rfl ?_
          refine l_not (by kernel_rfl) rfl ?_
          refine l_val (r_pick (v := .bool _) rfl rfl rfl) rfl rfl ?_
          refine l_val (r_move (v := .bool _) rfl rfl) rfl rfl ?_
          refine l_not (by kernel_rfl) rfl ?_
          refine l_not (by kernel_rfl) rfl ?_
          refine l_not (by kernel_rfl) rfl ?_
          refine l_val (r_pick (v := .bool _) rfl rfl rfl) rfl rfl ?_
          refine l_val (r_move (v := .bool _) rfl rfl) rfl rfl ?_
          refine l_not (by kernel_rfl) rfl ?_
          refine l_not (by kernel_rfl) rfl ?_
          refine l_not (by kernel_rfl) rfl ?_
          refine l_val (r_pick (v := .bool _) rfl rfl rfl) rfl rfl ?_
          refine l_val (r_move (v := .bool _) rfl rfl) rfl rfl ?_
          refine l_not (by kernel_rfl) rfl ?_
          refine l_not (by kernel_rfl) rfl ?_
          refine l_not (by kernel_rfl) rfl ?_
          refine l_val (r_pick (v := .bool _) rfl rfl rfl) rfl rfl ?_
          refine l_end ?_
          refine n_then ?_
          refine c_true rfl ?_
          refine c_seq ?_
          refine c_reg ?_
          refine l_val (r_assign (v := .int _ _) rfl rfl) rfl rfl ?_
          refine l_end ?_
          refine n_then ?_
          refine c_ret ?_
          refine r_then ?_
          refine ret_tmp (v := .int .i64 (chkB b)) rfl ?_ ⟨rfl, hW.below⟩
          rw [chkB_n hs (by omega)]; rfl
        · intro hc4
          replace hc4 := of_decide_eq_false hc4
          refine l_val (r_pick (v := .bool _) rfl rfl rfl) rfl rfl ?_
          refine l_val (r_move (v := .bool _) rfl rfl) rfl rfl ?_
          refine l_valG (r_fieldAddr 8 Try.underlying39 rfl tyC3.size rfl rfl rfl) (by kernel_rfl) rfl ?_
          refine l_loadCG hW 0 tyC3 (by kernel_rfl) rfl rfl rfl rfl rfl ?_
          refine l_valG (r_lss rfl rfl rfl rfl) (by kernel_rfl) rfl ?_
          refine l_split ?_ ?_
          · intro hc5
            replace hc5 := of_decide_eq_true hc5
            refine l_val (r_pick (v := .bool _) rfl rfl rfl) rfl rfl ?_
            refine l_val (r_move (v := .bool _) rfl rfl) rfl rfl ?_
            refine l_not (by kernel_rfl) rfl ?_
            refine l_not (by kernel_rfl) rfl ?_
            refine l_not (by kernel_rfl) rfl ?_
            refine l_val (r_pick (v := .bool _) rfl rfl rfl) rfl rfl ?_
            refine l_val (r_move (v := .bool _) rfl rfl) rfl rfl ?_
            refine l_not (by kernel_rfl) rfl ?_
            refine l_not (by kernel_rfl) rfl ?_
            refine l_not (by kernel_rfl) rfl ?_
            refine l_val (r_pick (v := .bool _) rfl rfl rfl) rfl rfl ?_
            refine l_val (r_move (v := .bool _) rfl rfl) rfl rfl ?_
            refine l_not (by kernel_rfl) rfl ?_
            refine l_not (by kernel_rfl) rfl ?_
            refine l_not (by kernel_rfl) rfl ?_
            refine l_val (r_pick (v := .bool _) rfl rfl rfl) rfl rfl ?_
            refine l_end ?_
            refine n_then ?_
            refine c_true rfl ?_
            refine c_seq ?_
            refine c_reg ?_
            refine l_val (r_assign (v := .int _ _) rfl rfl) rfl rfl ?_
            refine l_end ?_
            refine n_then ?_
            refine c_ret ?_
            refine r_then ?_
            refine ret_tmp (v := .int .i64 (chkB b)) rfl ?_ ⟨rfl, hW.below⟩
            rw [chkB_n hs (by omega)]; rfl
          · intro hc5
            replace hc5 := of_decide_eq_false hc5
            refine l_val (r_pick (v := .bool _) rfl rfl rfl) rfl rfl ?_
            refine l_val (r_move (v := .bool _) rfl rfl) rfl rfl ?_
            refine l_valG (r_fieldAddr 8 Try.underlying39 rfl tyC3.size rfl rfl rfl) (by kernel_rfl) rfl ?_
            refine l_loadCG hW 0 tyC3 (by kernel_rfl) rfl rfl rfl rfl rfl ?_
            refine l_valG (r_gtr rfl rfl rfl rfl) (by kernel_rfl) rfl ?_
            refine l_split ?_ ?_
            · intro hc6
              replace hc6 := of_decide_eq_true hc6
              refine l_val (r_pick (v := .bool _) rfl rfl rfl) rfl rfl ?_
              refine l_val (r_move (v := .bool _) rfl rfl) rfl rfl ?_
              refine l_not (by kernel_rfl) rfl ?_
              refine l_not (by kernel_rfl) rfl ?_
              refine l_not (by kernel_rfl) rfl ?_
              refine l_val (r_pick (v := .bool _) rfl rfl rfl) rfl rfl ?_
              refine l_val (r_move (v := .bool _) rfl rfl) rfl rfl ?_
              refine l_not (by kernel_rfl) rfl ?_
              refine l_not (by kernel_rfl) rfl ?_
              refine l_not (by kernel_rfl) rfl ?_
              refine l_val (r_pick (v := .bool _) rfl rfl rfl) rfl rfl ?_
              refine l_end ?_
              refine n_then ?_
              refine c_true rfl ?_
              refine c_seq ?_
              refine c_reg ?_
              refine l_val (r_assign (v := .int _ _) rfl rfl) rfl rfl ?_
              refine l_end ?_
              refine n_then ?_
              refine c_ret ?_
              refine r_then ?_
              refine ret_tmp (v := .int .i64 (chkB b)) rfl ?_ ⟨rfl, hW.below⟩
              rw [chkB_n hs (by omega)]; rfl
            · intro hc6
              replace hc6 := of_decide_eq_false hc6
              refine l_val (r_pick (v := .bool _) rfl rfl rfl) rfl rfl ?_
              refine l_val (r_move (v := .bool _) rfl rfl) rfl rfl ?_
              refine l_valG (r_fieldAddr 9 Try.underlying39 rfl tyC3.size rfl rfl rfl) (by kernel_rfl) rfl ?_
              refine l_loadCG hW 0 tyC3 (by kernel_rfl) rfl rfl rfl rfl rfl ?_
              refine l_valG (r_lss rfl rfl rfl rfl) (by kernel_rfl) rfl ?_
              refine l_split ?_ ?_
              · intro hc7
                replace hc7 := of_decide_eq_true hc7
                refine l_val (r_pick (v := .bool _) rfl rfl rfl) rfl rfl ?_
                refine l_val (r_move (v := .bool _) rfl rfl) rfl rfl ?_
                refine l_not (by kernel_rfl) rfl ?_
                refine l_not (by kernel_rfl) rfl ?_
                refine l_not (by kernel_rfl) rfl ?_
                refine l_val (r_pick (v := .bool _) rfl rfl rfl) rfl rfl ?_
                refine l_end ?_
                refine n_then ?_
                refine c_true rfl ?_
                refine c_seq ?_
                refine c_reg ?_
                refine l_val (r_assign (v := .int _ _) rfl rfl) rfl rfl ?_
                refine l_end ?_
                refine n_then ?_
                refine c_ret ?_
                refine r_then ?_
                refine ret_tmp (v := .int .i64 (chkB b)) rfl ?_ ⟨rfl, hW.below⟩
                rw [chkB_n hs (by omega)]; rfl
              · intro hc7
                replace hc7 := of_decide_eq_false hc7
                refine l_val (r_pick (v := .bool _) rfl rfl rfl) rfl rfl ?_
                refine l_val (r_move (v := .bool _) rfl rfl) rfl rfl ?_
                refine l_valG (r_fieldAddr 9 Try.underlying39 rfl tyC3.size rfl rfl rfl) (by kernel_rfl) rfl ?_
                refine l_loadCG hW 0 tyC3 (by kernel_rfl) rfl rfl rfl rfl rfl ?_
                refine l_valG (r_gtr rfl rfl rfl rfl) (by kernel_rfl) rfl ?_
                refine l_split ?_ ?_
                · intro hc8
                  replace hc8 := of_decide_eq_true hc8
                  refine l_val (r_pick (v := .bool _) rfl rfl rfl) rfl rfl ?_
                  refine l_end ?_
                  refine n_then ?_
                  refine c_true rfl ?_
                  refine c_seq ?_
                  refine c_reg ?_
                  refine l_val (r_assign (v := .int _ _) rfl rfl) rfl rfl ?_
                  refine l_end ?_
                  refine n_then ?_
                  refine c_ret ?_
                  refine r_then ?_
                  refine ret_tmp (v := .int .i64 (chkB b)) rfl ?_ ⟨rfl, hW.below⟩
                  rw [chkB_n hs (by omega)]; rfl
                · intro hc8
                  replace hc8 := of_decide_eq_false hc8
                  refine l_val (r_pick (v := .bool _) rfl rfl rfl) rfl rfl ?_
                  refine l_end ?_
                  refine n_then ?_
                  refine c_false rfl ?_
                  refine c_skip ?_
                  refine n_then ?_
                  refine c_seq ?_
                  refine c_seq ?_
                  refine c_reg ?_
                  refine l_val (r_fieldAddr 26 Try.underlying39 rfl tyC3.size rfl rfl rfl) rfl rfl ?_
                  refine l_loadC hW 0 tyC3 rfl rfl rfl rfl rfl rfl ?_
                  refine l_val (r_lss rfl rfl rfl rfl) rfl rfl ?_
                  refine l_split ?_ ?_
                  · intro hc9
                    replace hc9 := of_decide_eq_true hc9
                    refine l_val (r_move (v := .bool _) rfl rfl) rfl rfl ?_
                    refine l_not (by kernel_rfl) rfl ?_
                    refine l_not (by kernel_rfl) rfl ?_
                    refine l_not (by kernel_rfl) rfl ?_
                    refine l_val (r_pick (v := .bool _) rfl rfl rfl) rfl rfl ?_
                    refine l_val (r_move (v := .bool _) rfl rfl) rfl rfl ?_
                    refine l_not (by kernel_rfl) rfl ?_
                    refine l_not (by kernel_rfl) rfl ?_
                    refine l_not (by kernel_rfl) rfl ?_
                    refine l_val (r_pick (v := .bool _) rfl rfl rfl) rfl rfl ?_
                    refine l_val (r_move (v := .bool _) rfl rfl) rfl rfl ?_
                    refine l_not (by kernel_rfl) rfl ?_
                    refine l_not (by kernel_rfl) rfl ?_
                    refine l_not (by kernel_rfl) rfl ?_
                    refine l_not (by kernel_rfl) rfl ?_
                    refine l_not (by kernel_rfl) rfl ?_
                    refine l_val (r_pick (v := .bool _) rfl rfl rfl) rfl rfl ?_
                    refine l_end ?_
                    refine n_then ?_
                    refine c_true rfl ?_
                    refine c_seq ?_
                    refine c_reg ?_
                    refine l_val (r_assign (v := .int _ _) rfl rfl) rfl rfl ?_
                    refine l_end ?_
                    refine n_then ?_
                    refine c_ret ?_
                    refine r_then ?_
                    refine ret_tmp (v := .int .i64 (chkB b)) rfl ?_ ⟨rfl, hW.below⟩
                    rw [chkB_n hs (by omega)]; rfl
                  · intro hc9
                    replace hc9 := of_decide_eq_false hc9
                    refine l_val (r_move (v := .bool _) rfl rfl) rfl rfl ?_
                    refine l_valG (r_fieldAddr 26 Try.underlying39 rfl tyC3.size rfl rfl rfl) (by kernel_rfl) rfl ?_
                    refine l_loadCG hW 0 tyC3 (by kernel_rfl) rfl rfl rfl rfl rfl ?_
                    refine l_valG (r_gtr rfl rfl rfl rfl) (by kernel_rfl) rfl ?_
                    refine l_split ?_ ?_
                    · intro hc10
                      replace hc10 := of_decide_eq_true hc10
                      refine l_val (r_pick (v := .bool _) rfl rfl rfl) rfl rfl ?_
                      refine l_val (r_move (v := .bool _) rfl rfl) rfl rfl ?_
                      refine l_not (by kernel_rfl) rfl ?_
                      refine l_not (by kernel_rfl) rfl ?_
                      refine l_not (by kernel_rfl) rfl ?_
                      refine l_val (r_pick (v := .bool _) rfl rfl rfl) rfl rfl ?_
                      refine l_val (r_move (v := .bool _) rfl rfl) rfl rfl ?_
                      refine l_not (by kernel_rfl) rfl ?_
                      refine l_not (by kernel_rfl) rfl ?_
                      refine l_not (by kernel_rfl) rfl ?_
                      refine l_not (by kernel_rfl) rfl ?_
                      refine l_not (by kernel_rfl) rfl ?_
                      refine l_val (r_pick (v := .bool _) rfl rfl rfl) rfl rfl ?_
                      refine l_end ?_
                      refine n_then ?_
                      refine c_true rfl ?_
                      refine c_seq ?_
                      refine c_reg ?_
                      refine l_val (r_assign (v := .int _ _) rfl rfl) rfl rfl ?_
                      refine l_end ?_
                      refine n_then ?_
                      refine c_ret ?_
                      refine r_then ?_
                      refine ret_tmp (v := .int .i64 (chkB b)) rfl ?_ ⟨rfl, hW.below⟩
                      rw [chkB_n hs (by omega)]; rfl
                    · intro hc10
                      replace hc10 := of_decide_eq_false hc10
                      refine l_val (r_pick (v := .bool _) rfl rfl rfl) rfl rfl ?_
                      refine l_val (r_move (v := .bool _) rfl rfl) rfl rfl ?_
                      refine l_valG (r_fieldAddr 27 Try.underlying39 rfl tyC3.size rfl rfl rfl) (by kernel_rfl) rfl ?_
                      refine l_loadCG hW 0 tyC3 (by kernel_rfl) rfl rfl rfl rfl rfl ?_
                      refine l_valG (r_lss rfl rfl rfl rfl) (by kernel_rfl) rfl ?_
                      refine l_split ?_ ?_
                      · intro hc11
                        replace hc11 := of_decide_eq_true hc11
                        refine l_val (r_pick (v := .bool _) rfl rfl rfl) rfl rfl ?_
                        refine l_val (r_move (v := .bool _) rfl rfl) rfl rfl ?_
                        refine l_not (by kernel_rfl) rfl ?_
                        refine l_not (by kernel_rfl) rfl ?_
                        refine l_not (by kernel_rfl) rfl ?_
                        refine l_not (by kernel_rfl) rfl ?_
                        refine l_not (by kernel_rfl) rfl ?_
                        refine l_val (r_pick (v := .bool _) rfl rfl rfl) rfl rfl ?_
                        refine l_end ?_
                        refine n_then ?_
                        refine c_true rfl ?_
                        refine c_seq ?_
                        refine c_reg ?_
                        refine l_val (r_assign (v := .int _ _) rfl rfl) rfl rfl ?_
                        refine l_end ?_
                        refine n_then ?_
                        refine c_ret ?_
                        refine r_then ?_
                        refine ret_tmp (v := .int .i64 (chkB b)) rfl ?_ ⟨rfl, hW.below⟩
                        rw [chkB_n hs (by omega)]; rfl
                      · intro hc11
                        replace hc11 := of_decide_eq_false hc11
                        refine l_val (r_pick (v := .bool _) rfl rfl rfl) rfl rfl ?_
                        refine l_val (r_move (v := .bool _) rfl rfl) rfl rfl ?_
                        refine l_valG (r_fieldAddr 27 Try.underlying39 rfl tyC3.size rfl rfl rfl) (by kernel_rfl) rfl ?_
                        refine l_loadCG hW 0 tyC3 (by kernel_rfl) rfl rfl rfl rfl rfl ?_
                        refine l_valG (r_fieldAddr 26 Try.underlying39 rfl tyC3.size rfl rfl rfl) (by kernel_rfl) rfl ?_
                        refine l_loadCG hW 0 tyC3 (by kernel_rfl) rfl rfl rfl rfl rfl ?_
                        refine l_valG (r_gtr rfl rfl rfl rfl) (by kernel_rfl) rfl ?_
                        refine l_split ?_ ?_
                        · intro hc12
                          replace hc12 := of_decide_eq_true hc12
                          refine l_val (r_pick (v := .bool _) rfl rfl rfl) rfl rfl ?_
                          refine l_end ?_
                          refine n_then ?_
                          refine c_true rfl ?_
                          refine c_seq ?_
                          refine c_reg ?_
                          refine l_val (r_assign (v := .int _ _) rfl rfl) rfl rfl ?_
                          refine l_end ?_
                          refine n_then ?_
                          refine c_ret ?_
                          refine r_then ?_
                          refine ret_tmp (v := .int .i64 (chkB b)) rfl ?_ ⟨rfl, hW.below⟩
                          rw [chkB_n hs (by omega)]; rfl
                        · intro hc12
                          replace hc12 := of_decide_eq_false hc12
                          refine l_val (r_pick (v := .bool _) rfl rfl rfl) rfl rfl ?_
                          refine l_end ?_
                          refine n_then ?_
                          refine c_false rfl ?_
                          refine c_skip ?_
                          refine n_then ?_
                          refine c_seq ?_
                          refine c_reg ?_
                          refine l_val (r_assign (v := .int _ _) rfl rfl) rfl rfl ?_
                          refine l_end ?_
                          refine n_then ?_
                          refine c_ret ?_
                          refine ret_tmp (v := .int .i64 (chkB b)) rfl ?_ ⟨rfl, hW.below⟩
                          rw [chkB_y hs hc2 (by omega)]; rfl
    · intro hc2
      refine l_val (r_not rfl rfl) rfl rfl ?_
      refine l_val (r_move (v := .bool _) rfl rfl) rfl rfl ?_
      refine l_not (by kernel_rfl) rfl ?_
      refine l_not (by kernel_rfl) rfl ?_
      refine l_not (by kernel_rfl) rfl ?_
      refine l_val (r_pick (v := .bool _) rfl rfl rfl) rfl rfl ?_
      refine l_val (r_move (v := .bool _) rfl rfl) rfl rfl ?_
      refine l_not (by kernel_rfl) rfl ?_
      refine l_not (by kernel_rfl) rfl ?_
      refine l_not (by kernel_rfl) rfl ?_
      refine l_val (r_pick (v := .bool _) rfl rfl rfl) rfl rfl ?_
      refine l_val (r_move (v := .bool _) rfl rfl) rfl rfl ?_
      refine l_not (by kernel_rfl) rfl ?_
      refine l_not (by kernel_rfl) rfl ?_
      refine l_not (by kernel_rfl) rfl ?_
      refine l_val (r_pick (v := .bool _) rfl rfl rfl) rfl rfl ?_
      refine l_val (r_move (v := .bool _) rfl rfl) rfl rfl ?_
      refine l_not (by kernel_rfl) rfl ?_
      refine l_not (by kernel_rfl) rfl ?_
      refine l_not (by kernel_rfl) rfl ?_
      refine l_val (r_pick (v := .bool _) rfl rfl rfl) rfl rfl ?_
      refine l_val (r_move (v := .bool _) rfl rfl) rfl rfl ?_
      refine l_not (by kernel_rfl) rfl ?_
      refine l_not (by kernel_rfl) rfl ?_
      refine l_not (by kernel_rfl) rfl ?_
      refine l_val (r_pick (v := .bool _) rfl rfl rfl) rfl rfl ?_
      refine l_val (r_move (v := .bool _) rfl rfl) rfl rfl ?_
      refine l_not (by kernel_rfl) rfl ?_
      refine l_not (by kernel_rfl) rfl ?_
      refine l_not (by kernel_rfl) rfl ?_
      refine l_val (r_pick (v := .bool _) rfl rfl rfl) rfl rfl ?_
      refine l_end ?_
      refine n_then ?_
      refine c_true rfl ?_
      refine c_seq ?_
      refine c_reg ?_
      refine l_val (r_assign (v := .int _ _) rfl rfl) rfl rfl ?_
      refine l_end ?_
      refine n_then ?_
      refine c_ret ?_
      refine r_then ?_
      refine ret_tmp (v := .int .i64 (chkB b)) rfl ?_ ⟨rfl, hW.below⟩
      rw [chkB_l hs hc2]; rfl

set_option maxRecDepth 10000 in
/-- headend/trace.CheckBox -/
theorem g_CheckBox (b : Bo) (t : Sl) (hl : b.l.length ≤ 100) : GivesR Try.prog 15 [.agg (boC b t).toArray].toArray (fun w => RdI w t b.l) (.int .i64 (chkB b)) := by
  refine givesR_of Try.func15 rfl (bs := [.agg (boC b t).toArray, undef, undef, undef, undef, undef, undef, undef, undef, undef, undef, undef, undef, undef, undef, undef, undef, undef, undef, undef, undef, undef, undef, undef, undef, undef, undef, undef, undef, undef, undef, undef, undef, undef, undef, undef, undef, undef, undef, undef, undef, undef, undef, undef, undef, undef, undef, undef, undef, undef, undef, undef, undef, undef, undef, undef, undef, undef, undef, undef, undef, undef, undef, undef, undef, undef, undef, undef, undef, undef, undef, undef, undef, undef, undef, undef, undef, undef, undef, undef, undef, undef, undef, undef, undef]) rfl ?_
  intro w hP hW
  have hn := hP.len
  refine c_seq ?_
  refine c_reg ?_
  refine l_box hW rfl rfl rfl rfl ?_
  intro g1 W hW
  refine l_val (r_assign (v := .int _ _) rfl rfl) rfl rfl ?_
  refine l_end ?_
  refine n_then ?_
  refine c_seq ?_
  refine c_seq ?_
  refine c_reg ?_
  refine l_val (r_fieldAddr 0 Try.underlying39 rfl tyA26.size rfl rfl rfl) rfl rfl ?_
  refine l_loadP hW 0 tyA26 rfl rfl rfl rfl rfl (by first | rfl | omega | (simp; done) | (simp; omega)) rfl ?_
  refine l_call hW (g_Check _) en35 rfl rfl rfl rfl ?_
  intro W hW
  refine l_val (r_assign (v := .int _ _) rfl rfl) rfl rfl ?_
  refine l_end ?_
  refine n_then ?_
  refine c_seq ?_
  refine c_reg ?_
  refine l_val (r_move (v := .int _ _) rfl rfl) rfl rfl ?_
  refine l_val (r_neq rfl rfl rfl rfl) rfl rfl ?_
  refine l_split ?_ ?_
  · intro hc1
    replace hc1 := of_decide_eq_true hc1
    have hs := chk_bad hc1
    refine l_end ?_
    refine n_then ?_
    refine c_true rfl ?_
    refine c_seq ?_
    refine c_reg ?_
    refine l_val (r_move (v := .int _ _) rfl rfl) rfl rfl ?_
    refine l_val (r_assign (v := .int _ _) rfl rfl) rfl rfl ?_
    refine l_end ?_
    refine n_then ?_
    refine c_ret ?_
    refine r_then ?_
    refine ret_tmp (v := .int .i64 (chkB b)) rfl ?_ ⟨rfl, hW.below⟩
    exact congrArg (Value.int .i64) ((chk_no hs).trans (chkB_s hs).symm)
  · intro hc1
    replace hc1 := of_decide_eq_false hc1
    have hs := chk_zero hc1
    obtain ⟨k1, k3, d0, d6, -⟩ := schB_iff.1 hs
    have hp := p2_le (n := b.s.d.toNat) (by omega)
    refine l_end ?_
    refine n_then ?_
    refine c_false rfl ?_
    refine c_skip ?_
    refine n_then ?_
    refine c_seq ?_
    refine c_seq ?_
    refine c_reg ?_
    refine l_val (r_fieldAddr 6 Try.underlying39 rfl tyC35.size rfl rfl rfl) rfl rfl ?_
    refine l_loadC hW 0 tyC35 rfl rfl rfl rfl rfl rfl ?_
    refine l_val (r_lenSlice Try.underlying35 rfl rfl) rfl rfl ?_
    refine l_val (r_move (v := .int _ _) rfl rfl) rfl rfl ?_
    refine l_end ?_
    refine n_then ?_
    refine c_block ?_
    refine c_loop (fun (i : Nat) (j : Nat → Value) => [.agg (boC b t).toArray, .pointer (some ⟨g1, 0, none⟩), j 2, .int .i64 (chk b.s), j 4, j 5, .pointer (some ⟨g1, 0, none⟩), .agg [.int .u8 b.s.k, .int .i64 b.s.d, .int .i64 b.s.g, .int .u64 b.s.p, .int .u64 b.s.q, .int .u64 b.s.r].toArray, .int .i64 (chk b.s), .int .i64 (chk b.s), .bool false, j 11, .pointer (some ⟨g1, 6, none⟩), .slice t.a t.n t.c, .int .i64 (t.n : Int), .int .i64 (i : Int), j 16, j 17, j 18, j 19, j 20, j 21, j 22, j 23, j 24, j 25, j 26, j 27, j 28, j 29, j 30, j 31, j 32, j 33, j 34, j 35, j 36, j 37, j 38, j 39, j 40, j 41, j 42, j 43, j 44, j 45, j 46, j 47, j 48, j 49, j 50, j 51, j 52, j 53, j 54, j 55, j 56, j 57, j 58, j 59, j 60, j 61, j 62, j 63, j 64, j 65, j 66, j 67, j 68, j 69, j 70, j 71, j 72, j 73, j 74, j 75, j 76, j 77, j 78, j 79, j 80, j 81, j 82, j 83, j 84]) (fun (i : Nat) => [⟨g1, (boC b t), 39⟩]) (fun (i : Nat) => i ≤ t.n ∧ ∀ k, k < i → 0 ≤ at_ b.l k ∧ at_ b.l k < ((p2 b.s.d.toNat : Nat) : Int) ∧ (k = 0 ∨ at_ b.l (k - 1) < at_ b.l k)) (fun (i : Nat) => t.n - i) 0 (by kernel_rfl) hW ⟨by omega, all_zero⟩ ?_
    intro i j W hx hW
    refine c_seq ?_
    refine c_reg ?_
    refine l_val (r_lssN rfl rfl rfl rfl) rfl rfl ?_
    refine l_split ?_ ?_
    · intro hc2
      replace hc2 := of_decide_eq_true hc2
      obtain ⟨b0, o0, ha, hc⟩ := hP.ptr (by omega)
      refine l_end ?_
      refine n_then ?_
      refine c_seq ?_
      refine c_true rfl ?_
      refine c_skip ?_
      refine n_then ?_
      refine c_seq ?_
      refine c_block ?_
      refine c_seq ?_
      refine c_reg ?_
      refine l_val (r_move (v := .int _ _) rfl rfl) rfl rfl ?_
      refine l_val (r_indexAddrSl2 (n := i) Try.underlying35 tyC3.size rfl ((show _ = Value.slice t.a t.n t.c from rfl).trans (by rw [ha])) rfl (by omega)) rfl rfl ?_
      refine l_loadF hW tyC3 (v := .int .i64 (at_ b.l (i))) (hc (i) (by omega)) rfl rfl rfl rfl ?_
      refine l_val (r_assign (v := .int _ _) rfl rfl) rfl rfl ?_
      refine l_val (r_assign (v := .int _ _) rfl rfl) rfl rfl ?_
      refine l_end ?_
      refine n_then ?_
      refine c_seq ?_
      refine c_reg ?_
      refine l_val (r_move (v := .int _ _) rfl rfl) rfl rfl ?_
      refine l_val (r_lss rfl rfl rfl rfl) rfl rfl ?_
      refine l_split ?_ ?_
      · intro hc3
        replace hc3 := of_decide_eq_true hc3
        refine l_val (r_move (v := .bool _) rfl rfl) rfl rfl ?_
        refine l_not (by kernel_rfl) rfl ?_
        refine l_not (by kernel_rfl) rfl ?_
        refine l_not (by kernel_rfl) rfl ?_
        refine l_not (by kernel_rfl) rfl ?_
        refine l_not (by kernel_rfl) rfl ?_
        refine l_not (by kernel_rfl) rfl ?_
        refine l_val (r_pick (v := .bool _) rfl rfl rfl) rfl rfl ?_
        refine l_val (r_move (v := .bool _) rfl rfl) rfl rfl ?_
        refine l_not (by kernel_rfl) rfl ?_
        refine l_not (by kernel_rfl) rfl ?_
        refine l_not (by kernel_rfl) rfl ?_
        refine l_not (by kernel_rfl) rfl ?_
        refine l_not (by kernel_rfl) rfl ?_
        refine l_not (by kernel_rfl) rfl ?_
        refine l_not (by kernel_rfl) rfl ?_
        refine l_not (by kernel_rfl) rfl ?_
        refine l_not (by kernel_rfl) rfl ?_
        refine l_not (by kernel_rfl) rfl ?_
        refine l_not (by kernel_rfl) rfl ?_
        refine l_not (by kernel_rfl) rfl ?_
        refine l_val (r_pick (v := .bool _) rfl rfl rfl) rfl rfl ?_
        refine l_end ?_
        refine n_then ?_
        refine c_true rfl ?_
        refine c_seq ?_
        refine c_reg ?_
        refine l_val (r_assign (v := .int _ _) rfl rfl) rfl rfl ?_
        refine l_end ?_
        refine n_then ?_
        refine c_ret ?_
        refine r_block ?_
        refine r_then ?_
        refine r_then ?_
        refine r_block ?_
        refine r_then ?_
        refine ret_tmp (v := .int .i64 (chkB b)) rfl ?_ ⟨rfl, hW.below⟩
        rw [chkB_l hs (users_no (i := i) (by omega) (by omega))]; rfl
      · intro hc3
        replace hc3 := of_decide_eq_false hc3
        refine l_val (r_move (v := .bool _) rfl rfl) rfl rfl ?_
        refine l_valG (r_move (v := .int _ _) rfl rfl) (by kernel_rfl) rfl ?_
        refine l_valG (r_fieldAddr 0 Try.underlying39 rfl tyA26.size rfl rfl rfl) (by kernel_rfl) rfl ?_
        refine l_valG (r_fieldAddr 1 Try.underlying26 rfl tyC3.size rfl rfl rfl) (by kernel_rfl) rfl ?_
        refine l_loadCG hW 0 tyC3 (by kernel_rfl) rfl rfl rfl rfl rfl ?_
        refine l_valG (r_shlZ (m := 1) rfl rfl rfl (by omega) (by omega) (by omega)) (by kernel_rfl) rfl ?_
        refine l_valG (r_geq rfl rfl rfl rfl) (by kernel_rfl) rfl ?_
        refine l_split ?_ ?_
        · intro hc4
          replace hc4 := of_decide_eq_true hc4
          refine l_val (r_pick (v := .bool _) rfl rfl rfl) rfl rfl ?_
          refine l_val (r_move (v := .bool _) rfl rfl) rfl rfl ?_
          refine l_not (by kernel_rfl) rfl ?_
          refine l_not (by kernel_rfl) rfl ?_
          refine l_not (by kernel_rfl) rfl ?_
          refine l_not (by kernel_rfl) rfl ?_
          refine l_not (by kernel_rfl) rfl ?_
          refine l_not (by kernel_rfl) rfl ?_
          refine l_not (by kernel_rfl) rfl ?_
          refine l_not (by kernel_rfl) rfl ?_
          refine l_not (by kernel_rfl) rfl ?_
          refine l_not (by kernel_rfl) rfl ?_
          refine l_not (by kernel_rfl) rfl ?_
          refine l_not (by kernel_rfl) rfl ?_
          refine l_val (r_pick (v := .bool _) rfl rfl rfl) rfl rfl ?_
          refine l_end ?_
          refine n_then ?_
          refine c_true rfl ?_
          refine c_seq ?_
          refine c_reg ?_
          refine l_val (r_assign (v := .int _ _) rfl rfl) rfl rfl ?_
          refine l_end ?_
          refine n_then ?_
          refine c_ret ?_
          refine r_block ?_
          refine r_then ?_
          refine r_then ?_
          refine r_block ?_
          refine r_then ?_
          refine ret_tmp (v := .int .i64 (chkB b)) rfl ?_ ⟨rfl, hW.below⟩
          rw [chkB_l hs (users_no (i := i) (by omega) (by omega))]; rfl
        · intro hc4
          replace hc4 := of_decide_eq_false hc4
          refine l_val (r_pick (v := .bool _) rfl rfl rfl) rfl rfl ?_
          refine l_val (r_move (v := .bool _) rfl rfl) rfl rfl ?_
          refine l_valG (r_move (v := .int _ _) rfl rfl) (by kernel_rfl) rfl ?_
          refine l_valG (r_gtrN (n := 0) rfl rfl rfl rfl) (by kernel_rfl) rfl ?_
          refine l_split ?_ ?_
          · intro hc5
            replace hc5 := of_decide_eq_true hc5
            refine l_valG (r_move (v := .bool _) rfl rfl) (by kernel_rfl) rfl ?_
            refine l_valG (r_move (v := .int _ _) rfl rfl) (by kernel_rfl) rfl ?_
            refine l_valG (r_fieldAddr 6 Try.underlying39 rfl tyC35.size rfl rfl rfl) (by kernel_rfl) rfl ?_
            refine l_loadCG hW 0 tyC35 (by kernel_rfl) rfl rfl rfl rfl rfl ?_
            refine l_valG (r_move (v := .int _ _) rfl rfl) (by kernel_rfl) rfl ?_
            refine l_valG (r_subN (n := 1) rfl rfl rfl (by omega) (by omega)) (by kernel_rfl) rfl ?_
            refine l_valG (r_indexAddrSl2 (n := i - 1) Try.underlying35 tyC3.size rfl ((show _ = Value.slice t.a t.n t.c from rfl).trans (by rw [ha])) rfl (by omega)) (by kernel_rfl) rfl ?_
            refine l_loadFG hW tyC3 (v := .int .i64 (at_ b.l (i - 1))) (hc (i - 1) (by omega)) (by kernel_rfl) rfl rfl rfl ?_
            refine l_valG (r_leq rfl rfl rfl rfl) (by kernel_rfl) rfl ?_
            refine l_split ?_ ?_
            · intro hc6
              replace hc6 := of_decide_eq_true hc6
              refine l_valG (r_pick (v := .bool _) rfl rfl rfl) (by kernel_rfl) rfl ?_
              refine l_val (r_pick (v := .bool _) rfl rfl rfl) rfl rfl ?_
              refine l_end ?_
              refine n_then ?_
              refine c_true rfl ?_
              refine c_seq ?_
              refine c_reg ?_
              refine l_val (r_assign (v := .int _ _) rfl rfl) rfl rfl ?_
              refine l_end ?_
              refine n_then ?_
              refine c_ret ?_
              refine r_block ?_
              refine r_then ?_
              refine r_then ?_
              refine r_block ?_
              refine r_then ?_
              refine ret_tmp (v := .int .i64 (chkB b)) rfl ?_ ⟨rfl, hW.below⟩
              rw [chkB_l hs (users_no (i := i) (by omega) (by omega))]; rfl
            · intro hc6
              replace hc6 := of_decide_eq_false hc6
              refine l_valG (r_pick (v := .bool _) rfl rfl rfl) (by kernel_rfl) rfl ?_
              refine l_val (r_pick (v := .bool _) rfl rfl rfl) rfl rfl ?_
              refine l_end ?_
              refine n_then ?_
              refine c_false rfl ?_
              refine c_skip ?_
              refine n_block ?_
              refine n_then ?_
              refine c_reg ?_
              refine l_val (r_addN (n := 1) rfl rfl rfl (by omega)) rfl rfl ?_
              refine l_val (r_move (v := .int _ _) rfl rfl) rfl rfl ?_
              refine l_end ?_
              refine n_then ?_
              exact loop_next (i + 1) (by kernel_rfl) hW ⟨by omega, all_step hx.2 (by omega)⟩ (by omega)
          · intro hc5
            replace hc5 := of_decide_eq_false hc5
            refine l_valG (r_move (v := .bool _) rfl rfl) (by kernel_rfl) rfl ?_
            refine l_not (by kernel_rfl) rfl ?_
            refine l_not (by kernel_rfl) rfl ?_
            refine l_not (by kernel_rfl) rfl ?_
            refine l_not (by kernel_rfl) rfl ?_
            refine l_not (by kernel_rfl) rfl ?_
            refine l_not (by kernel_rfl) rfl ?_
            refine l_not (by kernel_rfl) rfl ?_
            refine l_not (by kernel_rfl) rfl ?_
            refine l_valG (r_pick (v := .bool _) rfl rfl rfl) (by kernel_rfl) rfl ?_
            refine l_val (r_pick (v := .bool _) rfl rfl rfl) rfl rfl ?_
            refine l_end ?_
            refine n_then ?_
            refine c_false rfl ?_
            refine c_skip ?_
            refine n_block ?_
            refine n_then ?_
            refine c_reg ?_
            refine l_val (r_addN (n := 1) rfl rfl rfl (by omega)) rfl rfl ?_
            refine l_val (r_move (v := .int _ _) rfl rfl) rfl rfl ?_
            refine l_end ?_
            refine n_then ?_
            exact loop_next (i + 1) (by kernel_rfl) hW ⟨by omega, all_step hx.2 (by omega)⟩ (by omega)
    · intro hc2
      replace hc2 := of_decide_eq_false hc2
      refine l_end ?_
      refine n_then ?_
      refine c_seq ?_
      refine c_false rfl ?_
      refine c_exit ?_
      refine x_then ?_
      refine x_then ?_
      refine x_hit ?_
      refine n_then ?_
      refine c_seq ?_
      refine c_seq ?_
      refine c_reg ?_
      refine l_val (r_fieldAddr 7 Try.underlying39 rfl tyC5.size rfl rfl rfl) rfl rfl ?_
      refine l_loadC hW 0 tyC5 rfl rfl rfl rfl rfl rfl ?_
      refine l_val (r_lss rfl rfl rfl rfl) rfl rfl ?_
      refine l_split ?_ ?_
      · intro hc7
        replace hc7 := of_decide_eq_true hc7
        refine l_val (r_move (v := .bool _) rfl rfl) rfl rfl ?_
        refine l_not (by kernel_rfl) rfl ?_
        refine l_not (by kernel_rfl) rfl ?_
        refine l_not (by kernel_rfl) rfl ?_
        refine l_val (r_pick (v := .bool _) rfl rfl rfl) rfl rfl ?_
        refine l_val (r_move (v := .bool _) rfl rfl) rfl rfl ?_
        refine l_not (by kernel_rfl) rfl ?_
        refine l_not (by kernel_rfl) rfl ?_
        refine l_not (by kernel_rfl) rfl ?_
        refine l_not (by kernel_rfl) rfl ?_
        refine l_not (by kernel_rfl) rfl ?_
        refine l_not (by kernel_rfl) rfl ?_
        refine l_not (by kernel_rfl) rfl ?_
        refine l_not (by kernel_rfl) rfl ?_
        refine l_not (by kernel_rfl) rfl ?_
        refine l_not (by kernel_rfl) rfl ?_
        refine l_val (r_pick (v := .bool _) rfl rfl rfl) rfl rfl ?_
        refine l_val (r_move (v := .bool _) rfl rfl) rfl rfl ?_
        refine l_not (by kernel_rfl) rfl ?_
        refine l_not (by kernel_rfl) rfl ?_
        refine l_not (by kernel_rfl) rfl ?_
        refine l_not (by kernel_rfl) rfl ?_
        refine l_not (by kernel_rfl) rfl ?_
        refine l_not (by kernel_rfl) rfl ?_
        refine l_val (r_pick (v := .bool _) rfl rfl rfl) rfl rfl ?_
        refine l_val (r_move (v := .bool _) rfl rfl) rfl rfl ?_
        refine l_not (by kernel_rfl) rfl ?_
        refine l_not (by kernel_rfl) rfl ?_
        refine l_not (by kernel_rfl) rfl ?_
        refine l_val (r_pick (v := .bool _) rfl rfl rfl) rfl rfl ?_
        refine l_val (r_move (v := .bool _) rfl rfl) rfl rfl ?_
        refine l_not (by kernel_rfl) rfl ?_
        refine l_not (by kernel_rfl) rfl ?_
        refine l_not (by kernel_rfl) rfl ?_
        refine l_not (by kernel_rfl) rfl ?_
        refine l_not (by kernel_rfl) rfl ?_
        refine l_val (r_pick (v := .bool _) rfl rfl rfl) rfl rfl ?_
        refine l_end ?_
        refine n_then ?_
        refine c_true rfl ?_
        refine c_seq ?_
        refine c_reg ?_
        refine l_val (r_assign (v := .int _ _) rfl rfl) rfl rfl ?_
        refine l_end ?_
        refine n_then ?_
        refine c_ret ?_
        refine r_then ?_
        refine ret_tmp (v := .int .i64 (chkB b)) rfl ?_ ⟨rfl, hW.below⟩
        rw [chkB_n hs (by omega)]; rfl
      · intro hc7
        replace hc7 := of_decide_eq_false hc7
        refine l_val (r_move (v := .bool _) rfl rfl) rfl rfl ?_
        refine l_valG (r_fieldAddr 7 Try.underlying39 rfl tyC5.size rfl rfl rfl) (by kernel_rfl) rfl ?_
        refine l_loadCG hW 0 tyC5 (by kernel_rfl) rfl rfl rfl rfl rfl ?_
        refine l_valG (r_gtr rfl rfl rfl rfl) (by kernel_rfl) rfl ?_
        refine l_split ?_ ?_
        · intro hc8
          replace hc8 := of_decide_eq_true hc8
          refine l_val (r_pick (v := .bool _) rfl rfl rfl) rfl rfl ?_
          refine l_val (r_move (v := .bool _) rfl rfl) rfl rfl ?_
          refine l_not (by kernel_rfl) rfl ?_
          refine l_not (by kernel_rfl) rfl ?_
          refine l_not (by kernel_rfl) rfl ?_
          refine l_not (by kernel_rfl) rfl ?_
          refine l_not (by kernel_rfl) rfl ?_
          refine l_not (by kernel_rfl) rfl ?_
          refine l_not (by kernel_rfl) rfl ?_
          refine l_not (by kernel_rfl) rfl ?_
          refine l_not (by kernel_rfl) rfl ?_
          refine l_not (by kernel_rfl) rfl ?_
          refine l_val (r_pick (v := .bool _) rfl rfl rfl) rfl rfl ?_
          refine l_val (r_move (v := .bool _) rfl rfl) rfl rfl ?_
          refine l_not (by kernel_rfl) rfl ?_
          refine l_not (by kernel_rfl) rfl ?_
          refine l_not (by kernel_rfl) rfl ?_
          refine l_not (by kernel_rfl) rfl ?_
          refine l_not (by kernel_rfl) rfl ?_
          refine l_not (by kernel_rfl) rfl ?_
          refine l_val (r_pick (v := .bool _) rfl rfl rfl) rfl rfl ?_
          refine l_val (r_move (v := .bool _) rfl rfl) rfl rfl ?_
          refine l_not (by kernel_rfl) rfl ?_
          refine l_not (by kernel_rfl) rfl ?_
          refine l_not (by kernel_rfl) rfl ?_
          refine l_val (r_pick (v := .bool _) rfl rfl rfl) rfl rfl ?_
          refine l_val (r_move (v := .bool _) rfl rfl) rfl rfl ?_
          refine l_not (by kernel_rfl) rfl ?_
          refine l_not (by kernel_rfl) rfl ?_
          refine l_not (by kernel_rfl) rfl ?_
          refine l_not (by kernel_rfl) rfl ?_
          refine l_not (by kernel_rfl) rfl ?_
          refine l_val (r_pick (v := .bool _) rfl rfl rfl) rfl rfl ?_
          refine l_end ?_
          refine n_then ?_
          refine c_true rfl ?_
          refine c_seq ?_
          refine c_reg ?_
          refine l_val (r_assign (v := .int _ _) rfl rfl) rfl rfl ?_
          refine l_end ?_
          refine n_then ?_
          refine c_ret ?_
          refine r_then ?_
          refine ret_tmp (v := .int .i64 (chkB b)) rfl ?_ ⟨rfl, hW.below⟩
          rw [chkB_n hs (by omega)]; rfl
        · intro hc8
          replace hc8 := of_decide_eq_false hc8
          refine l_val (r_pick (v := .bool _) rfl rfl rfl) rfl rfl ?_
          refine l_val (r_move (v := .bool _) rfl rfl) rfl rfl ?_
          refine l_valG (r_fieldAddr 8 Try.underlying39 rfl tyC3.size rfl rfl rfl) (by kernel_rfl) rfl ?_
          refine l_loadCG hW 0 tyC3 (by kernel_rfl) rfl rfl rfl rfl rfl ?_
          refine l_valG (r_fieldAddr 9 Try.underlying39 rfl tyC3.size rfl rfl rfl) (by kernel_rfl) rfl ?_
          refine l_loadCG hW 0 tyC3 (by kernel_rfl) rfl rfl rfl rfl rfl ?_
          refine l_valG (r_fieldAddr 26 Try.underlying39 rfl tyC3.size rfl rfl rfl) (by kernel_rfl) rfl ?_
          refine l_loadCG hW 0 tyC3 (by kernel_rfl) rfl rfl rfl rfl rfl ?_
          refine l_valG (r_fieldAddr 27 Try.underlying39 rfl tyC3.size rfl rfl rfl) (by kernel_rfl) rfl ?_
          refine l_loadCG hW 0 tyC3 (by kernel_rfl) rfl rfl rfl rfl rfl ?_
          refine l_valG (r_min4 rfl rfl rfl rfl rfl) (by kernel_rfl) rfl ?_
          refine l_valG (r_lss rfl rfl rfl rfl) (by kernel_rfl) rfl ?_
          refine l_split ?_ ?_
          · intro hc9
            replace hc9 := of_decide_eq_true hc9
            refine l_val (r_pick (v := .bool _) rfl rfl rfl) rfl rfl ?_
            refine l_val (r_move (v := .bool _) rfl rfl) rfl rfl ?_
            refine l_not (by kernel_rfl) rfl ?_
            refine l_not (by kernel_rfl) rfl ?_
            refine l_not (by kernel_rfl) rfl ?_
            refine l_not (by kernel_rfl) rfl ?_
            refine l_not (by kernel_rfl) rfl ?_
            refine l_not (by kernel_rfl) rfl ?_
            refine l_val (r_pick (v := .bool _) rfl rfl rfl) rfl rfl ?_
            refine l_val (r_move (v := .bool _) rfl rfl) rfl rfl ?_
            refine l_not (by kernel_rfl) rfl ?_
            refine l_not (by kernel_rfl) rfl ?_
            refine l_not (by kernel_rfl) rfl ?_
            refine l_val (r_pick (v := .bool _) rfl rfl rfl) rfl rfl ?_
            refine l_val (r_move (v := .bool _) rfl rfl) rfl rfl ?_
            refine l_not (by kernel_rfl) rfl ?_
            refine l_not (by kernel_rfl) rfl ?_
            refine l_not (by kernel_rfl) rfl ?_
            refine l_not (by kernel_rfl) rfl ?_
            refine l_not (by kernel_rfl) rfl ?_
            refine l_val (r_pick (v := .bool _) rfl rfl rfl) rfl rfl ?_
            refine l_end ?_
            refine n_then ?_
            refine c_true rfl ?_
            refine c_seq ?_
            refine c_reg ?_
            refine l_val (r_assign (v := .int _ _) rfl rfl) rfl rfl ?_
            refine l_end ?_
            refine n_then ?_
            refine c_ret ?_
            refine r_then ?_
            refine ret_tmp (v := .int .i64 (chkB b)) rfl ?_ ⟨rfl, hW.below⟩
            rw [chkB_n hs (by omega)]; rfl
          · intro hc9
            replace hc9 := of_decide_eq_false hc9
            refine l_val (r_pick (v := .bool _) rfl rfl rfl) rfl rfl ?_
            refine l_val (r_move (v := .bool _) rfl rfl) rfl rfl ?_
            refine l_valG (r_fieldAddr 8 Try.underlying39 rfl tyC3.size rfl rfl rfl) (by kernel_rfl) rfl ?_
            refine l_loadCG hW 0 tyC3 (by kernel_rfl) rfl rfl rfl rfl rfl ?_
            refine l_valG (r_fieldAddr 9 Try.underlying39 rfl tyC3.size rfl rfl rfl) (by kernel_rfl) rfl ?_
            refine l_loadCG hW 0 tyC3 (by kernel_rfl) rfl rfl rfl rfl rfl ?_
            refine l_valG (r_max2 rfl rfl rfl) (by kernel_rfl) rfl ?_
            refine l_valG (r_gtr rfl rfl rfl rfl) (by kernel_rfl) rfl ?_
            refine l_split ?_ ?_
            · intro hc10
              replace hc10 := of_decide_eq_true hc10
              refine l_val (r_pick (v := .bool _) rfl rfl rfl) rfl rfl ?_
              refine l_val (r_move (v := .bool _) rfl rfl) rfl rfl ?_
              refine l_not (by kernel_rfl) rfl ?_
              refine l_not (by kernel_rfl) rfl ?_
              refine l_not (by kernel_rfl) rfl ?_
              refine l_val (r_pick (v := .bool _) rfl rfl rfl) rfl rfl ?_
              refine l_val (r_move (v := .bool _) rfl rfl) rfl rfl ?_
              refine l_not (by kernel_rfl) rfl ?_
              refine l_not (by kernel_rfl) rfl ?_
              refine l_not (by kernel_rfl) rfl ?_
              refine l_not (by kernel_rfl) rfl ?_
              refine l_not (by kernel_rfl) rfl ?_
              refine l_val (r_pick (v := .bool _) rfl rfl rfl) rfl rfl ?_
              refine l_end ?_
              refine n_then ?_
              refine c_true rfl ?_
              refine c_seq ?_
              refine c_reg ?_
              refine l_val (r_assign (v := .int _ _) rfl rfl) rfl rfl ?_
              refine l_end ?_
              refine n_then ?_
              refine c_ret ?_
              refine r_then ?_
              refine ret_tmp (v := .int .i64 (chkB b)) rfl ?_ ⟨rfl, hW.below⟩
              rw [chkB_n hs (by omega)]; rfl
            · intro hc10
              replace hc10 := of_decide_eq_false hc10
              refine l_val (r_pick (v := .bool _) rfl rfl rfl) rfl rfl ?_
              refine l_val (r_move (v := .bool _) rfl rfl) rfl rfl ?_
              refine l_valG (r_fieldAddr 26 Try.underlying39 rfl tyC3.size rfl rfl rfl) (by kernel_rfl) rfl ?_
              refine l_loadCG hW 0 tyC3 (by kernel_rfl) rfl rfl rfl rfl rfl ?_
              refine l_valG (r_gtr rfl rfl rfl rfl) (by kernel_rfl) rfl ?_
              refine l_split ?_ ?_
              · intro hc11
                replace hc11 := of_decide_eq_true hc11
                refine l_val (r_pick (v := .bool _) rfl rfl rfl) rfl rfl ?_
                refine l_val (r_move (v := .bool _) rfl rfl) rfl rfl ?_
                refine l_not (by kernel_rfl) rfl ?_
                refine l_not (by kernel_rfl) rfl ?_
                refine l_not (by kernel_rfl) rfl ?_
                refine l_not (by kernel_rfl) rfl ?_
                refine l_not (by kernel_rfl) rfl ?_
                refine l_val (r_pick (v := .bool _) rfl rfl rfl) rfl rfl ?_
                refine l_end ?_
                refine n_then ?_
                refine c_true rfl ?_
                refine c_seq ?_
                refine c_reg ?_
                refine l_val (r_assign (v := .int _ _) rfl rfl) rfl rfl ?_
                refine l_end ?_
                refine n_then ?_
                refine c_ret ?_
                refine r_then ?_
                refine ret_tmp (v := .int .i64 (chkB b)) rfl ?_ ⟨rfl, hW.below⟩
                rw [chkB_n hs (by omega)]; rfl
              · intro hc11
                replace hc11 := of_decide_eq_false hc11
                refine l_val (r_pick (v := .bool _) rfl rfl rfl) rfl rfl ?_
                refine l_val (r_move (v := .bool _) rfl rfl) rfl rfl ?_
                refine l_valG (r_fieldAddr 27 Try.underlying39 rfl tyC3.size rfl rfl rfl) (by kernel_rfl) rfl ?_
                refine l_loadCG hW 0 tyC3 (by kernel_rfl) rfl rfl rfl rfl rfl ?_
                refine l_valG (r_fieldAddr 26 Try.underlying39 rfl tyC3.size rfl rfl rfl) (by kernel_rfl) rfl ?_
                refine l_loadCG hW 0 tyC3 (by kernel_rfl) rfl rfl rfl rfl rfl ?_
                refine l_valG (r_gtr rfl rfl rfl rfl) (by kernel_rfl) rfl ?_
                refine l_split ?_ ?_
                · intro hc12
                  replace hc12 := of_decide_eq_true hc12
                  refine l_val (r_pick (v := .bool _) rfl rfl rfl) rfl rfl ?_
                  refine l_end ?_
                  refine n_then ?_
                  refine c_true rfl ?_
                  refine c_seq ?_
                  refine c_reg ?_
                  refine l_val (r_assign (v := .int _ _) rfl rfl) rfl rfl ?_
                  refine l_end ?_
                  refine n_then ?_
                  refine c_ret ?_
                  refine r_then ?_
                  refine ret_tmp (v := .int .i64 (chkB b)) rfl ?_ ⟨rfl, hW.below⟩
                  rw [chkB_n hs (by omega)]; rfl
                · intro hc12
                  replace hc12 := of_decide_eq_false hc12
                  refine l_val (r_pick (v := .bool _) rfl rfl rfl) rfl rfl ?_
                  refine l_end ?_
                  refine n_then ?_
                  refine c_false rfl ?_
                  refine c_skip ?_
                  refine n_then ?_
                  refine c_seq ?_
                  refine c_reg ?_
                  refine l_val (r_assign (v := .int _ _) rfl rfl) rfl rfl ?_
                  refine l_end ?_
                  refine n_then ?_
                  refine c_ret ?_
                  refine ret_tmp (v := .int .i64 (chkB b)) rfl ?_ ⟨rfl, hW.below⟩
                  rw [chkB_y hs (users_yes hn fun k hk => hx.2 k (by omega)) (by omega)]; rfl

end Go.Proofs.Ytoegpalacppllaa

/- Twins of boxes. -/
namespace Go.Proofs.Ytoegpalacppllaa
open Go.RowKit Pl
open Tr Hn
set_option maxRecDepth 10000 in
/-- headend/headendref08.TwinBox -/
theorem g_TwinBox (b : Bo) (t : Sl) (hl : b.l.length ≤ 100) : GivesX Try.prog 11 [.agg (boC b t).toArray].toArray (fun w => RdI w t b.l) (boX b) := by
  refine givesX_of Try.func11 rfl (bs := [.agg (boC b t).toArray, undef, undef, undef, undef, undef, undef, undef, undef]) rfl ?_
  intro w hP hW
  refine c_seq ?_
  refine c_reg ?_
  refine l_box hW rfl rfl rfl rfl ?_
  intro g1 W hW
  refine l_alloc hW tyZ39 rfl rfl rfl ?_
  intro g2 W hW
  refine l_end ?_
  refine n_then ?_
  refine c_seq ?_
  refine c_reg ?_
  refine l_buildSliceF hW bsl35_0_ rfl rfl rfl rfl ?_
  intro ge W hW
  refine l_val (r_fieldAddr 6 Try.underlying39 rfl tyC35.size rfl rfl rfl) rfl rfl ?_
  refine l_loadC hW 2 tyC35 rfl rfl rfl rfl rfl rfl ?_
  refine l_twin tyE35 hW (hP.past hW.below) (by omega) (by omega) rfl rfl rfl rfl rfl ?_
  intro s2 Bs W hN hW
  refine l_val (r_fieldAddr 6 Try.underlying39 rfl tyC35.size rfl rfl rfl) rfl rfl ?_
  refine l_storeC hW 2 tyC35 (v := s2.v) rfl rfl rfl rfl rfl rfl (by rw [boC_len]; decide) rfl ?_
  intro W hW
  replace hW := (show Cl _ ([⟨ge, [], _⟩, ⟨g2, z39, _⟩, ⟨g1, boC b s2, _⟩] ++ Bs) _ from hW)
  refine l_end ?_
  refine n_then ?_
  refine c_seq ?_
  refine c_reg ?_
  refine l_loadA hW 2 tyA39 rfl rfl rfl rfl rfl (by first | rfl | exact kc_len _ | exact kcf_len _ | exact boC_len _ _ | (simp; done)) ?_
  refine l_storeA hW 1 tyA39 rfl rfl rfl rfl rfl rfl rfl (boC_len b s2) (boC_one b s2) ?_
  intro W hW
  refine l_end ?_
  refine n_then ?_
  refine c_ret ?_
  refine ret_cell hW 1 tyA39 rfl rfl rfl (by first | rfl | exact kc_len _ | exact kcf_len _ | exact boC_len _ _ | (simp; done)) ?_
  exact ⟨_, _, rfl, ⟨s2, rfl, hN⟩, hW.drop 3⟩

set_option maxRecDepth 10000 in
/-- headend/headendref08.SameBox -/
theorem g_SameBox (b : Bo) (t u : Sl) (hl : b.l.length ≤ 100) : GivesR Try.prog 14 [.agg (boC b t).toArray, .agg (boC b u).toArray].toArray (fun w => RdI w t b.l ∧ RdI w u b.l) (.bool true) := by
  refine givesR_of Try.func14 rfl (bs := [.agg (boC b t).toArray, .agg (boC b u).toArray, undef, undef, undef, undef, undef, undef, undef, undef, undef, undef, undef, undef, undef, undef, undef, undef, undef, undef, undef, undef, undef, undef, undef, undef, undef, undef, undef, undef, undef, undef, undef, undef, undef, undef, undef, undef, undef, undef, undef, undef, undef, undef, undef, undef, undef, undef, undef, undef, undef, undef, undef, undef, undef, undef, undef, undef, undef]) rfl ?_
  intro w hP hW
  refine c_seq ?_
  refine c_reg ?_
  refine l_box hW rfl rfl rfl rfl ?_
  intro g1 W hW
  refine l_box hW rfl rfl rfl rfl ?_
  intro g2 W hW
  refine l_val (r_assign (v := .bool _) rfl rfl) rfl rfl ?_
  refine l_end ?_
  refine n_then ?_
  refine c_seq ?_
  refine c_reg ?_
  refine l_val (r_fieldAddr 0 Try.underlying39 rfl tyA26.size rfl rfl rfl) rfl rfl ?_
  refine l_loadP hW 1 tyA26 rfl rfl rfl rfl rfl (by first | rfl | omega | (simp; done) | (simp; omega)) rfl ?_
  refine l_val (r_fieldAddr 0 Try.underlying39 rfl tyA26.size rfl rfl rfl) rfl rfl ?_
  refine l_loadP hW 0 tyA26 rfl rfl rfl rfl rfl (by first | rfl | omega | (simp; done) | (simp; omega)) rfl ?_
  refine l_val (r_eqlS gd26 (eqS26 _ _ _ _ _ _ _ _ _ _ _ _) (c := true) rfl rfl rfl (decide_eq_true (by simp))) rfl rfl ?_
  refine l_val (r_move (v := .bool _) rfl rfl) rfl rfl ?_
  refine l_valG (r_fieldAddr 6 Try.underlying39 rfl tyC35.size rfl rfl rfl) (by kernel_rfl) rfl ?_
  refine l_loadCG hW 1 tyC35 (by kernel_rfl) rfl rfl rfl rfl rfl ?_
  refine l_valG (r_fieldAddr 6 Try.underlying39 rfl tyC35.size rfl rfl rfl) (by kernel_rfl) rfl ?_
  refine l_loadCG hW 0 tyC35 (by kernel_rfl) rfl rfl rfl rfl rfl ?_
  refine l_callRG hW (g_SameInts t.a t.n t.c b.l u.a u.n u.c b.l (by omega)) en26 ⟨hP.1.past hW.below, hP.2.past hW.below⟩ (by kernel_rfl) rfl rfl rfl ?_
  intro W hW
  rw [decide_eq_true rfl]
  refine l_val (r_pick (v := .bool _) rfl rfl rfl) rfl rfl ?_
  refine l_val (r_move (v := .bool _) rfl rfl) rfl rfl ?_
  refine l_valG (r_fieldAddr 7 Try.underlying39 rfl tyC5.size rfl rfl rfl) (by kernel_rfl) rfl ?_
  refine l_loadCG hW 1 tyC5 (by kernel_rfl) rfl rfl rfl rfl rfl ?_
  refine l_valG (r_fieldAddr 7 Try.underlying39 rfl tyC5.size rfl rfl rfl) (by kernel_rfl) rfl ?_
  refine l_loadCG hW 0 tyC5 (by kernel_rfl) rfl rfl rfl rfl rfl ?_
  refine l_valG (r_eql (b := true) rfl rfl rfl (decide_eq_true rfl)) (by kernel_rfl) rfl ?_
  refine l_val (r_pick (v := .bool _) rfl rfl rfl) rfl rfl ?_
  refine l_val (r_move (v := .bool _) rfl rfl) rfl rfl ?_
  refine l_valG (r_fieldAddr 8 Try.underlying39 rfl tyC3.size rfl rfl rfl) (by kernel_rfl) rfl ?_
  refine l_loadCG hW 1 tyC3 (by kernel_rfl) rfl rfl rfl rfl rfl ?_
  refine l_valG (r_fieldAddr 8 Try.underlying39 rfl tyC3.size rfl rfl rfl) (by kernel_rfl) rfl ?_
  refine l_loadCG hW 0 tyC3 (by kernel_rfl) rfl rfl rfl rfl rfl ?_
  refine l_valG (r_eql (b := true) rfl rfl rfl (decide_eq_true rfl)) (by kernel_rfl) rfl ?_
  refine l_val (r_pick (v := .bool _) rfl rfl rfl) rfl rfl ?_
  refine l_val (r_move (v := .bool _) rfl rfl) rfl rfl ?_
  refine l_valG (r_fieldAddr 9 Try.underlying39 rfl tyC3.size rfl rfl rfl) (by kernel_rfl) rfl ?_
  refine l_loadCG hW 1 tyC3 (by kernel_rfl) rfl rfl rfl rfl rfl ?_
  refine l_valG (r_fieldAddr 9 Try.underlying39 rfl tyC3.size rfl rfl rfl) (by kernel_rfl) rfl ?_
  refine l_loadCG hW 0 tyC3 (by kernel_rfl) rfl rfl rfl rfl rfl ?_
  refine l_valG (r_eql (b := true) rfl rfl rfl (decide_eq_true rfl)) (by kernel_rfl) rfl ?_
  refine l_val (r_pick (v := .bool _) rfl rfl rfl) rfl rfl ?_
  refine l_val (r_move (v := .bool _) rfl rfl) rfl rfl ?_
  refine l_valG (r_fieldAddr 10 Try.underlying39 rfl tyA37.size rfl rfl rfl) (by kernel_rfl) rfl ?_
  refine l_loadPG hW 1 tyA37 (by kernel_rfl) rfl rfl rfl rfl (by rw [boC_len]; decide) (boC_key b t) ?_
  refine l_valG (r_fieldAddr 10 Try.underlying39 rfl tyA37.size rfl rfl rfl) (by kernel_rfl) rfl ?_
  refine l_loadPG hW 0 tyA37 (by kernel_rfl) rfl rfl rfl rfl (by rw [boC_len]; decide) (boC_key b u) ?_
  refine l_valG (r_eqlK tyK37 _ _ (c := true) rfl rfl rfl (by simp)) (by kernel_rfl) rfl ?_
  refine l_val (r_pick (v := .bool _) rfl rfl rfl) rfl rfl ?_
  refine l_val (r_move (v := .bool _) rfl rfl) rfl rfl ?_
  refine l_valG (r_fieldAddr 26 Try.underlying39 rfl tyC3.size rfl rfl rfl) (by kernel_rfl) rfl ?_
  refine l_loadCG hW 1 tyC3 (by kernel_rfl) rfl rfl rfl rfl rfl ?_
  refine l_valG (r_fieldAddr 26 Try.underlying39 rfl tyC3.size rfl rfl rfl) (by kernel_rfl) rfl ?_
  refine l_loadCG hW 0 tyC3 (by kernel_rfl) rfl rfl rfl rfl rfl ?_
  refine l_valG (r_eql (b := true) rfl rfl rfl (decide_eq_true rfl)) (by kernel_rfl) rfl ?_
  refine l_val (r_pick (v := .bool _) rfl rfl rfl) rfl rfl ?_
  refine l_val (r_move (v := .bool _) rfl rfl) rfl rfl ?_
  refine l_valG (r_fieldAddr 27 Try.underlying39 rfl tyC3.size rfl rfl rfl) (by kernel_rfl) rfl ?_
  refine l_loadCG hW 1 tyC3 (by kernel_rfl) rfl rfl rfl rfl rfl ?_
  refine l_valG (r_fieldAddr 27 Try.underlying39 rfl tyC3.size rfl rfl rfl) (by kernel_rfl) rfl ?_
  refine l_loadCG hW 0 tyC3 (by kernel_rfl) rfl rfl rfl rfl rfl ?_
  refine l_valG (r_eql (b := true) rfl rfl rfl (decide_eq_true rfl)) (by kernel_rfl) rfl ?_
  refine l_val (r_pick (v := .bool _) rfl rfl rfl) rfl rfl ?_
  refine l_val (r_assign (v := .bool _) rfl rfl) rfl rfl ?_
  refine l_end ?_
  refine n_then ?_
  refine c_ret ?_
  refine ret_tmp (v := .bool true) rfl ?_ ⟨rfl, hW.below⟩
  rfl

end Go.Proofs.Ytoegpalacppllaa

/- A box after a query, and whether it plays. No function of the program is in sight here. -/
namespace Go.Proofs.Ytoegpalacppllaa.Tr
open Hn

/-- how many of the first open items are right, and how many are wrong; whether the first of them is right -/
def stp (o : List Bool) (f : Int) : Nat → Nat × Nat × Bool
  | 0 => (0, 0, false)
  | i + 1 => if o.getD i false then (if (i : Int) < f then ((stp o f i).1, (stp o f i).2.1 + 1, (stp o f i).2.2) else ((stp o f i).1 + 1, (stp o f i).2.1, (stp o f i).2.2 || decide ((stp o f i).2.1 + (stp o f i).1 = 0))) else stp o f i
theorem stp_no {o : List Bool} {f : Int} {i : Nat} (h : o.getD i false = false) : stp o f (i + 1) = stp o f i := by rw [stp, h]; rfl
theorem stp_wrong {o : List Bool} {f : Int} {i : Nat} (h : o.getD i false = true) (hf : (i : Int) < f) : stp o f (i + 1) = ((stp o f i).1, (stp o f i).2.1 + 1, (stp o f i).2.2) := by rw [stp, h, if_pos rfl, if_pos hf]
theorem stp_right {o : List Bool} {f : Int} {i : Nat} (h : o.getD i false = true) (hf : ¬ (i : Int) < f) : stp o f (i + 1) = ((stp o f i).1 + 1, (stp o f i).2.1, (stp o f i).2.2 || decide ((stp o f i).2.1 + (stp o f i).1 = 0)) := by rw [stp, h, if_pos rfl, if_neg hf]
theorem stp_le (o : List Bool) (f : Int) : ∀ i, (stp o f i).1 + (stp o f i).2.1 ≤ i
  | 0 => Nat.le_refl _
  | i + 1 => by
    have := stp_le o f i
    rw [stp]
    split
    · split <;> simp only <;> omega
    · omega
/-- the box after a query of which so many open items are right and so many are wrong -/
def after (b : Bo) (r w : Nat) : Bo := if 0 < r ∧ 0 < w then { b with a := b.a + 1, x := b.x + 1 } else { b with a := b.a + 1 }
def noiseB (b : Bo) : Bool := decide ((Pl.number b.k (BitVec.ofNat 64 (b.a.toNat / (b.n.toNat + 1))) (BitVec.ofNat 64 (b.n.toNat + 1))).toNat ≠ (BitVec.ofNat 64 (b.a.toNat % (b.n.toNat + 1))).toNat)
def oddB (b : Bo) (r w : Nat) : Bool := decide ((Pl.number b.k (BitVec.ofNat 64 (4294967296 + 64 * w + r)) 2#64) = 1#64)
/-- whether a box plays a query with wrong open items, by its mode -/
def playB (b : Bo) (r w : Nat) (fi : Bool) : Bool := if b.m = 1 then fi else if b.m = 3 then true else if b.m = 4 then oddB b r w else false
/-- whether a box plays -/
def askW (b : Bo) (r w : Nat) (fi : Bool) : Bool := if r = 0 ∨ (0 < b.v ∧ b.v < (after b r w).x) ∨ noiseB b = true then false else if w = 0 then true else playB b r w fi
theorem ask_no {b : Bo} {r w : Nat} {fi : Bool} (h : r = 0 ∨ (0 < b.v ∧ b.v < (after b r w).x) ∨ noiseB b = true) : askW b r w fi = false := if_pos h
theorem ask_y0 {b : Bo} {r w : Nat} {fi : Bool} (h : ¬ (r = 0 ∨ (0 < b.v ∧ b.v < (after b r w).x) ∨ noiseB b = true)) (hw : w = 0) : askW b r w fi = true := by rw [askW, if_neg h, if_pos hw]
theorem ask_w {b : Bo} {r w : Nat} {fi : Bool} (h : ¬ (r = 0 ∨ (0 < b.v ∧ b.v < (after b r w).x) ∨ noiseB b = true)) (hw : w ≠ 0) : askW b r w fi = playB b r w fi := by rw [askW, if_neg h, if_neg hw]
theorem play_1 {b : Bo} {r w : Nat} {fi : Bool} (h : b.m = 1) : playB b r w fi = fi := if_pos h
theorem play_3 {b : Bo} {r w : Nat} {fi : Bool} (h : b.m = 3) : playB b r w fi = true := by rw [playB, if_neg (by omega), if_pos h]
theorem play_4 {b : Bo} {r w : Nat} {fi : Bool} (h : b.m = 4) : playB b r w fi = oddB b r w := by rw [playB, if_neg (by omega), if_neg (by omega), if_pos h]
theorem play_2 {b : Bo} {r w : Nat} {fi : Bool} (h1 : b.m ≠ 1) (h3 : b.m ≠ 3) (h4 : b.m ≠ 4) : playB b r w fi = false := by rw [playB, if_neg h1, if_neg h3, if_neg h4]
theorem after_p {b : Bo} {r w : Nat} (h : 0 < r ∧ 0 < w) : after b r w = { b with a := b.a + 1, x := b.x + 1 } := if_pos h
theorem after_n {b : Bo} {r w : Nat} (h : ¬ (0 < r ∧ 0 < w)) : after b r w = { b with a := b.a + 1 } := if_neg h
theorem after_l (b : Bo) (r w : Nat) : (after b r w).l = b.l := by unfold after; split <;> rfl
/-- a box after a query, and whether it plays -/
def askd (b : Bo) (o : List Bool) (f : Int) : Bo := after b (stp o f o.length).1 (stp o f o.length).2.1
def plays (b : Bo) (o : List Bool) (f : Int) : Bool := askW b (stp o f o.length).1 (stp o f o.length).2.1 (stp o f o.length).2.2
/-- no box -/
def noBo : Bo := ⟨⟨0, 0, 0, 0, 0, 0⟩, [], 0, 0, 0, (0#64, 0#64), 0, 0⟩
/-- the error of a query; the box after it, and whether it plays -/
def askE (b : Bo) (l : List (Int × Int)) (f : Int) : Int := if chkB b ≠ 0 then chkB b else if subsE b.s l ≠ 0 then subsE b.s l else if f < 0 ∨ (l.length : Int) < f then 2 else if b.a = 100000 then 9 else 0
def askX (b : Bo) (l : List (Int × Int)) (f : Int) : Bo := if askE b l f = 0 then askd b (opens b l l.length) f else noBo
def askP (b : Bo) (l : List (Int × Int)) (f : Int) : Bool := if askE b l f = 0 then plays b (opens b l l.length) f else false
theorem askE_b {b : Bo} {l : List (Int × Int)} {f : Int} (h : chkB b ≠ 0) : askE b l f = chkB b := if_pos h
theorem askE_s {b : Bo} {l : List (Int × Int)} {f : Int} (h : ¬ chkB b ≠ 0) (h2 : subsE b.s l ≠ 0) : askE b l f = subsE b.s l := by rw [askE, if_neg h, if_pos h2]
theorem askE_f {b : Bo} {l : List (Int × Int)} {f : Int} (h : ¬ chkB b ≠ 0) (h2 : ¬ subsE b.s l ≠ 0) (h3 : f < 0 ∨ (l.length : Int) < f) : askE b l f = 2 := by rw [askE, if_neg h, if_neg h2, if_pos h3]
theorem askE_a {b : Bo} {l : List (Int × Int)} {f : Int} (h : ¬ chkB b ≠ 0) (h2 : ¬ subsE b.s l ≠ 0) (h3 : ¬ (f < 0 ∨ (l.length : Int) < f)) (h4 : b.a = 100000) : askE b l f = 9 := by rw [askE, if_neg h, if_neg h2, if_neg h3, if_pos h4]
theorem askE_0 {b : Bo} {l : List (Int × Int)} {f : Int} (h : ¬ chkB b ≠ 0) (h2 : ¬ subsE b.s l ≠ 0) (h3 : ¬ (f < 0 ∨ (l.length : Int) < f)) (h4 : b.a ≠ 100000) : askE b l f = 0 := by rw [askE, if_neg h, if_neg h2, if_neg h3, if_neg h4]
theorem askX_no {b : Bo} {l : List (Int × Int)} {f : Int} (h : askE b l f ≠ 0) : askX b l f = noBo ∧ askP b l f = false := ⟨if_neg h, if_neg h⟩
theorem askX_yes {b : Bo} {l : List (Int × Int)} {f : Int} (h : askE b l f = 0) : askX b l f = askd b (opens b l l.length) f ∧ askP b l f = plays b (opens b l l.length) f := ⟨if_pos h, if_pos h⟩
end Go.Proofs.Ytoegpalacppllaa.Tr
namespace Go.Proofs.Ytoegpalacppllaa
open Go.RowKit Pl Tr Hn
/-- the answer of a query -/
def askV (b : Bo) (l : List (Int × Int)) (f : Int) (v : Value) (Bs : List Blk) : Prop := ∃ s2 : Sl, v = .tuple #[.agg (boC (askX b l f) s2).toArray, .bool (askP b l f), .int .i64 (askE b l f)] ∧ NewI s2 (askX b l f).l Bs
theorem askV_no {b : Bo} {l : List (Int × Int)} {f e : Int} {cs : List Value} (h : askE b l f = e) (h0 : e ≠ 0) (hc : cs = boC noBo Sl.no) : askV b l f (.tuple #[.agg cs.toArray, .bool false, .int .i64 e]) [] := by
  obtain ⟨h1, h2⟩ := askX_no (show askE b l f ≠ 0 by rw [h]; exact h0)
  exact ⟨Sl.no, by rw [h1, h2, h, hc], by rw [h1]; exact NewI.no⟩
theorem askV_yes {b : Bo} {l : List (Int × Int)} {f : Int} {s2 : Sl} {Bs : List Blk} (h : askE b l f = 0) (hN : NewI s2 (askd b (opens b l l.length) f).l Bs) : askV b l f (.tuple #[.agg (boC (askd b (opens b l l.length) f) s2).toArray, .bool (plays b (opens b l l.length) f), .int .i64 0]) Bs := by
  obtain ⟨h1, h2⟩ := askX_yes h
  exact ⟨s2, by rw [h1, h2, h], by rw [h1]; exact hN⟩
/-- truths, as cells -/
def tl (l : List Bool) : List Value := l.map Value.bool
theorem tl_append (l m : List Bool) : tl (l ++ m) = tl l ++ tl m := by simp [tl]
theorem tl_len (l : List Bool) : (tl l).length = l.length := by simp [tl]
theorem tl_get {l : List Bool} {i : Nat} (h : i < l.length) : (tl l)[i]? = some (.bool (l.getD i false)) := by simp [tl, h]
/-- a slice that reads as these truths -/
def RdT (w : World) (s : Sl) (l : List Bool) : Prop := RdC w s l.length (tl l)
theorem RdT.past {w W : World} {s : Sl} {l : List Bool} (h : RdT w s l) (hb : Below w.heap.size w W) : RdT W s l := RdC.past h hb
theorem RdT.len {w : World} {s : Sl} {l : List Bool} (h : RdT w s l) : s.n = l.length := h.n
theorem RdT.ptr {w : World} {s : Sl} {l : List Bool} (h : RdT w s l) (hx : 0 < l.length) : ∃ b i, s.a = some ⟨b, i, none⟩ ∧ ∀ j, j < l.length → w.cell? ⟨b, i + j, none⟩ = some (.bool (l.getD j false)) := by
  obtain ⟨b, i, h1, h2⟩ := RdC.ptr h (by rw [tl_len]; exact hx)
  exact ⟨b, i, h1, fun j hj => h2 j _ (tl_get hj)⟩
theorem boC_setA (b : Bo) (t : Sl) (z : Int) : (boC b t).set 26 (.int .i64 z) = boC { b with a := z } t := rfl
theorem boC_setX (b : Bo) (t : Sl) (z : Int) : (boC b t).set 27 (.int .i64 z) = boC { b with x := z } t := rfl
theorem boC_setL (b : Bo) (t u : Sl) : (boC b t).set 6 u.v = boC b u := rfl
theorem OwnSl.repT {e : TypeId} {a : Option Addr} {n c : Nat} {l : List Bool} {Bs : List Blk} (hO : OwnSl e 1 a n c (tl l) Bs) : Rep Bs fun W => RdT W ⟨a, n, c⟩ l := fun b W hW => by
  have hn : n = l.length := by have := hO.1; rw [tl_len] at this; omega
  refine ⟨⟨?_, fun h => (hO.nilOf h).2⟩, hn, ?_⟩
  · rcases hO.2 with ⟨_, h1, h2, _⟩ | ⟨g, cur, _, _, h1, _⟩
    · simp [h1]
    · exact h1
  · exact OwnSl.rd (L := []) hO (by simpa using hW)
section
variable {P : Program} {fn : Func} {ops : Array Oper} {bs : List Value} {us : List (Nat × Value)} {ds : List Deferred} {w0 : Base} {W : World} {rest : List Oper} {o : Oper} {L : List Blk} {d : Nat} {v u : Value} {R' : Ending → World → Prop}
theorem ret_cell_tmp2 {p r s : Tmp} {t : TypeId} {n : Nat} {g : Nat} {cs : List Value} {ty : TypeId} (hW : Cl w0 L W) (q : Nat) (ht : TyA P t n) (hr : fn.results = #[.cell p t, .tmp r, .tmp s]) (hp : look bs us p = .pointer (some ⟨g, 0, none⟩)) (hL : L[q]? = some ⟨g, cs, ty⟩) (hn : cs.length = n) (hv : look bs us r = v) (hu : look bs us s = u)
    (h : R' (.returned (.tuple #[.agg cs.toArray, v, u])) W) : bodyPost P fn R' .ret (fr bs us []) W := by
  refine ⟨rfl, _, ?_, h⟩
  have h1 := run_load_agg ht W (hW.at q hL) (i := 0) (by simp only; omega)
  have h2 : (toL bs us).toArray.getD p undef = .pointer (some ⟨g, 0, none⟩) := by rw [nth_getD, ← look_nth]; exact hp
  have h3 : (toL bs us).toArray.getD r undef = v := by rw [nth_getD, ← look_nth]; exact hv
  have h4 : (toL bs us).toArray.getD s undef = u := by rw [nth_getD, ← look_nth]; exact hu
  have e : (cs.drop 0).take n = cs := by simp [← hn]
  rw [e] at h1
  show (results fn (toL bs us).toArray).run P W = _
  rw [Array.getD_eq_getD_getElem?] at h2 h3 h4
  simp at h2 h3 h4
  simp [results, hr, asAddr, h1, h2, h3, h4]
/-- a call that makes memory of its own and looks at what another maker has made -/
theorem y_callXd (i j : Nat) {S : List Nat} {ks : List Kd} {ms : List Mk} {V : List (List Value)} {R : Act → St → Prop} {T : List Oper → Act → St → Prop} {f : FuncId} {xs : Array Operand} {ts : Array TypeId} {X : Value → List Blk → Prop} {z zj : List Value} {kj : Mk} (he : Enters P f)
    (hk : ms[i]? = some ⟨d, fun _ => X⟩) (hV : V[i]? = some z) (hkj : ms[j]? = some kj) (hVj : V[j]? = some zj)
    (hgv : ∀ u Bs, kj.X zj u Bs → ∃ args Pre, GivesX P f (List.toArray args) Pre X ∧ (∀ M w, Cl w0 (M ++ Bs) w → Pre w) ∧ xs.toList.map (ev bs ((kj.d, u) :: us)) = args) (ho : o.op = .call { callee := .value (.func f), args := xs, argTypes := ts })
    (h : lx P ops w0 S ms R T ks rest (fr bs us ds) (L, V)) : lx P ops w0 S ms R T (.mkd i j :: ks) (o :: rest) (fr bs us ds) (L, V) :=
  y_mkd i j hk hV hkj hVj (fun u Bs L2 _ hx w hC => by
    obtain ⟨args, Pre, g, hp, ha⟩ := hgv u Bs hx
    refine .inr ⟨f, args.toArray, run_call he ho ha w, ?_⟩
    exact (g w (hp L2 w hC)).mono fun e w' ⟨v, Bs', he, hx, hc⟩ => ⟨v, he, Bs', hx, hC.beside hc⟩) h
end
end Go.Proofs.Ytoegpalacppllaa

/- What is open to a box, by the reference. -/
namespace Go.Proofs.Ytoegpalacppllaa
open Go.RowKit Pl
open Tr Hn
set_option maxRecDepth 10000 in
/-- headend/headendref08.Opens -/
theorem g_rOpens (b : Bo) (t : Sl) (ra : Option Addr) (rn rc : Nat) (l : List (Int × Int)) (hs : schB b.s = true) (hu : usersB b.l ((p2 b.s.d.toNat : Nat) : Int) = true) (hl : b.l.length ≤ 100) (hq : l.length ≤ 100) (hb : ∀ i, i < l.length → subB b.s (qn l i) (qm l i) = true) : GivesX Try.prog 44 [.agg (boC b t).toArray, .slice ra rn rc].toArray (fun w => RdI w t b.l ∧ RdB w ⟨ra, rn, rc⟩ l) (NewSl 4 1 l.length (tl (opens b l l.length))) := by
  refine givesX_of Try.func44 rfl (bs := [.agg (boC b t).toArray, .slice ra rn rc, undef, undef, undef, undef, undef, undef, undef, undef, undef, undef, undef, undef, undef, undef, undef, undef, undef, undef, undef, undef, undef, undef, undef, undef, undef, undef, undef, undef, undef, undef]) rfl ?_
  intro w hP hW
  have hn : rn = l.length := hP.2.len
  refine c_seq ?_
  refine c_reg ?_
  refine l_box hW rfl rfl rfl rfl ?_
  intro g1 W hW
  refine l_val (r_assign (v := .slice _ _ _) rfl rfl) rfl rfl ?_
  refine l_end ?_
  refine n_then ?_
  refine c_seq ?_
  refine c_reg ?_
  refine l_val (r_assign (v := .slice _ _ _) rfl rfl) rfl rfl ?_
  refine l_end ?_
  refine n_then ?_
  refine c_seq ?_
  refine c_seq ?_
  refine c_reg ?_
  refine l_val (r_assign (v := .int _ _) rfl rfl) rfl rfl ?_
  refine l_end ?_
  refine n_then ?_
  refine c_block ?_
  refine c_loop (fun (x : Nat × Option Addr × Nat × List Blk) (j : Nat → Value) => [.agg (boC b t).toArray, .slice ra rn rc, .pointer (some ⟨g1, 0, none⟩), j 3, j 4, .slice x.2.1 x.1 x.2.2.1, .int .i64 (x.1 : Int), j 7, j 8, j 9, j 10, j 11, j 12, j 13, j 14, j 15, j 16, j 17, j 18, j 19, j 20, j 21, j 22, j 23, j 24, j 25, j 26, j 27, j 28, j 29, j 30, j 31]) (fun (x : Nat × Option Addr × Nat × List Blk) => [⟨g1, (boC b t), 39⟩] ++ x.2.2.2) (fun (x : Nat × Option Addr × Nat × List Blk) => x.1 ≤ rn ∧ OwnSl 4 1 x.2.1 x.1 x.2.2.1 (tl (opens b l x.1)) x.2.2.2) (fun (x : Nat × Option Addr × Nat × List Blk) => rn - x.1) (0, none, 0, []) (by kernel_rfl) (by simpa using hW) ⟨Nat.zero_le _, OwnSl.nil 4 1⟩ ?_
  intro x j W hx hW
  obtain ⟨hx, hO⟩ := hx
  refine c_seq ?_
  refine c_seq ?_
  refine c_reg ?_
  refine l_val (r_move (v := .int _ _) rfl rfl) rfl rfl ?_
  refine l_val (r_move (v := .slice _ _ _) rfl rfl) rfl rfl ?_
  refine l_val (r_lenSlice Try.underlying40 rfl rfl) rfl rfl ?_
  refine l_val (r_lssN rfl rfl rfl rfl) rfl rfl ?_
  refine l_split ?_ ?_
  · intro hc1
    replace hc1 := of_decide_eq_true hc1
    obtain ⟨b0, o0, ha, hc⟩ := hP.2.ptr (by omega)
    simp only at ha
    subst ha
    refine l_end ?_
    refine n_then ?_
    refine c_true rfl ?_
    refine c_skip ?_
    refine n_then ?_
    refine c_seq ?_
    refine c_block ?_
    refine c_seq ?_
    refine c_regY hW [] [.q, .q, .q, .q, .q, .q, .q, .q, .q, .q, .q, .q, .q, .q] [0, 1, 0, 4, 0, 0, 48, 112, 255, 511, 1023, 1023, 2047, 8191] (by kernel_rfl) (by kernel_rfl) ?_
    refine y_val (r_fieldAddr 0 Try.underlying39 rfl tyA26.size rfl rfl rfl) rfl rfl ?_
    refine y_loadP 0 tyA26 rfl rfl rfl rfl rfl (by first | rfl | omega | (simp; done) | (simp; omega)) rfl (by decide) ?_
    refine y_val (r_fieldAddr 6 Try.underlying39 rfl tyC35.size rfl rfl rfl) rfl rfl ?_
    refine y_loadC 0 tyC35 rfl rfl rfl rfl rfl rfl (by decide) ?_
    refine y_val (r_move (v := .slice _ _ _) rfl rfl) rfl rfl ?_
    refine y_val (r_move (v := .int _ _) rfl rfl) rfl rfl ?_
    refine y_val (r_indexAddrSlB (n := x.1) Try.underlying40 tyA112.size rfl rfl rfl (by omega)) rfl rfl ?_
    refine y_loadF2 tyA112 (hc x.1 (by omega)).1 (hc x.1 (by omega)).2 (by kernel_rfl) rfl rfl rfl ?_
    refine y_callR (g_rKnows b.s t.a t.n t.c b.l (qn l x.1) (qm l x.1) hs hu (hb x.1 (by omega)) hl) en77 (fun L2 w hs hC => hP.1.past hC.below) (by kernel_rfl) rfl rfl rfl ?_
    refine y_val (r_move (v := .tuple _) rfl rfl) rfl rfl ?_
    refine y_val (r_extract (v := .bool _) rfl rfl rfl) rfl rfl ?_
    refine y_val (r_extract (v := .int _ _) rfl rfl rfl) rfl rfl ?_
    refine y_val (r_assign (v := .bool _) rfl rfl) rfl rfl ?_
    refine y_val (r_assign (v := .int _ _) rfl rfl) rfl rfl ?_
    refine y_end ?_
    intro W hW
    refine n_then ?_
    refine c_reg ?_
    refine l_val (r_move (v := .slice _ _ _) rfl rfl) rfl rfl ?_
    refine l_val (r_move (v := .bool _) rfl rfl) rfl rfl ?_
    refine l_buildSliceF hW (bsl92_1_0 _) rfl rfl rfl rfl ?_
    intro gb W hW
    refine l_appendB tyE92 (L := [_, _]) hO hW 0 (N := x.1 + 1) rfl rfl rfl rfl rfl rfl rfl rfl (by simp [Value.oneCell']) (by unfold maxLen; omega) (by omega) ?_
    intro a1 c1 Bs1 W hO1 hW
    replace hO1 := hO1.castx rfl (xs' := tl (opens b l (x.1 + 1))) (by rw [opens_succ, tl_append]; rfl)
    refine l_val (r_assign (v := .slice _ _ _) rfl rfl) rfl rfl ?_
    refine l_end ?_
    refine n_block ?_
    refine n_then ?_
    refine c_reg ?_
    refine l_val (r_move (v := .int _ _) rfl rfl) rfl rfl ?_
    refine l_val (r_addN (n := 1) rfl rfl rfl (by omega)) rfl rfl ?_
    refine l_val (r_assign (v := .int _ _) rfl rfl) rfl rfl ?_
    refine l_end ?_
    refine n_then ?_
    exact loop_next (x.1 + 1, a1, c1, Bs1) (by kernel_rfl) (hW.drop 1) ⟨by simp only; omega, hO1⟩ (by simp only; omega)
  · intro hc1
    replace hc1 := of_decide_eq_false hc1
    refine l_end ?_
    refine n_then ?_
    refine c_false rfl ?_
    refine c_exit ?_
    refine x_then ?_
    refine x_then ?_
    refine x_hit ?_
    refine n_then ?_
    refine c_seq ?_
    refine c_reg ?_
    refine l_val (r_move (v := .slice _ _ _) rfl rfl) rfl rfl ?_
    refine l_val (r_assign (v := .slice _ _ _) rfl rfl) rfl rfl ?_
    refine l_end ?_
    refine n_then ?_
    refine c_ret ?_
    refine ret_tmp (v := .slice _ _ _) rfl rfl ?_
    have e : x.1 = l.length := by omega
    exact ⟨_, _, rfl, ⟨_, _, by rw [e], by rw [← e]; exact hO⟩, hW.sub (List.sublist_append_right _ _)⟩

end Go.Proofs.Ytoegpalacppllaa

