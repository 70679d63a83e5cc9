/- For every box of at most 100 receivers, every list of at most 100 subsets and every number of fakes: whether the box is valid, the box after a query, and whether it plays, or the errors, by the program are those of the reference, and the box is not changed; no conditions. -/
import Derived.Test.YtoegpalacppllaaPkA4
import Derived.MapKept
import Derived.Test.YtoegpalacppllaaRows
/- Subsets, by the program. -/
namespace Go.Proofs.Ytoegpalacppllaa
open Go.RowKit Pl
open Tr Hn
theorem g_pbelowZZ (y : Int) (v : Int) (hy : 0 < y) (hy2 : y < 128) (hv : 0 < v) (hv2 : v < 128) : Gives Try.prog 137 [.int .i64 y, .int .i64 v].toArray (.bool (belowN y.toNat v.toNat)) := by
  obtain ⟨y', rfl⟩ : ∃ n : Nat, y = n := ⟨y.toNat, by omega⟩
  obtain ⟨v', rfl⟩ : ∃ n : Nat, v = n := ⟨v.toNat, by omega⟩
  exact g_pbelow y' v' (by omega) (by omega) (by omega) (by omega)
theorem g_pspecialZ (s : Sc) (v : Int) (hv : 0 < v) (hv2 : v < 128) : Gives Try.prog 138 [.agg [.int .u8 s.k, .int .i64 s.d, .int .i64 (strideN s.d : Int)].toArray, .int .i64 v].toArray (.bool (specN s.d v.toNat)) := by
  obtain ⟨v', rfl⟩ : ∃ n : Nat, v = n := ⟨v.toNat, by omega⟩
  exact g_pspecial s v' (by omega) (by omega)
theorem g_pcutZ (s : Sc) (v : Int) (z : Int) (hv : 0 < v) (hz : 0 < z) (hz2 : z < 128) (hb : belowN z.toNat v.toNat = true) (hne : z ≠ v) : Gives Try.prog 139 [.agg [.int .u8 s.k, .int .i64 s.d, .int .i64 (strideN s.d : Int)].toArray, .int .i64 v, .int .i64 z].toArray (.int .i64 ((bet s.d z.toNat (lev z.toNat - lev v.toNat - 1) : Nat) : Int)) := by
  obtain ⟨v', rfl⟩ : ∃ n : Nat, v = n := ⟨v.toNat, by omega⟩
  obtain ⟨z', rfl⟩ : ∃ n : Nat, z = n := ⟨z.toNat, by omega⟩
  have hlt : lev v' < lev z' := Nat.lt_of_le_of_ne (below_iff.1 (by simpa using hb)).1 fun e => by
    have h1 := (below_iff.1 (show belowN z' v' = true by simpa using hb)).2
    rw [e, Nat.sub_self] at h1
    exact hne (by rw [show z' = v' from h1])
  exact g_pcut s v' z' (by rcases Nat.lt_or_ge 1 z' with h | h; exact h; rw [lev_one h] at hlt; omega) (by omega) (by simpa using hb) hlt
set_option maxRecDepth 10000 in
/-- (headend/cover.tree).subset -/
theorem g_psubset (s : Sc) (v x : Int) (d0 : 0 ≤ s.d) (d6 : s.d ≤ 6) : Gives Try.prog 116 [.agg [.int .u8 s.k, .int .i64 s.d, .int .i64 (strideN s.d : Int)].toArray, .agg [.int .i64 v, .int .i64 x].toArray].toArray (.bool (subB s v x)) := by
  refine gives_of Try.func116 rfl (bs := [.agg [.int .u8 s.k, .int .i64 s.d, .int .i64 (strideN s.d : Int)].toArray, .agg [.int .i64 v, .int .i64 x].toArray, undef, undef, undef, undef, undef, undef, undef, undef, undef, undef, undef, undef, undef, undef, undef, undef, undef, undef, undef, undef, undef, undef, undef, undef, undef, undef, undef, undef, undef, undef, undef, undef, undef, undef, undef, undef, undef, undef, undef, undef, undef, undef, undef, undef, undef, undef, undef, undef, undef, undef, undef, undef, undef, undef, undef, undef, undef, undef, undef, undef, undef, undef, undef, undef, undef, undef]) rfl ?_
  intro w hW
  refine c_seq ?_
  refine c_reg ?_
  refine l_box hW rfl rfl rfl rfl ?_
  intro g1 W hW
  refine l_box hW rfl rfl rfl rfl ?_
  intro g2 W hW
  refine l_val (r_assign (v := .bool _) rfl rfl) rfl rfl ?_
  refine l_end ?_
  refine n_then ?_
  refine c_seq ?_
  refine c_regY hW [] [.q, .q, .q, .q, .q, .q] [0, 1, 0, 4, 3, 31] (by kernel_rfl) (by kernel_rfl) ?_
  refine y_val (r_fieldAddr 0 Try.underlying112 rfl tyC3.size rfl rfl rfl) rfl rfl ?_
  refine y_loadC 0 tyC3 rfl rfl rfl rfl rfl rfl (by decide) ?_
  refine y_val (r_fieldAddr 1 Try.underlying112 rfl tyC3.size rfl rfl rfl) rfl rfl ?_
  refine y_loadC 0 tyC3 rfl rfl rfl rfl rfl rfl (by decide) ?_
  refine y_val (r_assign (v := .int _ _) rfl rfl) rfl rfl ?_
  refine y_val (r_assign (v := .int _ _) rfl rfl) rfl rfl ?_
  refine y_end ?_
  intro W hW
  refine n_then ?_
  refine c_seq ?_
  refine c_block ?_
  refine c_seq ?_
  refine c_reg ?_
  refine l_loadA hW 1 tyA124 rfl rfl rfl rfl rfl (by first | rfl | exact kc_len _ | exact kcf_len _ | exact boC_len _ _ | (simp; done)) ?_
  refine l_val (r_fieldAddr 0 Try.underlying112 rfl tyC3.size rfl rfl rfl) rfl rfl ?_
  refine l_loadC hW 0 tyC3 rfl rfl rfl rfl rfl rfl ?_
  refine l_call hW (g_phas s _ (by omega) (by omega)) en136 rfl rfl rfl rfl ?_
  intro W hW
  refine l_split ?_ ?_
  · intro hc1
    have hv := node_lt hc1 d6
    refine l_val (r_not rfl rfl) rfl rfl ?_
    refine l_val (r_assign (v := .bool _) rfl rfl) rfl rfl ?_
    refine l_end ?_
    refine n_then ?_
    refine c_false rfl ?_
    refine c_seq ?_
    refine c_reg ?_
    refine l_val (r_fieldAddr 0 Try.underlying124 rfl tyC5.size rfl rfl rfl) rfl rfl ?_
    refine l_loadC hW 1 tyC5 rfl rfl rfl rfl rfl rfl ?_
    refine l_val (r_eql rfl rfl rfl rfl) rfl rfl ?_
    refine l_split ?_ ?_
    · intro hc2
      replace hc2 := of_decide_eq_true hc2
      refine l_val (r_move (v := .bool _) rfl rfl) rfl rfl ?_
      refine l_not (by kernel_rfl) rfl ?_
      refine l_not (by kernel_rfl) rfl ?_
      refine l_val (r_pick (v := .bool _) rfl rfl rfl) rfl rfl ?_
      refine l_val (r_assign (v := .bool _) rfl rfl) rfl rfl ?_
      refine l_end ?_
      refine n_then ?_
      refine c_true rfl ?_
      refine c_seq ?_
      refine c_reg ?_
      refine l_val (r_move (v := .int _ _) rfl rfl) rfl rfl ?_
      refine l_val (r_eql rfl rfl rfl rfl) rfl rfl ?_
      refine l_split ?_ ?_
      · intro hc3
        replace hc3 := of_decide_eq_true hc3
        refine l_val (r_move (v := .bool _) rfl rfl) rfl rfl ?_
        refine l_valG (r_fieldAddr 0 Try.underlying124 rfl tyC5.size rfl rfl rfl) (by kernel_rfl) rfl ?_
        refine l_loadCG hW 1 tyC5 (by kernel_rfl) rfl rfl rfl rfl rfl ?_
        refine l_valG (r_eql rfl rfl rfl rfl) (by kernel_rfl) rfl ?_
        refine l_split ?_ ?_
        · intro hc4
          replace hc4 := of_decide_eq_true hc4
          refine l_valG (r_move (v := .bool _) rfl rfl) (by kernel_rfl) rfl ?_
          refine l_not (by kernel_rfl) rfl ?_
          refine l_not (by kernel_rfl) rfl ?_
          refine l_valG (r_pick (v := .bool _) rfl rfl rfl) (by kernel_rfl) rfl ?_
          refine l_val (r_pick (v := .bool _) rfl rfl rfl) rfl rfl ?_
          refine l_val (r_assign (v := .bool _) rfl rfl) rfl rfl ?_
          refine l_end ?_
          refine n_then ?_
          refine c_ret ?_
          refine r_block ?_
          refine r_then ?_
          refine ret_tmp (v := .bool (subB s v x)) rfl ?_ ⟨rfl, hW.below⟩
          exact congrArg Value.bool (by rw [sub_k1 hc1 (by omega), decide_eq_true (by omega)])
        · intro hc4
          replace hc4 := of_decide_eq_false hc4
          refine l_valG (r_move (v := .bool _) rfl rfl) (by kernel_rfl) rfl ?_
          refine l_valG (r_move (v := .int _ _) rfl rfl) (by kernel_rfl) rfl ?_
          refine l_valG (r_eql rfl rfl rfl rfl) (by kernel_rfl) rfl ?_
          refine l_valG (r_pick (v := .bool _) rfl rfl rfl) (by kernel_rfl) rfl ?_
          refine l_val (r_pick (v := .bool _) rfl rfl rfl) rfl rfl ?_
          refine l_val (r_assign (v := .bool _) rfl rfl) rfl rfl ?_
          refine l_end ?_
          refine n_then ?_
          refine c_ret ?_
          refine r_block ?_
          refine r_then ?_
          refine ret_tmp (v := .bool (subB s v x)) rfl ?_ ⟨rfl, hW.below⟩
          exfalso; omega
      · intro hc3
        replace hc3 := of_decide_eq_false hc3
        refine l_val (r_move (v := .bool _) rfl rfl) rfl rfl ?_
        refine l_not (by kernel_rfl) rfl ?_
        refine l_not (by kernel_rfl) rfl ?_
        refine l_not (by kernel_rfl) rfl ?_
        refine l_not (by kernel_rfl) rfl ?_
        refine l_not (by kernel_rfl) rfl ?_
        refine l_not (by kernel_rfl) rfl ?_
        refine l_not (by kernel_rfl) rfl ?_
        refine l_val (r_pick (v := .bool _) rfl rfl rfl) rfl rfl ?_
        refine l_val (r_assign (v := .bool _) rfl rfl) rfl rfl ?_
        refine l_end ?_
        refine n_then ?_
        refine c_ret ?_
        refine r_block ?_
        refine r_then ?_
        refine ret_tmp (v := .bool (subB s v x)) rfl ?_ ⟨rfl, hW.below⟩
        exact congrArg Value.bool (by rw [sub_k1 hc1 (by omega), decide_eq_false (by omega)])
    · intro hc2
      replace hc2 := of_decide_eq_false hc2
      refine l_val (r_move (v := .bool _) rfl rfl) rfl rfl ?_
      refine l_valG (r_move (v := .int _ _) rfl rfl) (by kernel_rfl) rfl ?_
      refine l_valG (r_eql rfl rfl rfl rfl) (by kernel_rfl) rfl ?_
      refine l_split ?_ ?_
      · intro hc5
        replace hc5 := of_decide_eq_true hc5
        refine l_val (r_pick (v := .bool _) rfl rfl rfl) rfl rfl ?_
        refine l_val (r_assign (v := .bool _) rfl rfl) rfl rfl ?_
        refine l_end ?_
        refine n_then ?_
        refine c_true rfl ?_
        refine c_seq ?_
        refine c_reg ?_
        refine l_val (r_move (v := .int _ _) rfl rfl) rfl rfl ?_
        refine l_val (r_eql rfl rfl rfl rfl) rfl rfl ?_
        refine l_split ?_ ?_
        · intro hc6
          replace hc6 := of_decide_eq_true hc6
          refine l_val (r_move (v := .bool _) rfl rfl) rfl rfl ?_
          refine l_valG (r_fieldAddr 0 Try.underlying124 rfl tyC5.size rfl rfl rfl) (by kernel_rfl) rfl ?_
          refine l_loadCG hW 1 tyC5 (by kernel_rfl) rfl rfl rfl rfl rfl ?_
          refine l_valG (r_eql rfl rfl rfl rfl) (by kernel_rfl) rfl ?_
          refine l_split ?_ ?_
          · intro hc7
            replace hc7 := of_decide_eq_true hc7
            refine l_valG (r_move (v := .bool _) rfl rfl) (by kernel_rfl) rfl ?_
            refine l_not (by kernel_rfl) rfl ?_
            refine l_not (by kernel_rfl) rfl ?_
            refine l_valG (r_pick (v := .bool _) rfl rfl rfl) (by kernel_rfl) rfl ?_
            refine l_val (r_pick (v := .bool _) rfl rfl rfl) rfl rfl ?_
            refine l_val (r_assign (v := .bool _) rfl rfl) rfl rfl ?_
            refine l_end ?_
            refine n_then ?_
            refine c_ret ?_
            refine r_block ?_
            refine r_then ?_
            refine ret_tmp (v := .bool (subB s v x)) rfl ?_ ⟨rfl, hW.below⟩
            exfalso; omega
          · intro hc7
            replace hc7 := of_decide_eq_false hc7
            refine l_valG (r_move (v := .bool _) rfl rfl) (by kernel_rfl) rfl ?_
            refine l_valG (r_move (v := .int _ _) rfl rfl) (by kernel_rfl) rfl ?_
            refine l_valG (r_eql rfl rfl rfl rfl) (by kernel_rfl) rfl ?_
            refine l_valG (r_pick (v := .bool _) rfl rfl rfl) (by kernel_rfl) rfl ?_
            refine l_val (r_pick (v := .bool _) rfl rfl rfl) rfl rfl ?_
            refine l_val (r_assign (v := .bool _) rfl rfl) rfl rfl ?_
            refine l_end ?_
            refine n_then ?_
            refine c_ret ?_
            refine r_block ?_
            refine r_then ?_
            refine ret_tmp (v := .bool (subB s v x)) rfl ?_ ⟨rfl, hW.below⟩
            exact congrArg Value.bool (sub_w0 hc1 (by omega) (by omega)).symm
        · intro hc6
          replace hc6 := of_decide_eq_false hc6
          refine l_val (r_move (v := .bool _) rfl rfl) rfl rfl ?_
          refine l_not (by kernel_rfl) rfl ?_
          refine l_not (by kernel_rfl) rfl ?_
          refine l_not (by kernel_rfl) rfl ?_
          refine l_not (by kernel_rfl) rfl ?_
          refine l_not (by kernel_rfl) rfl ?_
          refine l_not (by kernel_rfl) rfl ?_
          refine l_not (by kernel_rfl) rfl ?_
          refine l_val (r_pick (v := .bool _) rfl rfl rfl) rfl rfl ?_
          refine l_val (r_assign (v := .bool _) rfl rfl) rfl rfl ?_
          refine l_end ?_
          refine n_then ?_
          refine c_ret ?_
          refine r_block ?_
          refine r_then ?_
          refine ret_tmp (v := .bool (subB s v x)) rfl ?_ ⟨rfl, hW.below⟩
          exfalso; omega
      · intro hc5
        replace hc5 := of_decide_eq_false hc5
        refine l_val (r_pick (v := .bool _) rfl rfl rfl) rfl rfl ?_
        refine l_val (r_assign (v := .bool _) rfl rfl) rfl rfl ?_
        refine l_end ?_
        refine n_then ?_
        refine c_false rfl ?_
        refine c_seq ?_
        refine c_reg ?_
        refine l_loadA hW 1 tyA124 rfl rfl rfl rfl rfl (by first | rfl | exact kc_len _ | exact kcf_len _ | exact boC_len _ _ | (simp; done)) ?_
        refine l_val (r_fieldAddr 1 Try.underlying112 rfl tyC3.size rfl rfl rfl) rfl rfl ?_
        refine l_loadC hW 0 tyC3 rfl rfl rfl rfl rfl rfl ?_
        refine l_call hW (g_phas s _ (by omega) (by omega)) en136 rfl rfl rfl rfl ?_
        intro W hW
        refine l_split ?_ ?_
        · intro hc8
          have hx := node_lt hc8 d6
          refine l_val (r_not rfl rfl) rfl rfl ?_
          refine l_val (r_move (v := .bool _) rfl rfl) rfl rfl ?_
          refine l_valG (r_move (v := .int _ _) rfl rfl) (by kernel_rfl) rfl ?_
          refine l_valG (r_move (v := .int _ _) rfl rfl) (by kernel_rfl) rfl ?_
          refine l_valG (r_eql rfl rfl rfl rfl) (by kernel_rfl) rfl ?_
          refine l_split ?_ ?_
          · intro hc9
            replace hc9 := of_decide_eq_true hc9
            refine l_val (r_pick (v := .bool _) rfl rfl rfl) rfl rfl ?_
            refine l_val (r_move (v := .bool _) rfl rfl) rfl rfl ?_
            refine l_not (by kernel_rfl) rfl ?_
            refine l_not (by kernel_rfl) rfl ?_
            refine l_not (by kernel_rfl) rfl ?_
            refine l_not (by kernel_rfl) rfl ?_
            refine l_val (r_pick (v := .bool _) rfl rfl rfl) rfl rfl ?_
            refine l_val (r_assign (v := .bool _) rfl rfl) rfl rfl ?_
            refine l_end ?_
            refine n_then ?_
            refine c_true rfl ?_
            refine c_seq ?_
            refine c_reg ?_
            refine l_val (r_assign (v := .bool _) rfl rfl) rfl rfl ?_
            refine l_end ?_
            refine n_then ?_
            refine c_ret ?_
            refine r_block ?_
            refine r_then ?_
            refine ret_tmp (v := .bool (subB s v x)) rfl ?_ ⟨rfl, hW.below⟩
            exact congrArg Value.bool (sub_no hc1 (by omega) (by omega) (.inr (.inl (by omega)))).symm
          · intro hc9
            replace hc9 := of_decide_eq_false hc9
            refine l_val (r_pick (v := .bool _) rfl rfl rfl) rfl rfl ?_
            refine l_val (r_move (v := .bool _) rfl rfl) rfl rfl ?_
            refine l_valG (r_move (v := .int _ _) rfl rfl) (by kernel_rfl) rfl ?_
            refine l_valG (r_move (v := .int _ _) rfl rfl) (by kernel_rfl) rfl ?_
            refine l_callG hW (g_pbelowZZ x v (by omega) (by omega) (by omega) (by omega)) en137 (by kernel_rfl) rfl rfl rfl ?_
            intro W hW
            refine l_split ?_ ?_
            · intro hc10
              refine l_valG (r_not rfl rfl) (by kernel_rfl) rfl ?_
              refine l_val (r_pick (v := .bool _) rfl rfl rfl) rfl rfl ?_
              refine l_val (r_assign (v := .bool _) rfl rfl) rfl rfl ?_
              refine l_end ?_
              refine n_then ?_
              refine c_false rfl ?_
              refine c_skip ?_
              refine n_block ?_
              refine n_then ?_
              refine c_seq ?_
              refine c_reg ?_
              refine l_val (r_fieldAddr 0 Try.underlying124 rfl tyC5.size rfl rfl rfl) rfl rfl ?_
              refine l_loadC hW 1 tyC5 rfl rfl rfl rfl rfl rfl ?_
              refine l_val (r_eql rfl rfl rfl rfl) rfl rfl ?_
              refine l_split ?_ ?_
              · intro hc11
                replace hc11 := of_decide_eq_true hc11
                refine l_val (r_move (v := .bool _) rfl rfl) rfl rfl ?_
                refine l_not (by kernel_rfl) rfl ?_
                refine l_not (by kernel_rfl) rfl ?_
                refine l_not (by kernel_rfl) rfl ?_
                refine l_val (r_pick (v := .bool _) rfl rfl rfl) rfl rfl ?_
                refine l_val (r_move (v := .bool _) rfl rfl) rfl rfl ?_
                refine l_not (by kernel_rfl) rfl ?_
                refine l_not (by kernel_rfl) rfl ?_
                refine l_not (by kernel_rfl) rfl ?_
                refine l_not (by kernel_rfl) rfl ?_
                refine l_not (by kernel_rfl) rfl ?_
                refine l_val (r_pick (v := .bool _) rfl rfl rfl) rfl rfl ?_
                refine l_val (r_assign (v := .bool _) rfl rfl) rfl rfl ?_
                refine l_end ?_
                refine n_then ?_
                refine c_ret ?_
                refine ret_tmp (v := .bool (subB s v x)) rfl ?_ ⟨rfl, hW.below⟩
                rw [sub_end hc1 (by omega) (by omega) hc8 (by omega) hc10]
                rw [decide_eq_true (show s.k = 2 by omega)]; rfl
              · intro hc11
                replace hc11 := of_decide_eq_false hc11
                refine l_val (r_move (v := .bool _) rfl rfl) rfl rfl ?_
                refine l_loadAG hW 1 tyA124 (by kernel_rfl) rfl rfl rfl rfl (by first | rfl | exact kc_len _ | exact kcf_len _ | exact boC_len _ _ | (simp; done)) ?_
                refine l_valG (r_move (v := .int _ _) rfl rfl) (by kernel_rfl) rfl ?_
                refine l_callG hW (g_pspecialZ s v (by omega) (by omega)) en138 (by kernel_rfl) rfl rfl rfl ?_
                intro W hW
                refine l_split ?_ ?_
                · intro hc12
                  refine l_val (r_pick (v := .bool _) rfl rfl rfl) rfl rfl ?_
                  refine l_val (r_move (v := .bool _) rfl rfl) rfl rfl ?_
                  refine l_not (by kernel_rfl) rfl ?_
                  refine l_not (by kernel_rfl) rfl ?_
                  refine l_not (by kernel_rfl) rfl ?_
                  refine l_not (by kernel_rfl) rfl ?_
                  refine l_not (by kernel_rfl) rfl ?_
                  refine l_val (r_pick (v := .bool _) rfl rfl rfl) rfl rfl ?_
                  refine l_val (r_assign (v := .bool _) rfl rfl) rfl rfl ?_
                  refine l_end ?_
                  refine n_then ?_
                  refine c_ret ?_
                  refine ret_tmp (v := .bool (subB s v x)) rfl ?_ ⟨rfl, hW.below⟩
                  rw [sub_end hc1 (by omega) (by omega) hc8 (by omega) hc10]
                  rw [hc12, Bool.or_true]; rfl
                · intro hc12
                  refine l_val (r_pick (v := .bool _) rfl rfl rfl) rfl rfl ?_
                  refine l_val (r_move (v := .bool _) rfl rfl) rfl rfl ?_
                  refine l_loadAG hW 1 tyA124 (by kernel_rfl) rfl rfl rfl rfl (by first | rfl | exact kc_len _ | exact kcf_len _ | exact boC_len _ _ | (simp; done)) ?_
                  refine l_valG (r_move (v := .int _ _) rfl rfl) (by kernel_rfl) rfl ?_
                  refine l_valG (r_move (v := .int _ _) rfl rfl) (by kernel_rfl) rfl ?_
                  refine l_callG hW (g_pcutZ s v x (by omega) (by omega) (by omega) hc10 (by omega)) en139 (by kernel_rfl) rfl rfl rfl ?_
                  intro W hW
                  refine l_valG (r_eqlN (n := 0) rfl rfl rfl rfl) (by kernel_rfl) rfl ?_
                  refine l_val (r_pick (v := .bool _) rfl rfl rfl) rfl rfl ?_
                  refine l_val (r_assign (v := .bool _) rfl rfl) rfl rfl ?_
                  refine l_end ?_
                  refine n_then ?_
                  refine c_ret ?_
                  refine ret_tmp (v := .bool (subB s v x)) rfl ?_ ⟨rfl, hW.below⟩
                  rw [sub_end hc1 (by omega) (by omega) hc8 (by omega) hc10]
                  rw [decide_eq_false (show ¬ s.k = 2 by omega), hc12]
                  exact congrArg Value.bool (by rw [Bool.eq_iff_iff]; simp)
            · intro hc10
              refine l_valG (r_not rfl rfl) (by kernel_rfl) rfl ?_
              refine l_val (r_pick (v := .bool _) rfl rfl rfl) rfl rfl ?_
              refine l_val (r_assign (v := .bool _) rfl rfl) rfl rfl ?_
              refine l_end ?_
              refine n_then ?_
              refine c_true rfl ?_
              refine c_seq ?_
              refine c_reg ?_
              refine l_val (r_assign (v := .bool _) rfl rfl) rfl rfl ?_
              refine l_end ?_
              refine n_then ?_
              refine c_ret ?_
              refine r_block ?_
              refine r_then ?_
              refine ret_tmp (v := .bool (subB s v x)) rfl ?_ ⟨rfl, hW.below⟩
              exact congrArg Value.bool (sub_no hc1 (by omega) (by omega) (.inr (.inr hc10))).symm
        · intro hc8
          refine l_val (r_not rfl rfl) rfl rfl ?_
          refine l_val (r_move (v := .bool _) rfl rfl) rfl rfl ?_
          refine l_not (by kernel_rfl) rfl ?_
          refine l_not (by kernel_rfl) rfl ?_
          refine l_not (by kernel_rfl) rfl ?_
          refine l_val (r_pick (v := .bool _) rfl rfl rfl) rfl rfl ?_
          refine l_val (r_move (v := .bool _) rfl rfl) rfl rfl ?_
          refine l_not (by kernel_rfl) rfl ?_
          refine l_not (by kernel_rfl) rfl ?_
          refine l_not (by kernel_rfl) rfl ?_
          refine l_not (by kernel_rfl) rfl ?_
          refine l_val (r_pick (v := .bool _) rfl rfl rfl) rfl rfl ?_
          refine l_val (r_assign (v := .bool _) rfl rfl) rfl rfl ?_
          refine l_end ?_
          refine n_then ?_
          refine c_true rfl ?_
          refine c_seq ?_
          refine c_reg ?_
          refine l_val (r_assign (v := .bool _) rfl rfl) rfl rfl ?_
          refine l_end ?_
          refine n_then ?_
          refine c_ret ?_
          refine r_block ?_
          refine r_then ?_
          refine ret_tmp (v := .bool (subB s v x)) rfl ?_ ⟨rfl, hW.below⟩
          exact congrArg Value.bool (sub_no hc1 (by omega) (by omega) (.inl hc8)).symm
  · intro hc1
    refine l_val (r_not rfl rfl) rfl rfl ?_
    refine l_val (r_assign (v := .bool _) rfl rfl) rfl rfl ?_
    refine l_end ?_
    refine n_then ?_
    refine c_true rfl ?_
    refine c_seq ?_
    refine c_reg ?_
    refine l_val (r_assign (v := .bool _) rfl rfl) rfl rfl ?_
    refine l_end ?_
    refine n_then ?_
    refine c_ret ?_
    refine r_block ?_
    refine r_then ?_
    refine ret_tmp (v := .bool (subB s v x)) rfl ?_ ⟨rfl, hW.below⟩
    exact congrArg Value.bool (sub_no1 hc1).symm

end Go.Proofs.Ytoegpalacppllaa

/- Lists of members, in memory; what a tree is entered with. No function of the program is in sight here. -/
namespace Go.Proofs.Ytoegpalacppllaa.Tr
open Hn
/-- the error of entering the tree of a valid scheme with some subsets -/
def entE (s : Sc) (l : List (Int × Int)) : Int := if (List.range l.length).all (fun i => subB s (qn l i) (qm l i)) then 0 else 31
theorem entE_no {s : Sc} {l : List (Int × Int)} {i : Nat} (hi : i < l.length) (hb : subB s (qn l i) (qm l i) = false) : entE s l = 31 := by
  rw [entE, if_neg]
  intro e
  have := List.all_eq_true.1 e i (List.mem_range.2 hi)
  simp only [hb] at this
  cases this
theorem entE_yes {s : Sc} {l : List (Int × Int)} (hb : ∀ i, i < l.length → subB s (qn l i) (qm l i) = true) : entE s l = 0 := if_pos (List.all_eq_true.2 fun i hi => hb i (List.mem_range.1 hi))
theorem entE_one (s : Sc) (v x : Int) : entE s [(v, x)] = if subB s v x then 0 else 31 := by
  cases h : subB s v x with
  | true =>
    refine entE_yes fun i hi => ?_
    obtain rfl : i = 0 := by simpa using hi
    exact h
  | false => exact entE_no (i := 0) (by simp) h
theorem sub_x {s : Sc} {v x : Int} (hs : s.d ≤ 6) (h : subB s v x = true) : 1 ≤ v ∧ v < 128 ∧ 0 ≤ x ∧ x < 128 := by
  obtain ⟨h1, h2, h3, h4⟩ := sub_parts h
  have hv := node_lt h1 hs
  by_cases hx : x = 0
  · omega
  · have hk : s.k ≠ 1 := fun e => hx (h2 e)
    have := node_lt (h4 hk hx).1 hs
    omega
/-- the members of each of some subsets -/
def mems (s : Sc) (l : List (Int × Int)) : List (List Int) := l.map fun x => membersN s x.1 x.2 (p2 s.d.toNat)
theorem mems_get {s : Sc} {l : List (Int × Int)} {i : Nat} (hi : i < l.length) : (mems s l)[i]? = some (membersN s (qn l i) (qm l i) (p2 s.d.toNat)) := by
  simp [mems, qn, qm, List.getD_eq_getElem?_getD, hi]
theorem mems_len (s : Sc) (l : List (Int × Int)) : (mems s l).length = l.length := by simp [mems]
end Go.Proofs.Ytoegpalacppllaa.Tr
namespace Go.Proofs.Ytoegpalacppllaa
open Go.RowKit Pl Tr Hn
/-- the tree with which a valid scheme is entered -/
def entT (s : Sc) (l : List (Int × Int)) : List Value := if entE s l = 0 then [.int .u8 s.k, .int .i64 s.d, .int .i64 (strideN s.d : Int)] else [.int .u8 0, .int .i64 0, .int .i64 0]
theorem entT_no {s : Sc} {l : List (Int × Int)} (h : entE s l = 31) : entT s l = [.int .u8 0, .int .i64 0, .int .i64 0] := if_neg (by rw [h]; decide)
theorem entT_yes {s : Sc} {l : List (Int × Int)} (h : entE s l = 0) : entT s l = [.int .u8 s.k, .int .i64 s.d, .int .i64 (strideN s.d : Int)] := if_pos h
theorem entT_len (s : Sc) (l : List (Int × Int)) : (entT s l).length = 3 := by unfold entT; split <;> rfl
theorem entT_one (s : Sc) (l : List (Int × Int)) : ∀ v ∈ entT s l, v.oneCell' = true := by
  unfold entT
  split <;> (intro v hv; simp at hv; rcases hv with rfl | rfl | rfl <;> rfl)
/-- one subset, in a row -/
theorem RdB.one {w0 : Base} {W : World} {L : List Blk} (hW : Cl w0 L W) (p : Nat) {g : Nat} {ty : TypeId} {v x : Int} (hp : L[p]? = some ⟨g, [.int .i64 v, .int .i64 x], ty⟩) : RdB W ⟨some ⟨g, 0, none⟩, 1, 1⟩ [(v, x)] :=
  ⟨⟨Nat.le_refl _, fun h => by cases h⟩, rfl, hW.rd (g := g) (cs := [.int .i64 v, .int .i64 x]) p hp 0 2 rfl⟩
theorem NewSs.one {ss : List Sl} {ps : List (List Int)} {N M K : List Blk} {s0 : Sl} {l0 : List Int} (h : NewSs ss ps N) (f0 : ps[ss.length]? = some l0) (n0 : NewI s0 l0 M) (h1 : List.Sublist N K) (h2 : List.Sublist M K) : NewSs (ss ++ [s0]) ps K := fun k s hk => by
  rcases Nat.lt_or_ge k ss.length with hlt | hge
  · rw [List.getElem?_append_left hlt] at hk
    obtain ⟨l, a, b⟩ := h k s hk
    exact ⟨l, a, b.sub h1⟩
  · rw [List.getElem?_append_right hge] at hk
    have e : k = ss.length := by
      apply Classical.byContradiction
      intro hn
      rw [List.getElem?_eq_none (by simp; omega)] at hk
      cases hk
    subst e
    simp only [Nat.sub_self, List.getElem?_cons_zero, Option.some.injEq] at hk
    subst hk
    exact ⟨l0, f0, n0.sub h2⟩
/-- a row of lists of the call's own -/
theorem RdG.of {e : TypeId} {a : Option Addr} {n c : Nat} {ss : List Sl} {gs : List (List Int)} {R N K : List Blk} (hO : OwnSl e 1 a n c (ss.map Sl.v) R) (hN : NewSs ss gs N) (hl : ss.length = gs.length) (h1 : List.Sublist R K) (h2 : List.Sublist N K) : Rep K fun W => RdG W ⟨a, n, c⟩ ss gs := fun b W hW => by
  have hn : n = ss.length := by have := hO.1; rw [List.length_map] at this; omega
  refine ⟨⟨⟨?_, fun h => (hO.nilOf h).2⟩, rfl, OwnSl.rd (L := []) hO (by simpa using hW.sub h1)⟩, hn, hl, fun i t l ht hg => ?_⟩
  · rcases hO.2 with ⟨_, h1, h2, _⟩ | ⟨g, cur, _, _, h1, _⟩
    · simp [h1]
    · exact h1
  · obtain ⟨l', hl', hn'⟩ := hN i t ht
    rw [hg] at hl'
    injection hl' with hl'
    subst hl'
    exact hn'.rep.at hW h2
theorem permS {α : Type} {a : α} {X R N M : List α} : (a :: ((X ++ (R ++ N)) ++ M)).Perm ((a :: (X ++ (N ++ M))) ++ R) := by
  show (a :: ((X ++ (R ++ N)) ++ M)).Perm (a :: ((X ++ (N ++ M)) ++ R))
  refine List.Perm.cons _ ?_
  rw [List.append_assoc, List.append_assoc X, List.append_assoc]
  exact List.Perm.append_left _ List.perm_append_comm
end Go.Proofs.Ytoegpalacppllaa

/- Members of subsets, by the program. -/
namespace Go.Proofs.Ytoegpalacppllaa
open Go.RowKit Pl
open Tr Hn
set_option maxRecDepth 10000 in
/-- headend/cover.enter -/
theorem g_enter (s : Sc) (ra : Option Addr) (rn rc : Nat) (l : List (Int × Int)) (hs : schB s = true) (hq : l.length ≤ 100) : GivesR Try.prog 84 [.agg [.int .u8 s.k, .int .i64 s.d, .int .i64 s.g, .int .u64 s.p, .int .u64 s.q, .int .u64 s.r].toArray, .slice ra rn rc].toArray (fun w => RdB w ⟨ra, rn, rc⟩ l) (.tuple #[.agg (entT s l).toArray, .int .i64 (entE s l)]) := by
  refine givesR_of Try.func84 rfl (bs := [.agg [.int .u8 s.k, .int .i64 s.d, .int .i64 s.g, .int .u64 s.p, .int .u64 s.q, .int .u64 s.r].toArray, .slice ra rn rc, undef, undef, undef, undef, undef, undef, undef, undef, undef, undef, undef, undef, undef, undef, undef, undef, undef, undef, undef, undef, undef, undef, undef, undef, undef, undef, undef, undef, undef]) rfl ?_
  intro w hP hW
  obtain ⟨k1, k3, d0, d6, -⟩ := schB_iff.1 hs
  have hn : rn = l.length := hP.len
  refine c_seq ?_
  refine c_reg ?_
  refine l_box hW rfl rfl rfl rfl ?_
  intro g1 W hW
  refine l_alloc hW tyZ124 rfl rfl rfl ?_
  intro g2 W hW
  refine l_val (r_assign (v := .int _ _) rfl rfl) rfl rfl ?_
  refine l_end ?_
  refine n_then ?_
  refine c_seq ?_
  refine c_reg ?_
  refine l_loadA hW 1 tyA26 rfl rfl rfl rfl rfl (by first | rfl | exact kc_len _ | exact kcf_len _ | exact boC_len _ _ | (simp; done)) ?_
  refine l_call hW (g_treeOf s) en67 rfl rfl rfl rfl ?_
  intro W hW
  rw [treeC_yes hs rfl, hs]
  refine l_val (r_move (v := .tuple _) rfl rfl) rfl rfl ?_
  refine l_val (r_extract (v := .agg _) rfl rfl rfl) rfl rfl ?_
  refine l_val (r_extract (v := .bool _) rfl rfl rfl) rfl rfl ?_
  refine l_alloc hW tyZ124 rfl rfl rfl ?_
  intro g3 W hW
  refine l_storeA hW 0 tyA124 rfl rfl rfl rfl rfl rfl (by first | rfl | exact kc_len _ | exact kcf_len _ | exact boC_len _ _ | (simp; done)) (by first | rfl | exact kc_len _ | exact kcf_len _ | exact boC_len _ _ | (simp; done)) (by first | exact kc_one _ | exact kcf_one _ | exact boC_one _ _ | (simp [Value.oneCell']; done)) ?_
  intro W hW
  refine l_val (r_assign (v := .bool _) rfl rfl) rfl rfl ?_
  refine l_end ?_
  refine n_then ?_
  refine c_seq ?_
  refine c_seq ?_
  refine c_reg ?_
  refine l_val (r_move (v := .bool _) rfl rfl) rfl rfl ?_
  refine l_val (r_not rfl rfl) rfl rfl ?_
  refine l_end ?_
  refine n_then ?_
  refine c_false rfl ?_
  refine c_skip ?_
  refine n_then ?_
  refine c_seq ?_
  refine c_seq ?_
  refine c_reg ?_
  refine l_val (r_move (v := .slice _ _ _) rfl rfl) rfl rfl ?_
  refine l_val (r_lenSlice Try.underlying40 rfl rfl) rfl rfl ?_
  refine l_val (r_move (v := .int _ _) rfl rfl) rfl rfl ?_
  refine l_end ?_
  refine n_then ?_
  refine c_block ?_
  refine c_loop (fun (i : Nat) (j : Nat → Value) => [.agg [.int .u8 s.k, .int .i64 s.d, .int .i64 s.g, .int .u64 s.p, .int .u64 s.q, .int .u64 s.r].toArray, .slice ra rn rc, .pointer (some ⟨g1, 0, none⟩), j 3, .pointer (some ⟨g2, 0, none⟩), j 5, .pointer (some ⟨g3, 0, none⟩), .bool true, j 8, j 9, .tuple #[.agg [.int .u8 s.k, .int .i64 s.d, .int .i64 (strideN s.d : Int)].toArray, .bool true], .agg ([.int .u8 s.k, .int .i64 s.d, .int .i64 s.g, .int .u64 s.p, .int .u64 s.q, .int .u64 s.r]).toArray, .tuple #[.agg [.int .u8 s.k, .int .i64 s.d, .int .i64 (strideN s.d : Int)].toArray, .bool true], .agg [.int .u8 s.k, .int .i64 s.d, .int .i64 (strideN s.d : Int)].toArray, .bool true, .bool true, .bool false, j 17, .slice ra rn rc, .int .i64 (rn : Int), .int .i64 (i : Int), j 21, j 22, j 23, j 24, j 25, j 26, j 27, j 28, j 29, j 30]) (fun (i : Nat) => [⟨g3, [.int .u8 s.k, .int .i64 s.d, .int .i64 (strideN s.d : Int)], 124⟩, ⟨g2, z124, 124⟩, ⟨g1, [.int .u8 s.k, .int .i64 s.d, .int .i64 s.g, .int .u64 s.p, .int .u64 s.q, .int .u64 s.r], 26⟩]) (fun (i : Nat) => i ≤ rn ∧ ∀ k, k < i → subB s (qn l k) (qm l k) = true) (fun (i : Nat) => rn - i) 0 (by kernel_rfl) hW ⟨by omega, all_zero⟩ ?_
  intro i j W hx hW
  obtain ⟨hi0, hib⟩ := hx
  refine c_seq ?_
  refine c_reg ?_
  refine l_val (r_lssN rfl rfl rfl rfl) rfl rfl ?_
  refine l_split ?_ ?_
  · intro hc1
    replace hc1 := of_decide_eq_true hc1
    obtain ⟨b0, o0, ha, hc⟩ := hP.ptr (by omega)
    simp only at ha
    subst ha
    refine l_end ?_
    refine n_then ?_
    refine c_seq ?_
    refine c_true rfl ?_
    refine c_skip ?_
    refine n_then ?_
    refine c_seq ?_
    refine c_block ?_
    refine c_seq ?_
    refine c_reg ?_
    refine l_val (r_indexAddrSlB (n := i) Try.underlying40 tyA112.size rfl rfl rfl (by omega)) rfl rfl ?_
    refine l_loadF2 hW tyA112 (hc i (by omega)).1 (hc i (by omega)).2 rfl rfl rfl rfl ?_
    refine l_alloc hW tyZ112 rfl rfl rfl ?_
    intro g4 W hW
    refine l_storeA hW 0 tyA112 rfl rfl rfl rfl rfl rfl (by first | rfl | exact kc_len _ | exact kcf_len _ | exact boC_len _ _ | (simp; done)) (by first | rfl | exact kc_len _ | exact kcf_len _ | exact boC_len _ _ | (simp; done)) (by first | exact kc_one _ | exact kcf_one _ | exact boC_one _ _ | (simp [Value.oneCell']; done)) ?_
    intro W hW
    refine l_end ?_
    refine n_then ?_
    refine c_seq ?_
    refine c_reg ?_
    refine l_loadA hW 1 tyA124 rfl rfl rfl rfl rfl (by first | rfl | exact kc_len _ | exact kcf_len _ | exact boC_len _ _ | (simp; done)) ?_
    refine l_loadA hW 0 tyA112 rfl rfl rfl rfl rfl (by first | rfl | exact kc_len _ | exact kcf_len _ | exact boC_len _ _ | (simp; done)) ?_
    refine l_call hW (g_psubset s _ _ d0 d6) en116 rfl rfl rfl rfl ?_
    intro W hW
    refine l_split ?_ ?_
    · intro hc2
      refine l_val (r_not rfl rfl) rfl rfl ?_
      refine l_end ?_
      refine n_then ?_
      refine c_false rfl ?_
      refine c_skip ?_
      refine n_block ?_
      refine n_then ?_
      refine c_reg ?_
      refine l_val (r_addN (n := 1) rfl rfl rfl (by omega)) rfl rfl ?_
      refine l_val (r_move (v := .int _ _) rfl rfl) rfl rfl ?_
      refine l_end ?_
      refine n_then ?_
      exact loop_next (i + 1) (by kernel_rfl) (hW.drop 1) ⟨by omega, all_upto hib hc2⟩ (by omega)
    · intro hc2
      refine l_val (r_not rfl rfl) rfl rfl ?_
      refine l_end ?_
      refine n_then ?_
      refine c_true rfl ?_
      refine c_seq ?_
      refine c_reg ?_
      refine l_val (r_build (ps := []) (bld124_) rfl rfl) rfl rfl ?_
      refine l_storeA hW 2 tyA124 rfl rfl rfl rfl rfl rfl (by first | rfl | exact kc_len _ | exact kcf_len _ | exact boC_len _ _ | (simp; done)) (by first | rfl | exact kc_len _ | exact kcf_len _ | exact boC_len _ _ | (simp; done)) (by first | exact kc_one _ | exact kcf_one _ | exact boC_one _ _ | (simp [Value.oneCell']; done)) ?_
      intro W hW
      refine l_val (r_assign (v := .int _ _) rfl rfl) rfl rfl ?_
      refine l_end ?_
      refine n_then ?_
      refine c_ret ?_
      refine r_block ?_
      refine r_then ?_
      refine r_then ?_
      refine r_block ?_
      refine r_then ?_
      refine ret_cell_tmp hW 2 tyA124 rfl rfl rfl (by first | rfl | exact kc_len _ | exact kcf_len _ | exact boC_len _ _ | (simp; done)) rfl ?_
      exact ⟨by rw [entE_no (i := i) (by omega) hc2, entT_no (entE_no (i := i) (by omega) hc2)]; rfl, hW.below⟩
  · intro hc1
    replace hc1 := of_decide_eq_false hc1
    refine l_end ?_
    refine n_then ?_
    refine c_seq ?_
    refine c_false rfl ?_
    refine c_exit ?_
    refine x_then ?_
    refine x_then ?_
    refine x_hit ?_
    refine n_then ?_
    refine c_seq ?_
    refine c_reg ?_
    refine l_loadA hW 0 tyA124 rfl rfl rfl rfl rfl (by first | rfl | exact kc_len _ | exact kcf_len _ | exact boC_len _ _ | (simp; done)) ?_
    refine l_storeA hW 1 tyA124 rfl rfl rfl rfl rfl rfl (by first | rfl | exact kc_len _ | exact kcf_len _ | exact boC_len _ _ | (simp; done)) (by first | rfl | exact kc_len _ | exact kcf_len _ | exact boC_len _ _ | (simp; done)) (by first | exact kc_one _ | exact kcf_one _ | exact boC_one _ _ | (simp [Value.oneCell']; done)) ?_
    intro W hW
    refine l_val (r_assign (v := .int _ _) rfl rfl) rfl rfl ?_
    refine l_end ?_
    refine n_then ?_
    refine c_ret ?_
    refine ret_cell_tmp hW 1 tyA124 rfl rfl rfl (by first | rfl | exact kc_len _ | exact kcf_len _ | exact boC_len _ _ | (simp; done)) rfl ?_
    have hall := entE_yes (s := s) (l := l) fun k hk => hib k (by omega)
    exact ⟨by rw [hall, entT_yes hall]; rfl, hW.below⟩

set_option maxRecDepth 10000 in
/-- headend/cover.Members -/
theorem g_Members (s : Sc) (v x : Int) (hs : schB s = true) : GivesX Try.prog 69 [.agg [.int .u8 s.k, .int .i64 s.d, .int .i64 s.g, .int .u64 s.p, .int .u64 s.q, .int .u64 s.r].toArray, .agg [.int .i64 v, .int .i64 x].toArray].toArray (fun _ => True) (fun u Bs => ∃ t : Sl, u = .tuple #[t.v, .int .i64 (if subB s v x then 0 else 31)] ∧ (subB s v x = true → NewI t (membersN s v x (p2 s.d.toNat)) Bs)) := by
  refine givesX_of Try.func69 rfl (bs := [.agg [.int .u8 s.k, .int .i64 s.d, .int .i64 s.g, .int .u64 s.p, .int .u64 s.q, .int .u64 s.r].toArray, .agg [.int .i64 v, .int .i64 x].toArray, undef, undef, undef, undef, undef, undef, undef, undef, undef, undef, undef, undef, undef, undef, undef, undef, undef, undef, undef]) rfl ?_
  intro w hP hW
  obtain ⟨k1, k3, d0, d6, -⟩ := schB_iff.1 hs
  refine c_seq ?_
  refine c_reg ?_
  refine l_box hW rfl rfl rfl rfl ?_
  intro g1 W hW
  refine l_box hW rfl rfl rfl rfl ?_
  intro g2 W hW
  refine l_val (r_assign (v := .slice _ _ _) rfl rfl) rfl rfl ?_
  refine l_val (r_assign (v := .int _ _) rfl rfl) rfl rfl ?_
  refine l_end ?_
  refine n_then ?_
  refine c_seq ?_
  refine c_reg ?_
  refine l_loadA hW 1 tyA26 rfl rfl rfl rfl rfl (by first | rfl | exact kc_len _ | exact kcf_len _ | exact boC_len _ _ | (simp; done)) ?_
  refine l_loadA hW 0 tyA112 rfl rfl rfl rfl rfl (by first | rfl | exact kc_len _ | exact kcf_len _ | exact boC_len _ _ | (simp; done)) ?_
  refine l_buildSliceF hW (bsl40_1_0 _ _) rfl rfl rfl rfl ?_
  intro gb W hW
  refine l_callR hW (g_enter s (some ⟨gb, 0, none⟩) 1 1 [(v, x)] hs (by simp)) en84 (RdB.one hW 0 rfl) rfl rfl rfl rfl ?_
  intro W hW
  obtain ⟨ee, hee⟩ : ∃ ee, ee = entE s [(v, x)] := ⟨_, rfl⟩
  have heo := hee.trans (entE_one s v x)
  have he0 : subB s v x = true → ee = 0 := fun h => heo.trans (by rw [h]; rfl)
  have he1 : subB s v x = false → ee = 31 := fun h => heo.trans (by rw [h]; rfl)
  rw [← hee]
  refine l_val (r_move (v := .tuple _) rfl rfl) rfl rfl ?_
  refine l_val (r_extract (v := .agg _) rfl rfl rfl) rfl rfl ?_
  refine l_val (r_extract (v := .int _ _) rfl rfl rfl) rfl rfl ?_
  refine l_alloc hW tyZ124 rfl rfl rfl ?_
  intro g3 W hW
  refine l_storeA hW 0 tyA124 rfl rfl rfl rfl rfl rfl rfl (entT_len _ _) (entT_one _ _) ?_
  intro W hW
  refine l_val (r_assign (v := .int _ _) rfl rfl) rfl rfl ?_
  refine l_end ?_
  refine n_then ?_
  refine c_seq ?_
  refine c_seq ?_
  refine c_reg ?_
  refine l_val (r_move (v := .int _ _) rfl rfl) rfl rfl ?_
  refine l_val (r_neq rfl rfl rfl rfl) rfl rfl ?_
  refine l_split ?_ ?_
  · intro hc1
    replace hc1 := of_decide_eq_true hc1
    have hb : subB s v x = false := by
      cases hb : subB s v x with
      | true => exact absurd (he0 hb) hc1
      | false => rfl
    refine l_end ?_
    refine n_then ?_
    refine c_true rfl ?_
    refine c_seq ?_
    refine c_reg ?_
    refine l_val (r_move (v := .int _ _) rfl rfl) rfl rfl ?_
    refine l_val (r_assign (v := .slice _ _ _) rfl rfl) rfl rfl ?_
    refine l_val (r_assign (v := .int _ _) rfl rfl) rfl rfl ?_
    refine l_end ?_
    refine n_then ?_
    refine c_ret ?_
    refine r_then ?_
    refine ret_tmp2 rfl rfl rfl ?_
    exact ⟨_, [], rfl, ⟨Sl.no, by rw [hb, he1 hb]; rfl, fun h => by rw [hb] at h; cases h⟩, hW.sub (List.nil_sublist _)⟩
  · intro hc1
    replace hc1 := of_decide_eq_false hc1
    have hb : subB s v x = true := by
      cases hb : subB s v x with
      | false => have := he1 hb; omega
      | true => rfl
    have htt : entT s [(v, x)] = [.int .u8 s.k, .int .i64 s.d, .int .i64 (strideN s.d : Int)] := entT_yes (by rw [← hee]; omega)
    obtain ⟨hx1, hx2, hx3, hx4⟩ := sub_x d6 hb
    replace hW := (show Cl _ (⟨_, entT s [(v, x)], _⟩ :: _) _ from hW)
    rw [htt] at hW
    refine l_end ?_
    refine n_then ?_
    refine c_false rfl ?_
    refine c_skip ?_
    refine n_then ?_
    refine c_seq ?_
    refine c_reg ?_
    refine l_loadA hW 0 tyA124 rfl rfl rfl rfl rfl (by first | rfl | exact kc_len _ | exact kcf_len _ | exact boC_len _ _ | (simp; done)) ?_
    refine l_loadA hW 2 tyA112 rfl rfl rfl rfl rfl (by first | rfl | exact kc_len _ | exact kcf_len _ | exact boC_len _ _ | (simp; done)) ?_
    refine l_callX hW (g_pmembers s v x d0 d6 hx1 hx2 hx3 hx4) en99 trivial rfl rfl rfl rfl ?_
    rintro _ Bs W ⟨am, cm, rfl, hO⟩ hW
    refine l_val (r_assign (v := .slice _ _ _) rfl rfl) rfl rfl ?_
    refine l_val (r_assign (v := .int _ _) rfl rfl) rfl rfl ?_
    refine l_end ?_
    refine n_then ?_
    refine c_ret ?_
    refine ret_tmp2 rfl rfl rfl ?_
    exact ⟨_, Bs, rfl, ⟨⟨am, _, cm⟩, by rw [hb]; rfl, fun _ => hO.newI⟩, hW.sub (List.sublist_append_right _ _)⟩

end Go.Proofs.Ytoegpalacppllaa

/- Lists of subsets, by the program. -/
namespace Go.Proofs.Ytoegpalacppllaa
open Go.RowKit Pl
open Tr Hn
set_option maxRecDepth 10000 in
/-- headend/trace.subsets -/
theorem g_psubsets (s : Sc) (ra : Option Addr) (rn rc : Nat) (l : List (Int × Int)) (hs : schB s = true) (hq : l.length ≤ 100) : GivesX Try.prog 38 [.agg [.int .u8 s.k, .int .i64 s.d, .int .i64 s.g, .int .u64 s.p, .int .u64 s.q, .int .u64 s.r].toArray, .slice ra rn rc].toArray (fun w => RdB w ⟨ra, rn, rc⟩ l) (fun u Bs => ∃ (t : Sl) (ss : List Sl), u = .tuple #[t.v, .int .i64 (subsE s l)] ∧ (subsE s l = 0 → Rep Bs fun W => RdG W t ss (mems s l))) := by
  refine givesX_of Try.func38 rfl (bs := [.agg [.int .u8 s.k, .int .i64 s.d, .int .i64 s.g, .int .u64 s.p, .int .u64 s.q, .int .u64 s.r].toArray, .slice ra rn rc, undef, undef, undef, undef, undef, undef, undef, undef, undef, undef, undef, undef, undef, undef, undef, undef, undef, undef, undef, undef, undef, undef, undef, undef, undef, undef, undef, undef, undef, undef, undef, undef, undef]) rfl ?_
  intro w hP hW
  obtain ⟨k1, k3, d0, d6, -⟩ := schB_iff.1 hs
  have hn : rn = l.length := hP.len
  refine c_seq ?_
  refine c_reg ?_
  refine l_box hW rfl rfl rfl rfl ?_
  intro g1 W hW
  refine l_val (r_assign (v := .slice _ _ _) rfl rfl) rfl rfl ?_
  refine l_val (r_assign (v := .int _ _) rfl rfl) rfl rfl ?_
  refine l_end ?_
  refine n_then ?_
  refine c_seq ?_
  refine c_seq ?_
  refine c_reg ?_
  refine l_val (r_move (v := .slice _ _ _) rfl rfl) rfl rfl ?_
  refine l_val (r_lenSlice Try.underlying40 rfl rfl) rfl rfl ?_
  refine l_val (r_gtrN (n := 64) rfl rfl rfl rfl) rfl rfl ?_
  refine l_split ?_ ?_
  · intro hc1
    replace hc1 := of_decide_eq_true hc1
    refine l_end ?_
    refine n_then ?_
    refine c_true rfl ?_
    refine c_seq ?_
    refine c_reg ?_
    refine l_val (r_assign (v := .slice _ _ _) rfl rfl) rfl rfl ?_
    refine l_val (r_assign (v := .int _ _) rfl rfl) rfl rfl ?_
    refine l_end ?_
    refine n_then ?_
    refine c_ret ?_
    refine r_then ?_
    refine ret_tmp2 rfl rfl rfl ?_
    exact ⟨_, [], rfl, ⟨Sl.no, [], by rw [subsE_many (by omega)]; rfl, fun h => absurd h (by rw [subsE_many (by omega)]; decide)⟩, hW.sub (List.nil_sublist _)⟩
  · intro hc1
    replace hc1 := of_decide_eq_false hc1
    refine l_end ?_
    refine n_then ?_
    refine c_false rfl ?_
    refine c_skip ?_
    refine n_then ?_
    refine c_seq ?_
    refine c_reg ?_
    refine l_val (r_assign (v := .slice _ _ _) rfl rfl) rfl rfl ?_
    refine l_end ?_
    refine n_then ?_
    refine c_seq ?_
    refine c_seq ?_
    refine c_reg ?_
    refine l_val (r_move (v := .slice _ _ _) rfl rfl) rfl rfl ?_
    refine l_val (r_lenSlice Try.underlying40 rfl rfl) rfl rfl ?_
    refine l_val (r_move (v := .int _ _) rfl rfl) rfl rfl ?_
    refine l_end ?_
    refine n_then ?_
    refine c_block ?_
    refine c_loop (fun (z : Nat × Option Addr × Nat × List Blk × List Blk × List Sl) (j : Nat → Value) => [.agg [.int .u8 s.k, .int .i64 s.d, .int .i64 s.g, .int .u64 s.p, .int .u64 s.q, .int .u64 s.r].toArray, .slice ra rn rc, .pointer (some ⟨g1, 0, none⟩), j 3, j 4, j 5, .slice z.2.1 z.1 z.2.2.1, j 7, j 8, j 9, j 10, .slice ra rn rc, j 12, .bool false, .slice ra rn rc, .int .i64 (rn : Int), .int .i64 (z.1 : Int), j 17, j 18, j 19, j 20, j 21, j 22, j 23, j 24, j 25, j 26, j 27, j 28, j 29, j 30, j 31, j 32, j 33, j 34]) (fun (z : Nat × Option Addr × Nat × List Blk × List Blk × List Sl) => [⟨g1, [.int .u8 s.k, .int .i64 s.d, .int .i64 s.g, .int .u64 s.p, .int .u64 s.q, .int .u64 s.r], 26⟩] ++ (z.2.2.2.1 ++ z.2.2.2.2.1)) (fun (z : Nat × Option Addr × Nat × List Blk × List Blk × List Sl) => z.1 ≤ rn ∧ (∀ k, k < z.1 → subB s (qn l k) (qm l k) = true) ∧ OwnSl 35 1 z.2.1 z.1 z.2.2.1 (z.2.2.2.2.2.map Sl.v) z.2.2.2.1 ∧ z.2.2.2.2.2.length = z.1 ∧ NewSs z.2.2.2.2.2 (mems s l) z.2.2.2.2.1) (fun (z : Nat × Option Addr × Nat × List Blk × List Blk × List Sl) => rn - z.1) (0, none, 0, [], [], []) (by kernel_rfl) (by simpa using hW) ⟨Nat.zero_le _, fun k hk => by omega, OwnSl.nil 35 1, rfl, NewSs.nil _ _⟩ ?_
    intro z j W hx hW
    obtain ⟨hi0, hib, hO, hzl, hN⟩ := hx
    refine c_seq ?_
    refine c_reg ?_
    refine l_val (r_lssN rfl rfl rfl rfl) rfl rfl ?_
    refine l_split ?_ ?_
    · intro hc2
      replace hc2 := of_decide_eq_true hc2
      obtain ⟨b0, o0, ha, hc⟩ := hP.ptr (by omega)
      simp only at ha
      subst ha
      refine l_end ?_
      refine n_then ?_
      refine c_seq ?_
      refine c_true rfl ?_
      refine c_skip ?_
      refine n_then ?_
      refine c_seq ?_
      refine c_block ?_
      refine c_seq ?_
      refine c_reg ?_
      refine l_val (r_indexAddrSlB (n := z.1) Try.underlying40 tyA112.size rfl rfl rfl (by omega)) rfl rfl ?_
      refine l_loadF2 hW tyA112 (hc z.1 (by omega)).1 (hc z.1 (by omega)).2 rfl rfl rfl rfl ?_
      refine l_alloc hW tyZ112 rfl rfl rfl ?_
      intro g2 W hW
      refine l_storeA hW 0 tyA112 rfl rfl rfl rfl rfl rfl (by first | rfl | exact kc_len _ | exact kcf_len _ | exact boC_len _ _ | (simp; done)) (by first | rfl | exact kc_len _ | exact kcf_len _ | exact boC_len _ _ | (simp; done)) (by first | exact kc_one _ | exact kcf_one _ | exact boC_one _ _ | (simp [Value.oneCell']; done)) ?_
      intro W hW
      refine l_end ?_
      refine n_then ?_
      refine c_seq ?_
      refine c_reg ?_
      refine l_loadA hW 1 tyA26 rfl rfl rfl rfl rfl (by first | rfl | exact kc_len _ | exact kcf_len _ | exact boC_len _ _ | (simp; done)) ?_
      refine l_loadA hW 0 tyA112 rfl rfl rfl rfl rfl (by first | rfl | exact kc_len _ | exact kcf_len _ | exact boC_len _ _ | (simp; done)) ?_
      refine l_callX hW (g_Members s (qn l z.1) (qm l z.1) hs) en69 trivial rfl rfl rfl rfl ?_
      rintro _ BsM W ⟨tm, rfl, hm⟩ hW
      obtain ⟨ee, hee⟩ : ∃ ee : Int, ee = (if subB s (qn l z.1) (qm l z.1) = true then 0 else 31) := ⟨_, rfl⟩
      have he0 : subB s (qn l z.1) (qm l z.1) = true → ee = 0 := fun h => hee.trans (by rw [h]; rfl)
      have he1 : subB s (qn l z.1) (qm l z.1) = false → ee = 31 := fun h => hee.trans (by rw [h]; rfl)
      rw [← hee]
      refine l_val (r_move (v := .tuple _) rfl rfl) rfl rfl ?_
      refine l_val (r_extract (v := .slice _ _ _) rfl rfl rfl) rfl rfl ?_
      refine l_val (r_extract (v := .int _ _) rfl rfl rfl) rfl rfl ?_
      refine l_val (r_assign (v := .slice _ _ _) rfl rfl) rfl rfl ?_
      refine l_val (r_assign (v := .int _ _) rfl rfl) rfl rfl ?_
      refine l_end ?_
      refine n_then ?_
      refine c_seq ?_
      refine c_seq ?_
      refine c_reg ?_
      refine l_val (r_move (v := .int _ _) rfl rfl) rfl rfl ?_
      refine l_val (r_neq rfl rfl rfl rfl) rfl rfl ?_
      refine l_split ?_ ?_
      · intro hc3
        replace hc3 := of_decide_eq_true hc3
        have hb : subB s (qn l z.1) (qm l z.1) = false := by
          cases hb : subB s (qn l z.1) (qm l z.1) with
          | true => exact absurd (he0 hb) hc3
          | false => rfl
        refine l_end ?_
        refine n_then ?_
        refine c_true rfl ?_
        refine c_seq ?_
        refine c_reg ?_
        refine l_val (r_move (v := .int _ _) rfl rfl) rfl rfl ?_
        refine l_val (r_assign (v := .slice _ _ _) rfl rfl) rfl rfl ?_
        refine l_val (r_assign (v := .int _ _) rfl rfl) rfl rfl ?_
        refine l_end ?_
        refine n_then ?_
        refine c_ret ?_
        refine r_then ?_
        refine r_block ?_
        refine r_then ?_
        refine r_then ?_
        refine r_block ?_
        refine r_then ?_
        refine ret_tmp2 rfl rfl rfl ?_
        exact ⟨_, [], rfl, ⟨Sl.no, [], by rw [subsE_no (i := z.1) (by omega) (by omega) hb, he1 hb]; rfl, fun h => absurd h (by rw [subsE_no (i := z.1) (by omega) (by omega) hb]; decide)⟩, hW.sub (List.nil_sublist _)⟩
      · intro hc3
        replace hc3 := of_decide_eq_false hc3
        have hb : subB s (qn l z.1) (qm l z.1) = true := by
          cases hb : subB s (qn l z.1) (qm l z.1) with
          | false => have := he1 hb; omega
          | true => rfl
        refine l_end ?_
        refine n_then ?_
        refine c_false rfl ?_
        refine c_skip ?_
        refine n_then ?_
        refine c_reg ?_
        refine l_val (r_move (v := .slice _ _ _) rfl rfl) rfl rfl ?_
        refine l_val (r_move (v := .slice _ _ _) rfl rfl) rfl rfl ?_
        refine l_buildSliceF hW (bsl69_1_0 _ _ _) rfl rfl rfl rfl ?_
        intro gb W hW
        replace hW := (show Cl _ (_ :: (([_, _] ++ (z.2.2.2.1 ++ z.2.2.2.2.1)) ++ BsM)) _ from hW).perm permS
        refine l_appendB tyE69 (L := _ :: ([_, _] ++ (z.2.2.2.2.1 ++ BsM))) hO hW 0 (N := z.1 + 1) rfl rfl rfl rfl rfl rfl rfl rfl (by simp [Value.oneCell']) (by unfold maxLen; omega) (by omega) ?_
        intro a1 c1 Bs1 W hO1 hW
        replace hO1 := hO1.castx rfl (xs' := (z.2.2.2.2.2 ++ [tm]).map Sl.v) (by simp)
        refine l_val (r_assign (v := .slice _ _ _) rfl rfl) rfl rfl ?_
        refine l_end ?_
        refine n_block ?_
        refine n_then ?_
        refine c_reg ?_
        refine l_val (r_addN (n := 1) rfl rfl rfl (by omega)) rfl rfl ?_
        refine l_val (r_move (v := .int _ _) rfl rfl) rfl rfl ?_
        refine l_end ?_
        refine n_then ?_
        exact loop_next (z.1 + 1, a1, c1, Bs1, z.2.2.2.2.1 ++ BsM, z.2.2.2.2.2 ++ [tm]) (by kernel_rfl) ((show Cl _ (_ :: ((z.2.2.2.2.1 ++ BsM) ++ Bs1)) _ from (hW.drop 2)).perm (List.Perm.cons _ List.perm_append_comm)) ⟨by simp only; omega, all_upto hib hb, hO1, by simp only [List.length_append, hzl]; rfl, hN.one (by rw [hzl]; exact mems_get (by omega)) (hm hb) (List.sublist_append_left _ _) (List.sublist_append_right _ _)⟩ (by simp only; omega)
    · intro hc2
      replace hc2 := of_decide_eq_false hc2
      refine l_end ?_
      refine n_then ?_
      refine c_seq ?_
      refine c_false rfl ?_
      refine c_exit ?_
      refine x_then ?_
      refine x_then ?_
      refine x_hit ?_
      refine n_then ?_
      refine c_seq ?_
      refine c_reg ?_
      refine l_val (r_move (v := .slice _ _ _) rfl rfl) rfl rfl ?_
      refine l_val (r_assign (v := .slice _ _ _) rfl rfl) rfl rfl ?_
      refine l_val (r_assign (v := .int _ _) rfl rfl) rfl rfl ?_
      refine l_end ?_
      refine n_then ?_
      refine c_ret ?_
      refine ret_tmp2 rfl rfl rfl ?_
      have hall := subsE_yes (s := s) (l := l) (by omega) fun k hk => hib k (by omega)
      exact ⟨_, _, rfl, ⟨⟨z.2.1, z.1, z.2.2.1⟩, z.2.2.2.2.2, by rw [hall]; rfl, fun _ => RdG.of hO hN (by rw [mems_len]; omega) (List.sublist_append_left _ _) (List.sublist_append_right _ _)⟩, hW.drop 1⟩

end Go.Proofs.Ytoegpalacppllaa

/- Which lists have an element of another one. No function of the program is in sight here. -/
namespace Go.Proofs.Ytoegpalacppllaa.Tr
open Hn
/-- the first index at which something holds, or -1 -/
def findI (n : Nat) (p : Nat → Bool) : Int := match (List.range n).find? p with
  | some i => (i : Int)
  | none => -1
theorem find_yes {n : Nat} {p : Nat → Bool} {i : Nat} (hi : i < n) (h : p i = true) (hb : ∀ k, k < i → p k = false) : findI n p = (i : Int) := by
  have : (List.range n).find? p = some i := List.find?_range_eq_some.2 ⟨h, List.mem_range.2 hi, fun j hj => by rw [hb j hj]; rfl⟩
  rw [findI, this]
theorem find_no {n : Nat} {p : Nat → Bool} (hb : ∀ k, k < n → p k = false) : findI n p = -1 := by
  have : (List.range n).find? p = none := List.find?_eq_none.2 fun j hj => by rw [hb j (List.mem_range.1 hj)]; decide
  rw [findI, this]
theorem find_any (n : Nat) (p : Nat → Bool) : decide (findI n p ≥ 0) = (List.range n).any p := by
  unfold findI
  cases hf : (List.range n).find? p with
  | some i => rw [decide_eq_true (by simp only; omega)]; exact (List.any_eq_true.2 ⟨i, List.mem_of_find?_eq_some hf, List.find?_some hf⟩).symm
  | none =>
    rw [decide_eq_false (by simp only; omega)]
    refine (Bool.eq_false_iff.2 fun h => ?_).symm
    obtain ⟨i, hi, hp⟩ := List.any_eq_true.1 h
    exact List.find?_eq_none.1 hf i hi hp
theorem mem_at {l : List Int} {x : Int} : x ∈ l ↔ ∃ i, i < l.length ∧ at_ l i = x := by
  rw [List.mem_iff_getElem]
  constructor
  · rintro ⟨i, hi, e⟩; exact ⟨i, hi, by simp [at_, List.getD_eq_getElem?_getD, hi, e]⟩
  · rintro ⟨i, hi, e⟩; exact ⟨i, hi, by simpa [at_, List.getD_eq_getElem?_getD, hi] using e⟩
/-- whether a list has an element of a coalition -/
def hasP (c m : List Int) : Bool := (List.range m.length).any fun k => c.contains (at_ m k)
theorem hasP_opn {s : Sc} {c : List Int} {v x : Int} (hc : usersB c ((p2 s.d.toNat : Nat) : Int) = true) : hasP c (membersN s v x (p2 s.d.toNat)) = opnB s c v x := by
  rw [Bool.eq_iff_iff, hasP, opnB, List.any_eq_true, List.any_eq_true]
  constructor
  · rintro ⟨k, hk, h⟩
    have hm := mem_at.2 ⟨k, List.mem_range.1 hk, rfl⟩
    obtain ⟨u, hu, e⟩ := List.mem_map.1 hm
    obtain ⟨i, hi, e2⟩ := mem_at.1 (List.contains_iff_mem.1 h)
    refine ⟨i, List.mem_range.2 hi, ?_⟩
    rw [e2, ← e, Int.toNat_natCast]
    exact (List.mem_filter.1 hu).2
  · rintro ⟨i, hi, h⟩
    have hi := List.mem_range.1 hi
    have hb := users_at hc hi
    have hm : at_ c i ∈ membersN s v x (p2 s.d.toNat) := List.mem_map.2 ⟨(at_ c i).toNat, List.mem_filter.2 ⟨List.mem_range.2 (by omega), h⟩, by omega⟩
    obtain ⟨k, hk, e⟩ := mem_at.1 hm
    exact ⟨k, List.mem_range.2 hk, by rw [e]; exact List.contains_iff_mem.2 (mem_at.2 ⟨i, hi, rfl⟩)⟩
theorem users_pair {l : List Int} {m : Int} (h : usersB l m = true) : l.Pairwise (· ≤ ·) := by
  rw [List.pairwise_iff_getElem]
  intro i j hi hj hij
  have := users_lt h i j hij hj
  simp only [at_, List.getD_eq_getElem?_getD, hi, hj, List.getElem?_eq_getElem, Option.getD_some] at this
  omega
/-- which of some lists are open to a coalition -/
def opl (c : List Int) (gs : List (List Int)) (n : Nat) : List Bool := (List.range n).map fun i => hasP c (gs.getD i [])
theorem opl_succ (c : List Int) (gs : List (List Int)) (n : Nat) : opl c gs (n + 1) = opl c gs n ++ [hasP c (gs.getD n [])] := by simp [opl, List.range_succ]
theorem opl_opens {b : Bo} {l : List (Int × Int)} (hc : usersB b.l ((p2 b.s.d.toNat : Nat) : Int) = true) : opl b.l (mems b.s l) l.length = opens b l l.length := by
  refine List.map_congr_left fun i hi => ?_
  have hi := List.mem_range.1 hi
  rw [List.getD_eq_getElem?_getD, mems_get hi]
  exact hasP_opn hc
end Go.Proofs.Ytoegpalacppllaa.Tr

/- Which lists are open to a box, by the program. -/
namespace Go.Proofs.Ytoegpalacppllaa
open Go.RowKit Pl
open Tr Hn
theorem g_BSearch (aa : Option Addr) (an ac : Nat) (l : List Int) (x : Int) (hs : l.Pairwise (· ≤ ·)) (hl : l.length ≤ 4294967296) : ∃ q : Int, GivesR Try.prog 74 [.slice aa an ac, .int .i64 x].toArray (fun w => RdI w ⟨aa, an, ac⟩ l) (.tuple #[.int .i64 q, .bool (l.contains x)]) := by
  by_cases h0 : l.length = 0
  · obtain rfl : l = [] := List.eq_nil_of_length_eq_zero h0
    refine ⟨0, fun w hp => ?_⟩
    obtain rfl : an = 0 := hp.len
    exact (Try.slices_BinarySearch_int_empty aa ac x w).mono fun e w' ⟨he, hw⟩ => ⟨he, hw ▸ Below.refl _ _⟩
  · refine ⟨((l.countP (· < x) : Nat) : Int), fun w hp => ?_⟩
    have hn : an = l.length := hp.len
    obtain ⟨b, i, ha, hc⟩ := hp.ptr (by omega)
    simp only at ha
    subst ha
    subst hn
    have := Try.slices_BinarySearch_int b i l.length ac l x w (Nat.le_refl _) (by omega) hc (by rw [List.take_length]; exact hs)
    rw [List.take_length] at this
    exact this.mono fun e w' ⟨he, q, hw⟩ => ⟨he, hw ▸ below_drewN (Below.refl _ _) q⟩
set_option maxRecDepth 10000 in
/-- headend/trace.opens$1 -/
theorem g_opens1 (t : Sl) (c : List Int) (gx : Nat) (hc : c.Pairwise (· ≤ ·)) (hcl : c.length ≤ 100) (x : Int) : GivesR Try.prog 73 [.int .i64 x, .pointer (some ⟨gx, 0, none⟩)].toArray (fun w => w.cell? ⟨gx, 6, none⟩ = some t.v ∧ RdI w t c) (.bool (c.contains x)) := by
  refine givesR_of Try.func73 rfl (bs := [.int .i64 x, .pointer (some ⟨gx, 0, none⟩), undef, undef, undef, undef, undef, undef, undef, undef, undef, undef, undef, undef]) rfl ?_
  intro w hP hW
  obtain ⟨q, hbs⟩ := g_BSearch t.a t.n t.c c x hc (by omega)
  refine c_seq ?_
  refine c_reg ?_
  refine l_val (r_assign (v := .bool _) rfl rfl) rfl rfl ?_
  refine l_end ?_
  refine n_then ?_
  refine c_seq ?_
  refine c_reg ?_
  refine l_val (r_fieldAddr 6 Try.underlying39 rfl tyC35.size rfl rfl rfl) rfl rfl ?_
  refine l_loadF hW tyC35 (v := t.v) hP.1 rfl rfl rfl rfl ?_
  refine l_val (r_move (v := .int _ _) rfl rfl) rfl rfl ?_
  refine l_callR hW hbs en74 (hP.2.past hW.below) rfl rfl rfl rfl ?_
  intro W hW
  refine l_val (r_move (v := .tuple _) rfl rfl) rfl rfl ?_
  refine l_val (r_extract (v := .int _ _) rfl rfl rfl) rfl rfl ?_
  refine l_val (r_extract (v := .bool _) rfl rfl rfl) rfl rfl ?_
  refine l_val (r_assign (v := .int _ _) rfl rfl) rfl rfl ?_
  refine l_val (r_assign (v := .bool _) rfl rfl) rfl rfl ?_
  refine l_end ?_
  refine n_then ?_
  refine c_seq ?_
  refine c_reg ?_
  refine l_val (r_move (v := .bool _) rfl rfl) rfl rfl ?_
  refine l_val (r_assign (v := .bool _) rfl rfl) rfl rfl ?_
  refine l_end ?_
  refine n_then ?_
  refine c_ret ?_
  refine ret_tmp (v := .bool (c.contains x)) rfl ?_ ⟨rfl, hW.below⟩
  rfl

set_option maxRecDepth 10000 in
/-- slices.IndexFunc[[]int,int] -/
theorem g_IndexFunc (t : Sl) (c : List Int) (gx : Nat) (hc : c.Pairwise (· ≤ ·)) (hcl : c.length ≤ 100) (aa : Option Addr) (an ac : Nat) (l : List Int) (hl : l.length ≤ 4294967296) : GivesR Try.prog 104 [.slice aa an ac, .func (.func 73) #[] #[.pointer (some ⟨gx, 0, none⟩)]].toArray (fun w => (w.cell? ⟨gx, 6, none⟩ = some t.v ∧ RdI w t c) ∧ RdI w ⟨aa, an, ac⟩ l) (.int .i64 (findI l.length fun k => c.contains (at_ l k))) := by
  refine givesR_of Try.func104 rfl (bs := [.slice aa an ac, .func (.func 73) #[] #[.pointer (some ⟨gx, 0, none⟩)], undef, undef, undef, undef, undef, undef, undef, undef, undef, undef, undef, undef, undef, undef, undef, undef, undef]) rfl ?_
  intro w hP hW
  have hn : an = l.length := hP.2.len
  refine c_seq ?_
  refine c_reg ?_
  refine l_val (r_assign (v := .int _ _) rfl rfl) rfl rfl ?_
  refine l_end ?_
  refine n_then ?_
  refine c_seq ?_
  refine c_seq ?_
  refine c_reg ?_
  refine l_val (r_move (v := .slice _ _ _) rfl rfl) rfl rfl ?_
  refine l_val (r_lenSlice Try.underlying35 rfl rfl) rfl rfl ?_
  refine l_val (r_move (v := .int _ _) rfl rfl) rfl rfl ?_
  refine l_end ?_
  refine n_then ?_
  refine c_block ?_
  refine c_loop (fun (i : Nat) (j : Nat → Value) => [.slice aa an ac, .func (.func 73) #[] #[.pointer (some ⟨gx, 0, none⟩)], j 2, j 3, j 4, j 5, .slice aa an ac, .int .i64 (an : Int), .int .i64 (i : Int), j 9, j 10, j 11, j 12, j 13, j 14, j 15, j 16, j 17, j 18]) (fun (i : Nat) => []) (fun (i : Nat) => i ≤ an ∧ ∀ k, k < i → c.contains (at_ l k) = false) (fun (i : Nat) => an - i) 0 (by kernel_rfl) hW ⟨by omega, all_zero⟩ ?_
  intro i j W hx hW
  obtain ⟨hi0, hib⟩ := hx
  refine c_seq ?_
  refine c_reg ?_
  refine l_val (r_lssN rfl rfl rfl rfl) rfl rfl ?_
  refine l_split ?_ ?_
  · intro hc1
    replace hc1 := of_decide_eq_true hc1
    obtain ⟨b0, o0, ha, hq⟩ := hP.2.ptr (by omega)
    simp only at ha
    subst ha
    refine l_end ?_
    refine n_then ?_
    refine c_seq ?_
    refine c_true rfl ?_
    refine c_skip ?_
    refine n_then ?_
    refine c_seq ?_
    refine c_block ?_
    refine c_seq ?_
    refine c_reg ?_
    refine l_val (r_move (v := .int _ _) rfl rfl) rfl rfl ?_
    refine l_val (r_assign (v := .int _ _) rfl rfl) rfl rfl ?_
    refine l_end ?_
    refine n_then ?_
    refine c_seq ?_
    refine c_reg ?_
    refine l_val (r_move (v := .func _ _ _) rfl rfl) rfl rfl ?_
    refine l_val (r_move (v := .slice _ _ _) rfl rfl) rfl rfl ?_
    refine l_val (r_move (v := .int _ _) rfl rfl) rfl rfl ?_
    refine l_val (r_indexAddrSl2 (n := i) Try.underlying35 tyC3.size rfl rfl rfl (by omega)) rfl rfl ?_
    refine l_loadF hW tyC3 (v := .int .i64 (at_ l (i))) (hq (i) (by omega)) rfl rfl rfl rfl ?_
    refine l_callVR hW (args := [.int .i64 (at_ l i)]) (cap := [.pointer (some ⟨gx, 0, none⟩)]) (g_opens1 t c gx hc hcl (at_ l i)) en73 ⟨cell_past hW.below hP.1.1, hP.1.2.past hW.below⟩ rfl rfl rfl rfl rfl ?_
    intro W hW
    refine l_split ?_ ?_
    · intro hc2
      refine l_end ?_
      refine n_then ?_
      refine c_true rfl ?_
      refine c_seq ?_
      refine c_reg ?_
      refine l_val (r_move (v := .int _ _) rfl rfl) rfl rfl ?_
      refine l_val (r_assign (v := .int _ _) rfl rfl) rfl rfl ?_
      refine l_end ?_
      refine n_then ?_
      refine c_ret ?_
      refine r_block ?_
      refine r_then ?_
      refine r_then ?_
      refine r_block ?_
      refine r_then ?_
      refine ret_tmp (v := .int .i64 (findI l.length fun k => c.contains (at_ l k))) rfl ?_ ⟨rfl, hW.below⟩
      exact congrArg (Value.int .i64) (find_yes (by omega) hc2 hib).symm
    · intro hc2
      refine l_end ?_
      refine n_then ?_
      refine c_false rfl ?_
      refine c_skip ?_
      refine n_block ?_
      refine n_then ?_
      refine c_reg ?_
      refine l_val (r_addN (n := 1) rfl rfl rfl (by omega)) rfl rfl ?_
      refine l_val (r_move (v := .int _ _) rfl rfl) rfl rfl ?_
      refine l_end ?_
      refine n_then ?_
      exact loop_next (i + 1) (by kernel_rfl) hW ⟨by omega, all_upto hib hc2⟩ (by omega)
  · intro hc1
    replace hc1 := of_decide_eq_false hc1
    refine l_end ?_
    refine n_then ?_
    refine c_seq ?_
    refine c_false rfl ?_
    refine c_exit ?_
    refine x_then ?_
    refine x_then ?_
    refine x_hit ?_
    refine n_then ?_
    refine c_seq ?_
    refine c_reg ?_
    refine l_val (r_assign (v := .int _ _) rfl rfl) rfl rfl ?_
    refine l_end ?_
    refine n_then ?_
    refine c_ret ?_
    refine ret_tmp (v := .int .i64 (findI l.length fun k => c.contains (at_ l k))) rfl ?_ ⟨rfl, hW.below⟩
    exact congrArg (Value.int .i64) (find_no fun k hk => hib k (by omega)).symm

set_option maxRecDepth 10000 in
/-- slices.ContainsFunc[[]int,int] -/
theorem g_ContainsFunc (t : Sl) (c : List Int) (gx : Nat) (hc : c.Pairwise (· ≤ ·)) (hcl : c.length ≤ 100) (aa : Option Addr) (an ac : Nat) (l : List Int) (hl : l.length ≤ 4294967296) : GivesR Try.prog 72 [.slice aa an ac, .func (.func 73) #[] #[.pointer (some ⟨gx, 0, none⟩)]].toArray (fun w => (w.cell? ⟨gx, 6, none⟩ = some t.v ∧ RdI w t c) ∧ RdI w ⟨aa, an, ac⟩ l) (.bool (hasP c l)) := by
  refine givesR_of Try.func72 rfl (bs := [.slice aa an ac, .func (.func 73) #[] #[.pointer (some ⟨gx, 0, none⟩)], undef, undef, undef, undef, undef, undef, undef]) rfl ?_
  intro w hP hW
  refine c_seq ?_
  refine c_reg ?_
  refine l_val (r_assign (v := .bool _) rfl rfl) rfl rfl ?_
  refine l_end ?_
  refine n_then ?_
  refine c_seq ?_
  refine c_reg ?_
  refine l_val (r_move (v := .slice _ _ _) rfl rfl) rfl rfl ?_
  refine l_val (r_move (v := .func _ _ _) rfl rfl) rfl rfl ?_
  refine l_callR hW (g_IndexFunc t c gx hc hcl aa an ac l hl) en104 ⟨⟨cell_past hW.below hP.1.1, hP.1.2.past hW.below⟩, hP.2.past hW.below⟩ rfl rfl rfl rfl ?_
  intro W hW
  refine l_val (r_geq rfl rfl rfl rfl) rfl rfl ?_
  refine l_val (r_assign (v := .bool _) rfl rfl) rfl rfl ?_
  refine l_end ?_
  refine n_then ?_
  refine c_ret ?_
  refine ret_tmp (v := .bool (hasP c l)) rfl ?_ ⟨rfl, hW.below⟩
  exact congrArg Value.bool (find_any _ _)

set_option maxRecDepth 10000 in
/-- headend/trace.opens -/
theorem g_opens (b : Bo) (t : Sl) (ra : Option Addr) (rn rc : Nat) (ss : List Sl) (gs : List (List Int)) (hc : b.l.Pairwise (· ≤ ·)) (hl : b.l.length ≤ 100) (hg : gs.length ≤ 100) (hgl : ∀ m ∈ gs, m.length ≤ 4294967296) : GivesX Try.prog 41 [.agg (boC b t).toArray, .slice ra rn rc].toArray (fun w => RdI w t b.l ∧ RdG w ⟨ra, rn, rc⟩ ss gs) (NewSl 4 1 gs.length (tl (opl b.l gs gs.length))) := by
  refine givesX_of Try.func41 rfl (bs := [.agg (boC b t).toArray, .slice ra rn rc, undef, undef, undef, undef, undef, undef, undef, undef, undef, undef, undef, undef, undef, undef, undef, undef, undef, undef, undef, undef]) rfl ?_
  intro w hP hW
  have hn := hP.2.n
  have hn2 := hP.2.len
  simp only at hn
  refine c_seq ?_
  refine c_reg ?_
  refine l_box hW rfl rfl rfl rfl ?_
  intro g1 W hW
  refine l_val (r_assign (v := .slice _ _ _) rfl rfl) rfl rfl ?_
  refine l_end ?_
  refine n_then ?_
  refine c_seq ?_
  refine c_reg ?_
  refine l_val (r_assign (v := .slice _ _ _) rfl rfl) rfl rfl ?_
  refine l_end ?_
  refine n_then ?_
  refine c_seq ?_
  refine c_seq ?_
  refine c_reg ?_
  refine l_val (r_move (v := .slice _ _ _) rfl rfl) rfl rfl ?_
  refine l_val (r_lenSlice Try.underlying69 rfl rfl) rfl rfl ?_
  refine l_val (r_move (v := .int _ _) rfl rfl) rfl rfl ?_
  refine l_end ?_
  refine n_then ?_
  refine c_block ?_
  refine c_loop (fun (x : Nat × Option Addr × Nat × List Blk) (j : Nat → Value) => [.agg (boC b t).toArray, .slice ra rn rc, .pointer (some ⟨g1, 0, none⟩), j 3, j 4, .slice x.2.1 x.1 x.2.2.1, j 6, j 7, .slice ra rn rc, .int .i64 (rn : Int), .int .i64 (x.1 : Int), j 11, j 12, j 13, j 14, j 15, j 16, j 17, j 18, j 19, j 20, j 21]) (fun (x : Nat × Option Addr × Nat × List Blk) => [⟨g1, (boC b t), 39⟩] ++ x.2.2.2) (fun (x : Nat × Option Addr × Nat × List Blk) => x.1 ≤ rn ∧ OwnSl 4 1 x.2.1 x.1 x.2.2.1 (tl (opl b.l gs x.1)) x.2.2.2) (fun (x : Nat × Option Addr × Nat × List Blk) => rn - x.1) (0, none, 0, []) (by kernel_rfl) (by simpa using hW) ⟨Nat.zero_le _, OwnSl.nil 4 1⟩ ?_
  intro x j W hx hW
  obtain ⟨hx, hO⟩ := hx
  refine c_seq ?_
  refine c_reg ?_
  refine l_val (r_lssN rfl rfl rfl rfl) rfl rfl ?_
  refine l_split ?_ ?_
  · intro hc1
    replace hc1 := of_decide_eq_true hc1
    obtain ⟨b0, o0, rfl⟩ := hP.2.ptr (by omega)
    obtain ⟨sm, m, hs1, hm1, hcell, hrd⟩ := hP.2.get (i := x.1) (by omega)
    have hgd : gs.getD x.1 [] = m := by rw [List.getD_eq_getElem?_getD, hm1]; rfl
    refine l_end ?_
    refine n_then ?_
    refine c_seq ?_
    refine c_true rfl ?_
    refine c_skip ?_
    refine n_then ?_
    refine c_seq ?_
    refine c_block ?_
    refine c_seq ?_
    refine c_reg ?_
    refine l_val (r_indexAddrSl2 (n := x.1) Try.underlying69 tyC35.size rfl rfl rfl (by omega)) rfl rfl ?_
    refine l_loadF hW tyC35 (v := sm.v) hcell rfl rfl rfl rfl ?_
    refine l_val (r_assign (v := .slice _ _ _) rfl rfl) rfl rfl ?_
    refine l_end ?_
    refine n_then ?_
    refine c_reg ?_
    refine l_val (r_move (v := .slice _ _ _) rfl rfl) rfl rfl ?_
    refine l_val (r_move (v := .slice _ _ _) rfl rfl) rfl rfl ?_
    refine l_val (r_closure (vs := [.pointer (some ⟨g1, 0, none⟩)]) rfl rfl) rfl rfl ?_
    refine l_callR hW (g_ContainsFunc t b.l g1 hc hl sm.a sm.n sm.c m (hgl m (List.mem_of_getElem? hm1))) en72 ⟨⟨(cell_at (hW.at 0 rfl) 6).trans rfl, hP.1.past hW.below⟩, hrd.past hW.below⟩ rfl rfl rfl rfl ?_
    intro W hW
    refine l_buildSliceF hW (bsl92_1_0 _) rfl rfl rfl rfl ?_
    intro gb W hW
    refine l_appendB tyE92 (L := [_, _]) hO hW 0 (N := x.1 + 1) rfl rfl rfl rfl rfl rfl rfl rfl (by simp [Value.oneCell']) (by unfold maxLen; omega) (by omega) ?_
    intro a1 c1 Bs1 W hO1 hW
    replace hO1 := hO1.castx rfl (xs' := tl (opl b.l gs (x.1 + 1))) (by rw [opl_succ, tl_append, hgd]; rfl)
    refine l_val (r_assign (v := .slice _ _ _) rfl rfl) rfl rfl ?_
    refine l_end ?_
    refine n_block ?_
    refine n_then ?_
    refine c_reg ?_
    refine l_val (r_addN (n := 1) rfl rfl rfl (by omega)) rfl rfl ?_
    refine l_val (r_move (v := .int _ _) rfl rfl) rfl rfl ?_
    refine l_end ?_
    refine n_then ?_
    exact loop_next (x.1 + 1, a1, c1, Bs1) (by kernel_rfl) (hW.drop 1) ⟨by simp only; omega, hO1⟩ (by simp only; omega)
  · intro hc1
    replace hc1 := of_decide_eq_false hc1
    refine l_end ?_
    refine n_then ?_
    refine c_seq ?_
    refine c_false rfl ?_
    refine c_exit ?_
    refine x_then ?_
    refine x_then ?_
    refine x_hit ?_
    refine n_then ?_
    refine c_seq ?_
    refine c_reg ?_
    refine l_val (r_move (v := .slice _ _ _) rfl rfl) rfl rfl ?_
    refine l_val (r_assign (v := .slice _ _ _) rfl rfl) rfl rfl ?_
    refine l_end ?_
    refine n_then ?_
    refine c_ret ?_
    refine ret_tmp (v := .slice _ _ _) rfl rfl ?_
    have e : x.1 = gs.length := by omega
    exact ⟨_, _, rfl, ⟨_, _, by rw [e], by rw [← e]; exact hO⟩, hW.sub (List.sublist_append_right _ _)⟩

end Go.Proofs.Ytoegpalacppllaa

/- A map of the call's own, with small numbers for keys. No function of the program is in sight here. -/
namespace Go.Proofs.Ytoegpalacppllaa
open Go.RowKit Go.MapKept

section
variable {P : Program} {ops : Array Oper} {Q : Exit → Act → World → Prop} {bs : List Value} {us : List (Nat × Value)} {ds : List Deferred} {b : Base} {W : World} {rest : List Oper} {o : Oper} {L : List Blk} {d : Nat} {v : Value} {r : Option (Option Nat)} {n : Nat}
theorem l_makeMap (hW : Cl b L W) {t : TypeId} (hg : o.guard = none) (ho : o.op = .makeMap t none) (hd : o.dst = some d)
    (h : ∀ m W', Cl ⟨b.w, W'⟩ L W' → W'.heap[m]? = some (.map #[] 0) → b.w.heap.size ≤ m → LW r n P ops Q rest (fr bs ((d, .map (some m)) :: us) ds) W') : LW r n P ops Q (o :: rest) (fr bs us ds) W := by
  have hrun : (execOp (ev bs us) o).run P W = .ok (.value (.map (some W.heap.size))) (W.alloc (.map #[] 0)) := by
    unfold execOp
    simp [ho, Instr.makeMap]
  exact l_run hg hrun hd (h _ _ (hW.rebase ((Below.refl _ W).alloc (Nat.le_refl _) _)) (World.alloc_heap_new W _) hW.below.size)
theorem l_insert (hW : Cl b L W) {m k : Nat} {es : Array MapEntry} {clock : Nat} {t kt et : TypeId} {x y z : Operand} (hm : W.heap[m]? = some (.map es clock)) (hb : b.w.heap.size ≤ m) (ht : P.underlying t = some (.map kt et)) (hk : P.underlying kt = some (.int .u8)) (hg : o.guard = none) (ho : o.op = .insert t x y z)
    (hx : ev bs us x = .map (some m)) (hy : ev bs us y = .int .u8 (k : Int)) (hz : ev bs us z = v) (hd : o.dst = none) (hf : Instr.findNow (.int .u8) (.int .u8 (k : Int)) es.toList 0 = some none)
    (h : ∀ W', Cl ⟨b.w, W'⟩ L W' → W'.heap[m]? = some (.map (es.push { key := .int .u8 (k : Int), val := v, born := clock }) (clock + 1)) → LW r n P ops Q rest (fr bs us ds) W') : LW r n P ops Q (o :: rest) (fr bs us ds) W := by
  have hrun : (execOp (ev bs us) o).run P W = .ok .skip (W.putObj m (.map (es.push { key := .int .u8 (k : Int), val := v, born := clock }) (clock + 1))) := by
    unfold execOp
    simp only [ho, hx, hy, hz, Instr.mapUpdate, Sem.run_bind, run_underlying ht, Result.andThen_ok, Go.MapKept.run_getObj_map hm, Go.MapKept.run_checkKey hk (show IsKey (.int .u8) (.int .u8 (k : Int)) from rfl) false 9999, Go.MapKept.run_findKey hk hf, Go.MapKept.run_setObj_map _ hm, Sem.run_pure]
    rfl
  refine LW.skip (wanted_none hg) (by rw [eval_ev]; exact hrun) ?_
  rw [hd, put_none]
  exact h _ (hW.put _ hm rfl hb) (World.putObj_heap_same (Array.getElem?_eq_some_iff.1 hm).1)
theorem r_nilCheck {x : Operand} {g i : Nat} (ho : o.op = .nilCheck x) (hx : ev bs us x = .pointer (some ⟨g, i, none⟩)) : Runs P bs us o (.pointer (some ⟨g, i, none⟩)) := fun w => by
  unfold execOp
  simp [ho, hx]
theorem r_lookup {m k i : Nat} {es : Array MapEntry} {clock : Nat} {t kt et : TypeId} {x y : Operand} (hm : W.heap[m]? = some (.map es clock)) (ht : P.underlying t = some (.map kt et)) (hk : P.underlying kt = some (.int .u8)) (ho : o.op = .lookup t x y false)
    (hx : ev bs us x = .map (some m)) (hy : ev bs us y = .int .u8 (k : Int)) (hf : Instr.findNow (.int .u8) (.int .u8 (k : Int)) es.toList 0 = some (some (i, v))) : (execOp (ev bs us) o).run P W = .ok (.value v) W := by
  unfold execOp
  simp only [ho, hx, hy, Instr.lookup, Sem.run_bind, run_underlying ht, Result.andThen_ok, Go.MapKept.run_getObj_map hm, Sem.run_pure, Go.MapKept.run_checkKey hk (show IsKey (.int .u8) (.int .u8 (k : Int)) from rfl) es.isEmpty 9999, Go.MapKept.run_findKey hk hf]
  rfl
end
end Go.Proofs.Ytoegpalacppllaa

/- How a box plays, by the program. -/
namespace Go.Proofs.Ytoegpalacppllaa
open Go.RowKit Pl
open Tr Hn
set_option maxRecDepth 10000 in
/-- headend/trace.plays$1 -/
theorem g_plays1 (gv : Nat) (fi : Bool) : GivesR Try.prog 100 [.pointer (some ⟨gv, 0, none⟩)].toArray (fun w => w.cell? ⟨gv, 2, none⟩ = some (.bool fi)) (.bool fi) := by
  refine givesR_of Try.func100 rfl (bs := [.pointer (some ⟨gv, 0, none⟩), undef, undef, undef]) rfl ?_
  intro w hP hW
  refine c_seq ?_
  refine c_reg ?_
  refine l_val (r_assign (v := .bool _) rfl rfl) rfl rfl ?_
  refine l_end ?_
  refine n_then ?_
  refine c_seq ?_
  refine c_reg ?_
  refine l_val (r_fieldAddr 2 Try.underlying130 rfl tyC4.size rfl rfl rfl) rfl rfl ?_
  refine l_loadF hW tyC4 (v := .bool fi) hP rfl rfl rfl rfl ?_
  refine l_val (r_assign (v := .bool _) rfl rfl) rfl rfl ?_
  refine l_end ?_
  refine n_then ?_
  refine c_ret ?_
  refine ret_tmp (v := .bool fi) rfl ?_ ⟨rfl, hW.below⟩
  rfl

set_option maxRecDepth 10000 in
/-- headend/trace.plays$2 -/
theorem g_plays2  : Gives Try.prog 101 [].toArray (.bool false) := by
  refine gives_of Try.func101 rfl (bs := [undef]) rfl ?_
  intro w hW
  refine c_seq ?_
  refine c_reg ?_
  refine l_val (r_assign (v := .bool _) rfl rfl) rfl rfl ?_
  refine l_end ?_
  refine n_then ?_
  refine c_seq ?_
  refine c_reg ?_
  refine l_val (r_assign (v := .bool _) rfl rfl) rfl rfl ?_
  refine l_end ?_
  refine n_then ?_
  refine c_ret ?_
  refine ret_tmp (v := .bool false) rfl ?_ ⟨rfl, hW.below⟩
  rfl

set_option maxRecDepth 10000 in
/-- headend/trace.plays$3 -/
theorem g_plays3  : Gives Try.prog 102 [].toArray (.bool true) := by
  refine gives_of Try.func102 rfl (bs := [undef]) rfl ?_
  intro w hW
  refine c_seq ?_
  refine c_reg ?_
  refine l_val (r_assign (v := .bool _) rfl rfl) rfl rfl ?_
  refine l_end ?_
  refine n_then ?_
  refine c_seq ?_
  refine c_reg ?_
  refine l_val (r_assign (v := .bool _) rfl rfl) rfl rfl ?_
  refine l_end ?_
  refine n_then ?_
  refine c_ret ?_
  refine ret_tmp (v := .bool true) rfl ?_ ⟨rfl, hW.below⟩
  rfl

set_option maxRecDepth 10000 in
/-- headend/trace.plays$4 -/
theorem g_plays4 (b : Bo) (r wr gx gv : Nat) (h1 : r ≤ 100) (h2 : wr ≤ 100) : GivesR Try.prog 103 [.pointer (some ⟨gx, 0, none⟩), .pointer (some ⟨gv, 0, none⟩)].toArray (fun w => w.cell? ⟨gv, 0, none⟩ = some (.int .i64 (r : Int)) ∧ w.cell? ⟨gv, 1, none⟩ = some (.int .i64 (wr : Int)) ∧ ∀ j v, (kc b.k)[j]? = some v → w.cell? ⟨gx, 10 + j, none⟩ = some v) (.bool (oddB b r wr)) := by
  refine givesR_of Try.func103 rfl (bs := [.pointer (some ⟨gx, 0, none⟩), .pointer (some ⟨gv, 0, none⟩), undef, undef, undef, undef, undef, undef, undef, undef, undef, undef, undef, undef, undef]) rfl ?_
  intro w hP hW
  refine c_seq ?_
  refine c_reg ?_
  refine l_val (r_assign (v := .bool _) rfl rfl) rfl rfl ?_
  refine l_end ?_
  refine n_then ?_
  refine c_seq ?_
  refine c_reg ?_
  refine l_val (r_fieldAddr 10 Try.underlying39 rfl tyA37.size rfl rfl rfl) rfl rfl ?_
  refine l_loadFs hW tyA37 hP.2.2 (kc_len _) rfl rfl rfl rfl ?_
  refine l_val (r_fieldAddr 1 Try.underlying130 rfl tyC3.size rfl rfl rfl) rfl rfl ?_
  refine l_loadF hW tyC3 (v := .int .i64 (wr : Int)) hP.2.1 rfl rfl rfl rfl ?_
  refine l_val (r_mulN (m := 64) rfl rfl rfl (by omega)) rfl rfl ?_
  refine l_val (r_addN (m := 4294967296) rfl rfl rfl (by omega)) rfl rfl ?_
  refine l_val (r_fieldAddr 0 Try.underlying130 rfl tyC3.size rfl rfl rfl) rfl rfl ?_
  refine l_loadF hW tyC3 (v := .int .i64 (r : Int)) hP.1 rfl rfl rfl rfl ?_
  refine l_val (r_addN rfl rfl rfl (by omega)) rfl rfl ?_
  refine l_val (r_conv_i64_u64 Try.underlying3 Try.underlying22 rfl rfl) rfl rfl ?_
  refine l_call hW (g_Number b.k (BitVec.ofNat 64 (4294967296 + 64 * wr + r)) 2#64) en70 rfl rfl rfl rfl ?_
  intro W hW
  refine l_val (r_eql_u64 (y := 1#64) rfl rfl rfl rfl) rfl rfl ?_
  refine l_val (r_assign (v := .bool _) rfl rfl) rfl rfl ?_
  refine l_end ?_
  refine n_then ?_
  refine c_ret ?_
  refine ret_tmp (v := .bool (oddB b r wr)) rfl ?_ ⟨rfl, hW.below⟩
  rfl

theorem boC_kc (b : Bo) (t : Sl) {j : Nat} {v : Value} (h : (kc b.k)[j]? = some v) : (boC b t)[10 + j]? = some v := by
  have hj : j < 16 := by have := (List.getElem?_eq_some_iff.1 h).1; rw [kc_len] at this; exact this
  show ([_, _, _, _, _, _, _, _, _, _] ++ (kc b.k ++ [_, _]))[10 + j]? = _
  rw [List.getElem?_append_right (by simp), List.getElem?_append_left (by rw [kc_len]; simp; omega)]
  simpa using h
set_option maxRecDepth 10000 in
/-- headend/trace.plays -/
theorem g_plays_m1 (b : Bo) (t : Sl) (r wr : Nat) (fi : Bool) (hm : b.m = 1) : Gives Try.prog 71 [.agg (boC b t).toArray, .agg [.int .i64 (r : Int), .int .i64 (wr : Int), .bool fi].toArray].toArray (.bool (playB b r wr fi)) := by
  refine gives_of Try.func71 rfl (bs := [.agg (boC b t).toArray, .agg [.int .i64 (r : Int), .int .i64 (wr : Int), .bool fi].toArray, undef, undef, undef, undef, undef, undef, undef, undef, undef, undef, undef, undef, undef]) rfl ?_
  intro w hW
  refine c_seq ?_
  refine c_reg ?_
  refine l_box hW rfl rfl rfl rfl ?_
  intro g1 W hW
  refine l_box hW rfl rfl rfl rfl ?_
  intro g2 W hW
  refine l_val (r_assign (v := .bool _) rfl rfl) rfl rfl ?_
  refine l_end ?_
  refine n_then ?_
  refine c_seq ?_
  refine c_reg ?_
  refine l_makeMap hW rfl rfl rfl ?_
  intro gm W hW hM hbm
  refine l_val (r_closure (vs := [.pointer (some ⟨g2, 0, none⟩)]) rfl rfl) rfl rfl ?_
  refine l_insert (k := 1) hW hM hbm Try.underlying167 Try.underlying5 rfl rfl rfl rfl rfl rfl (by first | rfl | (simp [Go.Instr.findNow, Go.Instr.sameNow]; done)) ?_
  intro W hW hM
  refine l_insert (k := 2) hW hM hbm Try.underlying167 Try.underlying5 rfl rfl rfl rfl rfl rfl (by first | rfl | (simp [Go.Instr.findNow, Go.Instr.sameNow]; done)) ?_
  intro W hW hM
  refine l_insert (k := 3) hW hM hbm Try.underlying167 Try.underlying5 rfl rfl rfl rfl rfl rfl (by first | rfl | (simp [Go.Instr.findNow, Go.Instr.sameNow]; done)) ?_
  intro W hW hM
  refine l_val (r_closure (vs := [.pointer (some ⟨g1, 0, none⟩), .pointer (some ⟨g2, 0, none⟩)]) rfl rfl) rfl rfl ?_
  refine l_insert (k := 4) hW hM hbm Try.underlying167 Try.underlying5 rfl rfl rfl rfl rfl rfl (by first | rfl | (simp [Go.Instr.findNow, Go.Instr.sameNow]; done)) ?_
  intro W hW hM
  refine l_val (r_move (v := .map _) rfl rfl) rfl rfl ?_
  refine l_val (r_assign (v := .map _) rfl rfl) rfl rfl ?_
  refine l_end ?_
  refine n_then ?_
  refine c_seq ?_
  refine c_reg ?_
  refine l_val (r_move (v := .map _) rfl rfl) rfl rfl ?_
  refine l_val (r_fieldAddr 7 Try.underlying39 rfl tyC5.size rfl rfl rfl) rfl rfl ?_
  refine l_loadC hW 1 tyC5 rfl rfl rfl rfl rfl rfl ?_
  refine l_run rfl (r_lookup (v := .func (.func 100) #[] #[.pointer (some ⟨g2, 0, none⟩)]) (k := 1) (i := 0) hM Try.underlying167 Try.underlying5 rfl rfl (congrArg (Value.int .u8) hm) (by first | rfl | (simp [Go.Instr.findNow, Go.Instr.sameNow]; done))) rfl ?_
  refine l_callVR hW (args := []) (cap := [.pointer (some ⟨g2, 0, none⟩)]) (g_plays1 g2 fi) en100 ((cell_at (hW.at 0 rfl) 2).trans rfl) rfl rfl rfl rfl rfl ?_
  intro W hW
  refine l_val (r_assign (v := .bool _) rfl rfl) rfl rfl ?_
  refine l_end ?_
  refine n_then ?_
  refine c_ret ?_
  refine ret_tmp (v := .bool (playB b r wr fi)) rfl ?_ ⟨rfl, hW.below⟩
  exact congrArg Value.bool (play_1 hm).symm

set_option maxRecDepth 10000 in
/-- headend/trace.plays -/
theorem g_plays_m2 (b : Bo) (t : Sl) (r wr : Nat) (fi : Bool) (hm : b.m = 2) : Gives Try.prog 71 [.agg (boC b t).toArray, .agg [.int .i64 (r : Int), .int .i64 (wr : Int), .bool fi].toArray].toArray (.bool (playB b r wr fi)) := by
  refine gives_of Try.func71 rfl (bs := [.agg (boC b t).toArray, .agg [.int .i64 (r : Int), .int .i64 (wr : Int), .bool fi].toArray, undef, undef, undef, undef, undef, undef, undef, undef, undef, undef, undef, undef, undef]) rfl ?_
  intro w hW
  refine c_seq ?_
  refine c_reg ?_
  refine l_box hW rfl rfl rfl rfl ?_
  intro g1 W hW
  refine l_box hW rfl rfl rfl rfl ?_
  intro g2 W hW
  refine l_val (r_assign (v := .bool _) rfl rfl) rfl rfl ?_
  refine l_end ?_
  refine n_then ?_
  refine c_seq ?_
  refine c_reg ?_
  refine l_makeMap hW rfl rfl rfl ?_
  intro gm W hW hM hbm
  refine l_val (r_closure (vs := [.pointer (some ⟨g2, 0, none⟩)]) rfl rfl) rfl rfl ?_
  refine l_insert (k := 1) hW hM hbm Try.underlying167 Try.underlying5 rfl rfl rfl rfl rfl rfl (by first | rfl | (simp [Go.Instr.findNow, Go.Instr.sameNow]; done)) ?_
  intro W hW hM
  refine l_insert (k := 2) hW hM hbm Try.underlying167 Try.underlying5 rfl rfl rfl rfl rfl rfl (by first | rfl | (simp [Go.Instr.findNow, Go.Instr.sameNow]; done)) ?_
  intro W hW hM
  refine l_insert (k := 3) hW hM hbm Try.underlying167 Try.underlying5 rfl rfl rfl rfl rfl rfl (by first | rfl | (simp [Go.Instr.findNow, Go.Instr.sameNow]; done)) ?_
  intro W hW hM
  refine l_val (r_closure (vs := [.pointer (some ⟨g1, 0, none⟩), .pointer (some ⟨g2, 0, none⟩)]) rfl rfl) rfl rfl ?_
  refine l_insert (k := 4) hW hM hbm Try.underlying167 Try.underlying5 rfl rfl rfl rfl rfl rfl (by first | rfl | (simp [Go.Instr.findNow, Go.Instr.sameNow]; done)) ?_
  intro W hW hM
  refine l_val (r_move (v := .map _) rfl rfl) rfl rfl ?_
  refine l_val (r_assign (v := .map _) rfl rfl) rfl rfl ?_
  refine l_end ?_
  refine n_then ?_
  refine c_seq ?_
  refine c_reg ?_
  refine l_val (r_move (v := .map _) rfl rfl) rfl rfl ?_
  refine l_val (r_fieldAddr 7 Try.underlying39 rfl tyC5.size rfl rfl rfl) rfl rfl ?_
  refine l_loadC hW 1 tyC5 rfl rfl rfl rfl rfl rfl ?_
  refine l_run rfl (r_lookup (v := .func (.func 101) #[] #[]) (k := 2) (i := 1) hM Try.underlying167 Try.underlying5 rfl rfl (congrArg (Value.int .u8) hm) (by first | rfl | (simp [Go.Instr.findNow, Go.Instr.sameNow]; done))) rfl ?_
  refine l_callV hW (args := []) (cap := []) g_plays2 en101 rfl rfl rfl rfl rfl ?_
  intro W hW
  refine l_val (r_assign (v := .bool _) rfl rfl) rfl rfl ?_
  refine l_end ?_
  refine n_then ?_
  refine c_ret ?_
  refine ret_tmp (v := .bool (playB b r wr fi)) rfl ?_ ⟨rfl, hW.below⟩
  exact congrArg Value.bool (play_2 (by omega) (by omega) (by omega)).symm

set_option maxRecDepth 10000 in
/-- headend/trace.plays -/
theorem g_plays_m3 (b : Bo) (t : Sl) (r wr : Nat) (fi : Bool) (hm : b.m = 3) : Gives Try.prog 71 [.agg (boC b t).toArray, .agg [.int .i64 (r : Int), .int .i64 (wr : Int), .bool fi].toArray].toArray (.bool (playB b r wr fi)) := by
  refine gives_of Try.func71 rfl (bs := [.agg (boC b t).toArray, .agg [.int .i64 (r : Int), .int .i64 (wr : Int), .bool fi].toArray, undef, undef, undef, undef, undef, undef, undef, undef, undef, undef, undef, undef, undef]) rfl ?_
  intro w hW
  refine c_seq ?_
  refine c_reg ?_
  refine l_box hW rfl rfl rfl rfl ?_
  intro g1 W hW
  refine l_box hW rfl rfl rfl rfl ?_
  intro g2 W hW
  refine l_val (r_assign (v := .bool _) rfl rfl) rfl rfl ?_
  refine l_end ?_
  refine n_then ?_
  refine c_seq ?_
  refine c_reg ?_
  refine l_makeMap hW rfl rfl rfl ?_
  intro gm W hW hM hbm
  refine l_val (r_closure (vs := [.pointer (some ⟨g2, 0, none⟩)]) rfl rfl) rfl rfl ?_
  refine l_insert (k := 1) hW hM hbm Try.underlying167 Try.underlying5 rfl rfl rfl rfl rfl rfl (by first | rfl | (simp [Go.Instr.findNow, Go.Instr.sameNow]; done)) ?_
  intro W hW hM
  refine l_insert (k := 2) hW hM hbm Try.underlying167 Try.underlying5 rfl rfl rfl rfl rfl rfl (by first | rfl | (simp [Go.Instr.findNow, Go.Instr.sameNow]; done)) ?_
  intro W hW hM
  refine l_insert (k := 3) hW hM hbm Try.underlying167 Try.underlying5 rfl rfl rfl rfl rfl rfl (by first | rfl | (simp [Go.Instr.findNow, Go.Instr.sameNow]; done)) ?_
  intro W hW hM
  refine l_val (r_closure (vs := [.pointer (some ⟨g1, 0, none⟩), .pointer (some ⟨g2, 0, none⟩)]) rfl rfl) rfl rfl ?_
  refine l_insert (k := 4) hW hM hbm Try.underlying167 Try.underlying5 rfl rfl rfl rfl rfl rfl (by first | rfl | (simp [Go.Instr.findNow, Go.Instr.sameNow]; done)) ?_
  intro W hW hM
  refine l_val (r_move (v := .map _) rfl rfl) rfl rfl ?_
  refine l_val (r_assign (v := .map _) rfl rfl) rfl rfl ?_
  refine l_end ?_
  refine n_then ?_
  refine c_seq ?_
  refine c_reg ?_
  refine l_val (r_move (v := .map _) rfl rfl) rfl rfl ?_
  refine l_val (r_fieldAddr 7 Try.underlying39 rfl tyC5.size rfl rfl rfl) rfl rfl ?_
  refine l_loadC hW 1 tyC5 rfl rfl rfl rfl rfl rfl ?_
  refine l_run rfl (r_lookup (v := .func (.func 102) #[] #[]) (k := 3) (i := 2) hM Try.underlying167 Try.underlying5 rfl rfl (congrArg (Value.int .u8) hm) (by first | rfl | (simp [Go.Instr.findNow, Go.Instr.sameNow]; done))) rfl ?_
  refine l_callV hW (args := []) (cap := []) g_plays3 en102 rfl rfl rfl rfl rfl ?_
  intro W hW
  refine l_val (r_assign (v := .bool _) rfl rfl) rfl rfl ?_
  refine l_end ?_
  refine n_then ?_
  refine c_ret ?_
  refine ret_tmp (v := .bool (playB b r wr fi)) rfl ?_ ⟨rfl, hW.below⟩
  exact congrArg Value.bool (play_3 hm).symm

set_option maxRecDepth 10000 in
/-- headend/trace.plays -/
theorem g_plays_m4 (b : Bo) (t : Sl) (r wr : Nat) (fi : Bool) (hm : b.m = 4) (h1 : r ≤ 100) (h2 : wr ≤ 100) : Gives Try.prog 71 [.agg (boC b t).toArray, .agg [.int .i64 (r : Int), .int .i64 (wr : Int), .bool fi].toArray].toArray (.bool (playB b r wr fi)) := by
  refine gives_of Try.func71 rfl (bs := [.agg (boC b t).toArray, .agg [.int .i64 (r : Int), .int .i64 (wr : Int), .bool fi].toArray, undef, undef, undef, undef, undef, undef, undef, undef, undef, undef, undef, undef, undef]) rfl ?_
  intro w hW
  refine c_seq ?_
  refine c_reg ?_
  refine l_box hW rfl rfl rfl rfl ?_
  intro g1 W hW
  refine l_box hW rfl rfl rfl rfl ?_
  intro g2 W hW
  refine l_val (r_assign (v := .bool _) rfl rfl) rfl rfl ?_
  refine l_end ?_
  refine n_then ?_
  refine c_seq ?_
  refine c_reg ?_
  refine l_makeMap hW rfl rfl rfl ?_
  intro gm W hW hM hbm
  refine l_val (r_closure (vs := [.pointer (some ⟨g2, 0, none⟩)]) rfl rfl) rfl rfl ?_
  refine l_insert (k := 1) hW hM hbm Try.underlying167 Try.underlying5 rfl rfl rfl rfl rfl rfl (by first | rfl | (simp [Go.Instr.findNow, Go.Instr.sameNow]; done)) ?_
  intro W hW hM
  refine l_insert (k := 2) hW hM hbm Try.underlying167 Try.underlying5 rfl rfl rfl rfl rfl rfl (by first | rfl | (simp [Go.Instr.findNow, Go.Instr.sameNow]; done)) ?_
  intro W hW hM
  refine l_insert (k := 3) hW hM hbm Try.underlying167 Try.underlying5 rfl rfl rfl rfl rfl rfl (by first | rfl | (simp [Go.Instr.findNow, Go.Instr.sameNow]; done)) ?_
  intro W hW hM
  refine l_val (r_closure (vs := [.pointer (some ⟨g1, 0, none⟩), .pointer (some ⟨g2, 0, none⟩)]) rfl rfl) rfl rfl ?_
  refine l_insert (k := 4) hW hM hbm Try.underlying167 Try.underlying5 rfl rfl rfl rfl rfl rfl (by first | rfl | (simp [Go.Instr.findNow, Go.Instr.sameNow]; done)) ?_
  intro W hW hM
  refine l_val (r_move (v := .map _) rfl rfl) rfl rfl ?_
  refine l_val (r_assign (v := .map _) rfl rfl) rfl rfl ?_
  refine l_end ?_
  refine n_then ?_
  refine c_seq ?_
  refine c_reg ?_
  refine l_val (r_move (v := .map _) rfl rfl) rfl rfl ?_
  refine l_val (r_fieldAddr 7 Try.underlying39 rfl tyC5.size rfl rfl rfl) rfl rfl ?_
  refine l_loadC hW 1 tyC5 rfl rfl rfl rfl rfl rfl ?_
  refine l_run rfl (r_lookup (v := .func (.func 103) #[] #[.pointer (some ⟨g1, 0, none⟩), .pointer (some ⟨g2, 0, none⟩)]) (k := 4) (i := 3) hM Try.underlying167 Try.underlying5 rfl rfl (congrArg (Value.int .u8) hm) (by first | rfl | (simp [Go.Instr.findNow, Go.Instr.sameNow]; done))) rfl ?_
  refine l_callVR hW (args := []) (cap := [.pointer (some ⟨g1, 0, none⟩), .pointer (some ⟨g2, 0, none⟩)]) (g_plays4 b r wr g1 g2 h1 h2) en103 ⟨(cell_at (hW.at 0 rfl) 0).trans rfl, (cell_at (hW.at 0 rfl) 1).trans rfl, fun j v hj => (cell_at (hW.at 1 rfl) (10 + j)).trans (boC_kc b t hj)⟩ rfl rfl rfl rfl rfl ?_
  intro W hW
  refine l_val (r_assign (v := .bool _) rfl rfl) rfl rfl ?_
  refine l_end ?_
  refine n_then ?_
  refine c_ret ?_
  refine ret_tmp (v := .bool (playB b r wr fi)) rfl ?_ ⟨rfl, hW.below⟩
  exact congrArg Value.bool (play_4 hm).symm

/-- how a box plays -/
theorem g_plays (b : Bo) (t : Sl) (r wr : Nat) (fi : Bool) (h0 : 1 ≤ b.m) (h4 : b.m ≤ 4) (h1 : r ≤ 100) (h2 : wr ≤ 100) : Gives Try.prog 71 [.agg (boC b t).toArray, .agg [.int .i64 (r : Int), .int .i64 (wr : Int), .bool fi].toArray].toArray (.bool (playB b r wr fi)) := by
  have : b.m = 1 ∨ b.m = 2 ∨ b.m = 3 ∨ b.m = 4 := by omega
  rcases this with h | h | h | h
  · exact g_plays_m1 b t r wr fi h
  · exact g_plays_m2 b t r wr fi h
  · exact g_plays_m3 b t r wr fi h
  · exact g_plays_m4 b t r wr fi h h1 h2
end Go.Proofs.Ytoegpalacppllaa

/- A query, by the program: the box. -/
namespace Go.Proofs.Ytoegpalacppllaa
open Go.RowKit Pl
open Tr Hn
theorem play_congr {b b2 : Bo} {r w : Nat} {fi : Bool} (em : b2.m = b.m) (ek : b2.k = b.k) : playB b2 r w fi = playB b r w fi := by unfold playB oddB; rw [em, ek]
set_option maxRecDepth 10000 in
set_option maxHeartbeats 4000000 in
/-- headend/trace.ask -/
theorem g_ask (q : Bo) (t : Sl) (gx : Nat) (oa : Option Addr) (on oc : Nat) (o : List Bool) (f : Int) (n0 : 0 ≤ q.n) (n8 : q.n ≤ 8) (a0 : 0 ≤ q.a) (a1 : q.a ≤ 100000) (x1 : q.x ≤ q.a) (x0 : 0 ≤ q.x) (m1 : 1 ≤ q.m) (m4 : q.m ≤ 4) (ho : o.length ≤ 100) : GivesS Try.prog 40 [.pointer (some ⟨gx, 0, none⟩), .slice oa on oc, .int .i64 f].toArray (fun b0 L => ∀ W, Cl b0 L W → RdT W ⟨oa, on, oc⟩ o) [⟨gx, (boC q t), 39⟩] (fun v B => v = .bool (plays q o f) ∧ B = [⟨gx, boC (askd q o f) t, 39⟩]) := by
  refine givesS_of Try.func40 rfl (bs := [.pointer (some ⟨gx, 0, none⟩), .slice oa on oc, .int .i64 f, undef, undef, undef, undef, undef, undef, undef, undef, undef, undef, undef, undef, undef, undef, undef, undef, undef, undef, undef, undef, undef, undef, undef, undef, undef, undef, undef, undef, undef, undef, undef, undef, undef, undef, undef, undef, undef, undef, undef, undef, undef, undef, undef, undef, undef, undef, undef, undef, undef, undef, undef, undef, undef, undef, undef, undef, undef, undef, undef, undef, undef, undef, undef, undef, undef, undef, undef, undef, undef, undef, undef, undef, undef, undef, undef, undef, undef, undef, undef, undef, undef, undef, undef, undef, undef, undef, undef, undef, undef, undef, undef, undef, undef, undef, undef, undef, undef, undef, undef, undef, undef, undef, undef, undef, undef, undef, undef, undef, undef, undef, undef, undef, undef, undef, undef, undef, undef, undef, undef, undef, undef, undef, undef, undef, undef, undef, undef]) rfl ?_
  intro b L w hP hW
  have hn : on = o.length := (hP w (hW.sub (List.sublist_append_right _ _))).len
  have ha : q.a = (q.a.toNat : Int) := by omega
  have hb : q.n + 1 = ((q.n.toNat + 1 : Nat) : Int) := by omega
  refine c_seq ?_
  refine c_reg ?_
  refine l_val (r_assign (v := .bool _) rfl rfl) rfl rfl ?_
  refine l_end ?_
  refine n_then ?_
  refine c_seq ?_
  refine c_reg ?_
  refine l_alloc hW tyZ130 rfl rfl rfl ?_
  intro g1 W hW
  refine l_end ?_
  refine n_then ?_
  refine c_seq ?_
  refine c_seq ?_
  refine c_reg ?_
  refine l_val (r_move (v := .slice _ _ _) rfl rfl) rfl rfl ?_
  refine l_val (r_lenSlice Try.underlying92 rfl rfl) rfl rfl ?_
  refine l_val (r_move (v := .int _ _) rfl rfl) rfl rfl ?_
  refine l_end ?_
  refine n_then ?_
  refine c_block ?_
  refine c_loop (fun (x : Nat × Nat × Nat × Bool) (j : Nat → Value) => [.pointer (some ⟨gx, 0, none⟩), .slice oa on oc, .int .i64 f, j 3, j 4, j 5, .bool false, .pointer (some ⟨g1, 0, none⟩), j 8, j 9, j 10, j 11, j 12, j 13, .slice oa on oc, .int .i64 (on : Int), .int .i64 (x.1 : Int), j 17, j 18, j 19, j 20, j 21, j 22, j 23, j 24, j 25, j 26, j 27, j 28, j 29, j 30, j 31, j 32, j 33, j 34, j 35, j 36, j 37, j 38, j 39, j 40, j 41, j 42, j 43, j 44, j 45, j 46, j 47, j 48, j 49, j 50, j 51, j 52, j 53, j 54, j 55, j 56, j 57, j 58, j 59, j 60, j 61, j 62, j 63, j 64, j 65, j 66, j 67, j 68, j 69, j 70, j 71, j 72, j 73, j 74, j 75, j 76, j 77, j 78, j 79, j 80, j 81, j 82, j 83, j 84, j 85, j 86, j 87, j 88, j 89, j 90, j 91, j 92, j 93, j 94, j 95, j 96, j 97, j 98, j 99, j 100, j 101, j 102, j 103, j 104, j 105, j 106, j 107, j 108, j 109, j 110, j 111, j 112, j 113, j 114, j 115, j 116, j 117, j 118, j 119, j 120, j 121, j 122, j 123, j 124, j 125, j 126, j 127, j 128, j 129]) (fun (x : Nat × Nat × Nat × Bool) => [⟨g1, [.int .i64 (x.2.1 : Int), .int .i64 (x.2.2.1 : Int), .bool x.2.2.2], 130⟩, ⟨gx, (boC q t), 39⟩] ++ L) (fun (x : Nat × Nat × Nat × Bool) => x.1 ≤ on ∧ stp o f x.1 = x.2) (fun (x : Nat × Nat × Nat × Bool) => on - x.1) (0, 0, 0, false) (by kernel_rfl) hW ⟨Nat.zero_le _, rfl⟩ ?_
  intro x j W hx hW
  obtain ⟨hx, hst⟩ := hx
  have hle := stp_le o f x.1
  rw [hst] at hle
  refine c_seq ?_
  refine c_reg ?_
  refine l_val (r_lssN rfl rfl rfl rfl) rfl rfl ?_
  refine l_split ?_ ?_
  · intro hc1
    replace hc1 := of_decide_eq_true hc1
    obtain ⟨b0, o0, hao, hc⟩ := (hP W (hW.sub (List.sublist_append_right _ _))).ptr (by omega)
    simp only at hao
    subst hao
    refine l_end ?_
    refine n_then ?_
    refine c_seq ?_
    refine c_true rfl ?_
    refine c_skip ?_
    refine n_then ?_
    refine c_seq ?_
    refine c_block ?_
    refine c_seq ?_
    refine c_reg ?_
    refine l_val (r_move (v := .int _ _) rfl rfl) rfl rfl ?_
    refine l_val (r_indexAddrSl2 (n := x.1) Try.underlying92 tyC4.size rfl rfl rfl (by omega)) rfl rfl ?_
    refine l_loadW tyC4 (v := .bool (o.getD x.1 false)) (hc x.1 (by omega)) rfl rfl rfl rfl ?_
    refine l_split ?_ ?_
    · intro hc2
      refine l_val (r_assign (v := .int _ _) rfl rfl) rfl rfl ?_
      refine l_val (r_assign (v := .bool _) rfl rfl) rfl rfl ?_
      refine l_end ?_
      refine n_then ?_
      refine c_block ?_
      refine c_seq ?_
      refine c_reg ?_
      refine l_val (r_move (v := .bool _) rfl rfl) rfl rfl ?_
      refine l_val (r_not rfl rfl) rfl rfl ?_
      refine l_val (r_assign (v := .bool _) rfl rfl) rfl rfl ?_
      refine l_end ?_
      refine n_then ?_
      refine c_false rfl ?_
      refine c_seq ?_
      refine c_reg ?_
      refine l_val (r_move (v := .int _ _) rfl rfl) rfl rfl ?_
      refine l_val (r_move (v := .int _ _) rfl rfl) rfl rfl ?_
      refine l_val (r_lss rfl rfl rfl rfl) rfl rfl ?_
      refine l_split ?_ ?_
      · intro hc3
        replace hc3 := of_decide_eq_true hc3
        refine l_val (r_assign (v := .bool _) rfl rfl) rfl rfl ?_
        refine l_end ?_
        refine n_then ?_
        refine c_true rfl ?_
        refine c_reg ?_
        refine l_val (r_fieldAddr 1 Try.underlying130 rfl tyC3.size rfl rfl rfl) rfl rfl ?_
        refine l_loadC hW 0 tyC3 rfl rfl rfl rfl rfl rfl ?_
        refine l_val (r_addN (n := 1) rfl rfl rfl (by omega)) rfl rfl ?_
        refine l_val (r_fieldAddr 1 Try.underlying130 rfl tyC3.size rfl rfl rfl) rfl rfl ?_
        refine l_storeC hW 0 tyC3 (v := .int _ _) rfl rfl rfl rfl rfl rfl (by first | rfl | omega | (simp; done) | (simp; omega)) rfl ?_
        intro W hW
        refine l_end ?_
        refine n_block ?_
        refine n_block ?_
        refine n_then ?_
        refine c_reg ?_
        refine l_val (r_addN (n := 1) rfl rfl rfl (by omega)) rfl rfl ?_
        refine l_val (r_move (v := .int _ _) rfl rfl) rfl rfl ?_
        refine l_end ?_
        refine n_then ?_
        exact loop_next (x.1 + 1, x.2.1, x.2.2.1 + 1, x.2.2.2) (by kernel_rfl) hW ⟨by simp only; omega, by simp only [stp_wrong hc2 hc3, hst]⟩ (by simp only; omega)
      · intro hc3
        replace hc3 := of_decide_eq_false hc3
        refine l_val (r_assign (v := .bool _) rfl rfl) rfl rfl ?_
        refine l_end ?_
        refine n_then ?_
        refine c_false rfl ?_
        refine c_seq ?_
        refine c_reg ?_
        refine l_val (r_fieldAddr 2 Try.underlying130 rfl tyC4.size rfl rfl rfl) rfl rfl ?_
        refine l_loadC hW 0 tyC4 rfl rfl rfl rfl rfl rfl ?_
        refine l_split ?_ ?_
        · intro hc4
          refine l_val (r_move (v := .bool _) rfl rfl) rfl rfl ?_
          refine l_not (by kernel_rfl) rfl ?_
          refine l_not (by kernel_rfl) rfl ?_
          refine l_not (by kernel_rfl) rfl ?_
          refine l_not (by kernel_rfl) rfl ?_
          refine l_not (by kernel_rfl) rfl ?_
          refine l_not (by kernel_rfl) rfl ?_
          refine l_val (r_pick (v := .bool _) rfl rfl rfl) rfl rfl ?_
          refine l_val (r_fieldAddr 2 Try.underlying130 rfl tyC4.size rfl rfl rfl) rfl rfl ?_
          refine l_storeC hW 0 tyC4 (v := .bool _) rfl rfl rfl rfl rfl rfl (by first | rfl | omega | (simp; done) | (simp; omega)) rfl ?_
          intro W hW
          refine l_end ?_
          refine n_then ?_
          refine c_reg ?_
          refine l_val (r_fieldAddr 0 Try.underlying130 rfl tyC3.size rfl rfl rfl) rfl rfl ?_
          refine l_loadC hW 0 tyC3 rfl rfl rfl rfl rfl rfl ?_
          refine l_val (r_addN (n := 1) rfl rfl rfl (by omega)) rfl rfl ?_
          refine l_val (r_fieldAddr 0 Try.underlying130 rfl tyC3.size rfl rfl rfl) rfl rfl ?_
          refine l_storeC hW 0 tyC3 (v := .int _ _) rfl rfl rfl rfl rfl rfl (by first | rfl | omega | (simp; done) | (simp; omega)) rfl ?_
          intro W hW
          refine l_end ?_
          refine n_block ?_
          refine n_block ?_
          refine n_then ?_
          refine c_reg ?_
          refine l_val (r_addN (n := 1) rfl rfl rfl (by omega)) rfl rfl ?_
          refine l_val (r_move (v := .int _ _) rfl rfl) rfl rfl ?_
          refine l_end ?_
          refine n_then ?_
          exact loop_next (x.1 + 1, x.2.1 + 1, x.2.2.1, true) (by kernel_rfl) hW ⟨by simp only; omega, by simp only [stp_right hc2 hc3, hst]; exact congrArg (fun z => (x.2.1 + 1, x.2.2.1, z)) (by rw [hc4]; rfl)⟩ (by simp only; omega)
        · intro hc4
          refine l_val (r_move (v := .bool _) rfl rfl) rfl rfl ?_
          refine l_valG (r_fieldAddr 1 Try.underlying130 rfl tyC3.size rfl rfl rfl) (by kernel_rfl) rfl ?_
          refine l_loadCG hW 0 tyC3 (by kernel_rfl) rfl rfl rfl rfl rfl ?_
          refine l_valG (r_fieldAddr 0 Try.underlying130 rfl tyC3.size rfl rfl rfl) (by kernel_rfl) rfl ?_
          refine l_loadCG hW 0 tyC3 (by kernel_rfl) rfl rfl rfl rfl rfl ?_
          refine l_valG (r_addN rfl rfl rfl (by omega)) (by kernel_rfl) rfl ?_
          refine l_valG (r_eqlN (n := 0) rfl rfl rfl rfl) (by kernel_rfl) rfl ?_
          refine l_split ?_ ?_
          · intro hc5
            replace hc5 := of_decide_eq_true hc5
            refine l_val (r_pick (v := .bool _) rfl rfl rfl) rfl rfl ?_
            refine l_val (r_fieldAddr 2 Try.underlying130 rfl tyC4.size rfl rfl rfl) rfl rfl ?_
            refine l_storeC hW 0 tyC4 (v := .bool _) rfl rfl rfl rfl rfl rfl (by first | rfl | omega | (simp; done) | (simp; omega)) rfl ?_
            intro W hW
            refine l_end ?_
            refine n_then ?_
            refine c_reg ?_
            refine l_val (r_fieldAddr 0 Try.underlying130 rfl tyC3.size rfl rfl rfl) rfl rfl ?_
            refine l_loadC hW 0 tyC3 rfl rfl rfl rfl rfl rfl ?_
            refine l_val (r_addN (n := 1) rfl rfl rfl (by omega)) rfl rfl ?_
            refine l_val (r_fieldAddr 0 Try.underlying130 rfl tyC3.size rfl rfl rfl) rfl rfl ?_
            refine l_storeC hW 0 tyC3 (v := .int _ _) rfl rfl rfl rfl rfl rfl (by first | rfl | omega | (simp; done) | (simp; omega)) rfl ?_
            intro W hW
            refine l_end ?_
            refine n_block ?_
            refine n_block ?_
            refine n_then ?_
            refine c_reg ?_
            refine l_val (r_addN (n := 1) rfl rfl rfl (by omega)) rfl rfl ?_
            refine l_val (r_move (v := .int _ _) rfl rfl) rfl rfl ?_
            refine l_end ?_
            refine n_then ?_
            exact loop_next (x.1 + 1, x.2.1 + 1, x.2.2.1, true) (by kernel_rfl) hW ⟨by simp only; omega, by simp only [stp_right hc2 hc3, hst]; exact congrArg (fun z => (x.2.1 + 1, x.2.2.1, z)) (by rw [hc4, decide_eq_true (by omega)]; rfl)⟩ (by simp only; omega)
          · intro hc5
            replace hc5 := of_decide_eq_false hc5
            refine l_val (r_pick (v := .bool _) rfl rfl rfl) rfl rfl ?_
            refine l_val (r_fieldAddr 2 Try.underlying130 rfl tyC4.size rfl rfl rfl) rfl rfl ?_
            refine l_storeC hW 0 tyC4 (v := .bool _) rfl rfl rfl rfl rfl rfl (by first | rfl | omega | (simp; done) | (simp; omega)) rfl ?_
            intro W hW
            refine l_end ?_
            refine n_then ?_
            refine c_reg ?_
            refine l_val (r_fieldAddr 0 Try.underlying130 rfl tyC3.size rfl rfl rfl) rfl rfl ?_
            refine l_loadC hW 0 tyC3 rfl rfl rfl rfl rfl rfl ?_
            refine l_val (r_addN (n := 1) rfl rfl rfl (by omega)) rfl rfl ?_
            refine l_val (r_fieldAddr 0 Try.underlying130 rfl tyC3.size rfl rfl rfl) rfl rfl ?_
            refine l_storeC hW 0 tyC3 (v := .int _ _) rfl rfl rfl rfl rfl rfl (by first | rfl | omega | (simp; done) | (simp; omega)) rfl ?_
            intro W hW
            refine l_end ?_
            refine n_block ?_
            refine n_block ?_
            refine n_then ?_
            refine c_reg ?_
            refine l_val (r_addN (n := 1) rfl rfl rfl (by omega)) rfl rfl ?_
            refine l_val (r_move (v := .int _ _) rfl rfl) rfl rfl ?_
            refine l_end ?_
            refine n_then ?_
            exact loop_next (x.1 + 1, x.2.1 + 1, x.2.2.1, false) (by kernel_rfl) hW ⟨by simp only; omega, by simp only [stp_right hc2 hc3, hst]; exact congrArg (fun z => (x.2.1 + 1, x.2.2.1, z)) (by rw [hc4, decide_eq_false (by omega)]; rfl)⟩ (by simp only; omega)
    · intro hc2
      refine l_val (r_assign (v := .int _ _) rfl rfl) rfl rfl ?_
      refine l_val (r_assign (v := .bool _) rfl rfl) rfl rfl ?_
      refine l_end ?_
      refine n_then ?_
      refine c_block ?_
      refine c_seq ?_
      refine c_reg ?_
      refine l_val (r_move (v := .bool _) rfl rfl) rfl rfl ?_
      refine l_val (r_not rfl rfl) rfl rfl ?_
      refine l_val (r_assign (v := .bool _) rfl rfl) rfl rfl ?_
      refine l_end ?_
      refine n_then ?_
      refine c_true rfl ?_
      refine c_skip ?_
      refine n_block ?_
      refine n_block ?_
      refine n_then ?_
      refine c_reg ?_
      refine l_val (r_addN (n := 1) rfl rfl rfl (by omega)) rfl rfl ?_
      refine l_val (r_move (v := .int _ _) rfl rfl) rfl rfl ?_
      refine l_end ?_
      refine n_then ?_
      exact loop_next (x.1 + 1, x.2) (by kernel_rfl) hW ⟨by simp only; omega, (stp_no hc2).trans hst⟩ (by simp only; omega)
  · intro hc1
    replace hc1 := of_decide_eq_false hc1
    refine l_end ?_
    refine n_then ?_
    refine c_seq ?_
    refine c_false rfl ?_
    refine c_exit ?_
    refine x_then ?_
    refine x_then ?_
    refine x_hit ?_
    refine n_then ?_
    refine c_seq ?_
    refine c_regY hW [] [.q, .q, .q, .q, .q, .q, .q, .q, .q, .q, .q] [0, 1, 3, 7, 0, 16, 48, 112, 240, 15, 1023] (by kernel_rfl) (by kernel_rfl) ?_
    refine y_val (r_move (v := .pointer _) rfl rfl) rfl rfl ?_
    refine y_val (r_nilCheck rfl rfl) rfl rfl ?_
    refine y_val (r_fieldAddr 26 Try.underlying39 rfl tyC3.size rfl rfl rfl) rfl rfl ?_
    refine y_loadC 1 tyC3 rfl rfl rfl rfl rfl rfl (by decide) ?_
    refine y_val (r_move (v := .pointer _) rfl rfl) rfl rfl ?_
    refine y_val (r_nilCheck rfl rfl) rfl rfl ?_
    refine y_val (r_fieldAddr 8 Try.underlying39 rfl tyC3.size rfl rfl rfl) rfl rfl ?_
    refine y_loadC 1 tyC3 rfl rfl rfl rfl rfl rfl (by decide) ?_
    refine y_val (r_addZ rfl rfl rfl (by omega)) rfl rfl ?_
    refine y_val (r_assign (v := .int _ _) rfl rfl) rfl rfl ?_
    refine y_val (r_assign (v := .int _ _) rfl rfl) rfl rfl ?_
    refine y_end ?_
    intro W hW
    refine n_then ?_
    refine c_seq ?_
    refine c_reg ?_
    refine l_val (r_move (v := .pointer _) rfl rfl) rfl rfl ?_
    refine l_val (r_nilCheck rfl rfl) rfl rfl ?_
    refine l_val (r_fieldAddr 26 Try.underlying39 rfl tyC3.size rfl rfl rfl) rfl rfl ?_
    refine l_loadC hW 1 tyC3 rfl rfl rfl rfl rfl rfl ?_
    refine l_val (r_addZ rfl rfl rfl (by omega)) rfl rfl ?_
    refine l_val (r_nilCheck rfl rfl) rfl rfl ?_
    refine l_val (r_fieldAddr 26 Try.underlying39 rfl tyC3.size rfl rfl rfl) rfl rfl ?_
    refine l_storeC hW 1 tyC3 (v := .int .i64 (q.a + 1)) rfl rfl rfl rfl rfl rfl (by rw [boC_len]; decide) rfl ?_
    intro W hW
    replace hW := (show Cl _ ([_, ⟨_, (boC q t).set 26 (.int .i64 (q.a + 1)), _⟩] ++ L) _ from hW)
    rw [boC_setA] at hW
    refine l_end ?_
    refine n_then ?_
    refine c_seq ?_
    refine c_seq ?_
    refine c_reg ?_
    refine l_val (r_fieldAddr 0 Try.underlying130 rfl tyC3.size rfl rfl rfl) rfl rfl ?_
    refine l_loadC hW 0 tyC3 rfl rfl rfl rfl rfl rfl ?_
    refine l_val (r_gtrN (n := 0) rfl rfl rfl rfl) rfl rfl ?_
    refine l_split ?_ ?_
    · intro hc6
      replace hc6 := of_decide_eq_true hc6
      refine l_val (r_move (v := .bool _) rfl rfl) rfl rfl ?_
      refine l_valG (r_fieldAddr 1 Try.underlying130 rfl tyC3.size rfl rfl rfl) (by kernel_rfl) rfl ?_
      refine l_loadCG hW 0 tyC3 (by kernel_rfl) rfl rfl rfl rfl rfl ?_
      refine l_valG (r_gtrN (n := 0) rfl rfl rfl rfl) (by kernel_rfl) rfl ?_
      refine l_split ?_ ?_
      · intro hc7
        replace hc7 := of_decide_eq_true hc7
        refine l_val (r_pick (v := .bool _) rfl rfl rfl) rfl rfl ?_
        refine l_end ?_
        refine n_then ?_
        refine c_true rfl ?_
        refine c_reg ?_
        refine l_val (r_move (v := .pointer _) rfl rfl) rfl rfl ?_
        refine l_val (r_nilCheck rfl rfl) rfl rfl ?_
        refine l_val (r_fieldAddr 27 Try.underlying39 rfl tyC3.size rfl rfl rfl) rfl rfl ?_
        refine l_loadC hW 1 tyC3 (v := .int .i64 q.x) rfl rfl rfl rfl rfl rfl ?_
        refine l_val (r_addZ rfl rfl rfl (by omega)) rfl rfl ?_
        refine l_val (r_nilCheck rfl rfl) rfl rfl ?_
        refine l_val (r_fieldAddr 27 Try.underlying39 rfl tyC3.size rfl rfl rfl) rfl rfl ?_
        refine l_storeC hW 1 tyC3 (v := .int .i64 (q.x + 1)) rfl rfl rfl rfl rfl rfl (by rw [boC_len]; decide) rfl ?_
        intro W hW
        replace hW := (show Cl _ ([_, ⟨_, (boC { q with a := q.a + 1 } t).set 27 (.int .i64 (q.x + 1)), _⟩] ++ L) _ from hW)
        rw [boC_setX] at hW
        refine l_end ?_
        have hax := after_p (b := q) (r := x.2.1) (w := x.2.2.1) ⟨by omega, by omega⟩
        obtain ⟨b1, hb1⟩ : ∃ b1, b1 = after q x.2.1 x.2.2.1 := ⟨_, rfl⟩
        have es : b1 = { q with a := q.a + 1, x := q.x + 1 } := hb1.trans hax
        have ev : b1.v = q.v := by rw [es]
        have en : b1.n = q.n := by rw [es]
        have em : b1.m = q.m := by rw [es]
        have ek : b1.k = q.k := by rw [es]
        have ex : b1.x = q.x + 1 := by rw [es]
        rw [← es] at hW
        refine n_then ?_
        refine c_seq ?_
        refine c_regY hW [] [.q, .q, .q, .q, .q, .q, .q, .q, .q, .q, .q, .q, .q, .q, .q, .q, .q] [0, 1, 3, 7, 15, 31, 63, 127, 255, 511, 63, 1087, 3135, 7231, 16383, 32767, 65535] (by kernel_rfl) (by kernel_rfl) ?_
        refine y_val (r_move (v := .pointer _) rfl rfl) rfl rfl ?_
        refine y_val (r_nilCheck rfl rfl) rfl rfl ?_
        refine y_val (r_fieldAddr 9 Try.underlying39 rfl tyC3.size rfl rfl rfl) rfl rfl ?_
        refine y_loadC 1 tyC3 rfl rfl rfl rfl rfl rfl (by decide) ?_
        refine y_val (r_gtr rfl rfl rfl rfl) rfl rfl ?_
        refine y_split ?_ ?_
        · intro hc8
          replace hc8 := of_decide_eq_true hc8
          refine y_val (r_move (v := .bool _) rfl rfl) rfl rfl ?_
          refine y_val (r_move (v := .pointer _) rfl rfl) (by kernel_rfl) rfl ?_
          refine y_val (r_nilCheck rfl rfl) (by kernel_rfl) rfl ?_
          refine y_val (r_fieldAddr 27 Try.underlying39 rfl tyC3.size rfl rfl rfl) (by kernel_rfl) rfl ?_
          refine y_loadC 1 tyC3 (by kernel_rfl) rfl rfl rfl rfl rfl (by decide) ?_
          refine y_val (r_move (v := .pointer _) rfl rfl) (by kernel_rfl) rfl ?_
          refine y_val (r_nilCheck rfl rfl) (by kernel_rfl) rfl ?_
          refine y_val (r_fieldAddr 9 Try.underlying39 rfl tyC3.size rfl rfl rfl) (by kernel_rfl) rfl ?_
          refine y_loadC 1 tyC3 (by kernel_rfl) rfl rfl rfl rfl rfl (by decide) ?_
          refine y_val (r_gtr rfl rfl rfl rfl) (by kernel_rfl) rfl ?_
          refine y_split ?_ ?_
          · intro hc9
            replace hc9 := of_decide_eq_true hc9
            refine y_val (r_pick (v := .bool _) rfl rfl rfl) rfl rfl ?_
            refine y_val (r_assign (v := .bool _) rfl rfl) rfl rfl ?_
            refine y_end ?_
            intro W hW
            refine n_then ?_
            refine c_seq ?_
            refine c_regY hW [] [.q, .q, .q, .q, .q, .q, .q, .q, .q, .q, .q, .q, .q, .q, .q, .q, .q] [0, 1, 3, 7, 0, 0, 48, 112, 0, 256, 1023, 0, 0, 6144, 14336, 32767, 65535] (by kernel_rfl) (by kernel_rfl) ?_
            refine y_val (r_move (v := .pointer _) rfl rfl) rfl rfl ?_
            refine y_val (r_nilCheck rfl rfl) rfl rfl ?_
            refine y_val (r_fieldAddr 10 Try.underlying39 rfl tyA37.size rfl rfl rfl) rfl rfl ?_
            refine y_loadP 1 tyA37 (by kernel_rfl) rfl rfl rfl rfl (by rw [boC_len]; decide) (boC_key _ _) (by decide) ?_
            refine y_val (r_move (v := .int _ _) rfl rfl) rfl rfl ?_
            refine y_val (r_move (v := .int _ _) rfl rfl) rfl rfl ?_
            refine y_val (r_quoN (m := q.a.toNat) (n := q.n.toNat + 1) rfl (congrArg (Value.int .i64) ha) (congrArg (Value.int .i64) hb) (by omega) (by omega)) rfl rfl ?_
            refine y_val (r_conv_i64_u64 Try.underlying3 Try.underlying22 rfl rfl) rfl rfl ?_
            refine y_val (r_move (v := .int _ _) rfl rfl) rfl rfl ?_
            refine y_val (r_conv_i64_u64 (n := q.n.toNat + 1) Try.underlying3 Try.underlying22 rfl (congrArg (Value.int .i64) hb)) rfl rfl ?_
            refine y_call (g_Number _ _ _) en70 rfl rfl rfl rfl ?_
            refine y_val (r_move (v := .int _ _) rfl rfl) rfl rfl ?_
            refine y_val (r_move (v := .int _ _) rfl rfl) rfl rfl ?_
            refine y_val (r_remN (m := q.a.toNat) (n := q.n.toNat + 1) rfl (congrArg (Value.int .i64) ha) (congrArg (Value.int .i64) hb) (by omega)) rfl rfl ?_
            refine y_val (r_conv_i64_u64 Try.underlying3 Try.underlying22 rfl rfl) rfl rfl ?_
            refine y_val (r_neqN rfl rfl rfl rfl) rfl rfl ?_
            refine y_split ?_ ?_
            · intro hc10
              replace hc10 := of_decide_eq_true hc10
              refine y_val (r_assign (v := .bool _) rfl rfl) rfl rfl ?_
              refine y_end ?_
              intro W hW
              refine n_then ?_
              refine c_seq ?_
              refine c_seq ?_
              refine c_reg ?_
              refine l_val (r_fieldAddr 0 Try.underlying130 rfl tyC3.size rfl rfl rfl) rfl rfl ?_
              refine l_loadC hW 0 tyC3 rfl rfl rfl rfl rfl rfl ?_
              refine l_val (r_eqlN (n := 0) rfl rfl rfl rfl) rfl rfl ?_
              refine l_split ?_ ?_
              · intro hc11
                replace hc11 := of_decide_eq_true hc11
                refine l_val (r_move (v := .bool _) rfl rfl) rfl rfl ?_
                refine l_not (by kernel_rfl) rfl ?_
                refine l_val (r_pick (v := .bool _) rfl rfl rfl) rfl rfl ?_
                refine l_val (r_move (v := .bool _) rfl rfl) rfl rfl ?_
                refine l_not (by kernel_rfl) rfl ?_
                refine l_val (r_pick (v := .bool _) rfl rfl rfl) rfl rfl ?_
                refine l_end ?_
                refine n_then ?_
                refine c_true rfl ?_
                refine c_seq ?_
                refine c_reg ?_
                refine l_val (r_assign (v := .bool _) rfl rfl) rfl rfl ?_
                refine l_end ?_
                refine n_then ?_
                refine c_ret ?_
                refine r_then ?_
                refine ret_tmp (v := .bool _) rfl rfl ?_
                have e1 : stp o f o.length = x.2 := by rw [show o.length = x.1 by omega]; exact hst
                have hv : askW q x.2.1 x.2.2.1 x.2.2.2 = _ := ask_no (by rw [← hb1]; omega)
                exact ⟨_, [_], rfl, ⟨by rw [plays, e1]; exact congrArg Value.bool hv.symm, by rw [askd, e1, ← hb1]⟩, hW.drop 1⟩
              · intro hc11
                replace hc11 := of_decide_eq_false hc11
                refine l_val (r_move (v := .bool _) rfl rfl) rfl rfl ?_
                refine l_valG (r_move (v := .bool _) rfl rfl) (by kernel_rfl) rfl ?_
                refine l_val (r_pick (v := .bool _) rfl rfl rfl) rfl rfl ?_
                refine l_val (r_move (v := .bool _) rfl rfl) rfl rfl ?_
                refine l_not (by kernel_rfl) rfl ?_
                refine l_val (r_pick (v := .bool _) rfl rfl rfl) rfl rfl ?_
                refine l_end ?_
                refine n_then ?_
                refine c_true rfl ?_
                refine c_seq ?_
                refine c_reg ?_
                refine l_val (r_assign (v := .bool _) rfl rfl) rfl rfl ?_
                refine l_end ?_
                refine n_then ?_
                refine c_ret ?_
                refine r_then ?_
                refine ret_tmp (v := .bool _) rfl rfl ?_
                have e1 : stp o f o.length = x.2 := by rw [show o.length = x.1 by omega]; exact hst
                have hv : askW q x.2.1 x.2.2.1 x.2.2.2 = _ := ask_no (by rw [← hb1]; omega)
                exact ⟨_, [_], rfl, ⟨by rw [plays, e1]; exact congrArg Value.bool hv.symm, by rw [askd, e1, ← hb1]⟩, hW.drop 1⟩
            · intro hc10
              replace hc10 := of_decide_eq_false hc10
              refine y_val (r_assign (v := .bool _) rfl rfl) rfl rfl ?_
              refine y_end ?_
              intro W hW
              refine n_then ?_
              refine c_seq ?_
              refine c_seq ?_
              refine c_reg ?_
              refine l_val (r_fieldAddr 0 Try.underlying130 rfl tyC3.size rfl rfl rfl) rfl rfl ?_
              refine l_loadC hW 0 tyC3 rfl rfl rfl rfl rfl rfl ?_
              refine l_val (r_eqlN (n := 0) rfl rfl rfl rfl) rfl rfl ?_
              refine l_split ?_ ?_
              · intro hc12
                replace hc12 := of_decide_eq_true hc12
                refine l_val (r_move (v := .bool _) rfl rfl) rfl rfl ?_
                refine l_not (by kernel_rfl) rfl ?_
                refine l_val (r_pick (v := .bool _) rfl rfl rfl) rfl rfl ?_
                refine l_val (r_move (v := .bool _) rfl rfl) rfl rfl ?_
                refine l_not (by kernel_rfl) rfl ?_
                refine l_val (r_pick (v := .bool _) rfl rfl rfl) rfl rfl ?_
                refine l_end ?_
                refine n_then ?_
                refine c_true rfl ?_
                refine c_seq ?_
                refine c_reg ?_
                refine l_val (r_assign (v := .bool _) rfl rfl) rfl rfl ?_
                refine l_end ?_
                refine n_then ?_
                refine c_ret ?_
                refine r_then ?_
                refine ret_tmp (v := .bool _) rfl rfl ?_
                have e1 : stp o f o.length = x.2 := by rw [show o.length = x.1 by omega]; exact hst
                have hv : askW q x.2.1 x.2.2.1 x.2.2.2 = _ := ask_no (by rw [← hb1]; omega)
                exact ⟨_, [_], rfl, ⟨by rw [plays, e1]; exact congrArg Value.bool hv.symm, by rw [askd, e1, ← hb1]⟩, hW.drop 1⟩
              · intro hc12
                replace hc12 := of_decide_eq_false hc12
                refine l_val (r_move (v := .bool _) rfl rfl) rfl rfl ?_
                refine l_valG (r_move (v := .bool _) rfl rfl) (by kernel_rfl) rfl ?_
                refine l_val (r_pick (v := .bool _) rfl rfl rfl) rfl rfl ?_
                refine l_val (r_move (v := .bool _) rfl rfl) rfl rfl ?_
                refine l_not (by kernel_rfl) rfl ?_
                refine l_val (r_pick (v := .bool _) rfl rfl rfl) rfl rfl ?_
                refine l_end ?_
                refine n_then ?_
                refine c_true rfl ?_
                refine c_seq ?_
                refine c_reg ?_
                refine l_val (r_assign (v := .bool _) rfl rfl) rfl rfl ?_
                refine l_end ?_
                refine n_then ?_
                refine c_ret ?_
                refine r_then ?_
                refine ret_tmp (v := .bool _) rfl rfl ?_
                have e1 : stp o f o.length = x.2 := by rw [show o.length = x.1 by omega]; exact hst
                have hv : askW q x.2.1 x.2.2.1 x.2.2.2 = _ := ask_no (by rw [← hb1]; omega)
                exact ⟨_, [_], rfl, ⟨by rw [plays, e1]; exact congrArg Value.bool hv.symm, by rw [askd, e1, ← hb1]⟩, hW.drop 1⟩
          · intro hc9
            replace hc9 := of_decide_eq_false hc9
            refine y_val (r_pick (v := .bool _) rfl rfl rfl) rfl rfl ?_
            refine y_val (r_assign (v := .bool _) rfl rfl) rfl rfl ?_
            refine y_end ?_
            intro W hW
            refine n_then ?_
            refine c_seq ?_
            refine c_regY hW [] [.q, .q, .q, .q, .q, .q, .q, .q, .q, .q, .q, .q, .q, .q, .q, .q, .q] [0, 1, 3, 7, 0, 0, 48, 112, 0, 256, 1023, 0, 0, 6144, 14336, 32767, 65535] (by kernel_rfl) (by kernel_rfl) ?_
            refine y_val (r_move (v := .pointer _) rfl rfl) rfl rfl ?_
            refine y_val (r_nilCheck rfl rfl) rfl rfl ?_
            refine y_val (r_fieldAddr 10 Try.underlying39 rfl tyA37.size rfl rfl rfl) rfl rfl ?_
            refine y_loadP 1 tyA37 (by kernel_rfl) rfl rfl rfl rfl (by rw [boC_len]; decide) (boC_key _ _) (by decide) ?_
            refine y_val (r_move (v := .int _ _) rfl rfl) rfl rfl ?_
            refine y_val (r_move (v := .int _ _) rfl rfl) rfl rfl ?_
            refine y_val (r_quoN (m := q.a.toNat) (n := q.n.toNat + 1) rfl (congrArg (Value.int .i64) ha) (congrArg (Value.int .i64) hb) (by omega) (by omega)) rfl rfl ?_
            refine y_val (r_conv_i64_u64 Try.underlying3 Try.underlying22 rfl rfl) rfl rfl ?_
            refine y_val (r_move (v := .int _ _) rfl rfl) rfl rfl ?_
            refine y_val (r_conv_i64_u64 (n := q.n.toNat + 1) Try.underlying3 Try.underlying22 rfl (congrArg (Value.int .i64) hb)) rfl rfl ?_
            refine y_call (g_Number _ _ _) en70 rfl rfl rfl rfl ?_
            refine y_val (r_move (v := .int _ _) rfl rfl) rfl rfl ?_
            refine y_val (r_move (v := .int _ _) rfl rfl) rfl rfl ?_
            refine y_val (r_remN (m := q.a.toNat) (n := q.n.toNat + 1) rfl (congrArg (Value.int .i64) ha) (congrArg (Value.int .i64) hb) (by omega)) rfl rfl ?_
            refine y_val (r_conv_i64_u64 Try.underlying3 Try.underlying22 rfl rfl) rfl rfl ?_
            refine y_val (r_neqN rfl rfl rfl rfl) rfl rfl ?_
            refine y_split ?_ ?_
            · intro hc13
              replace hc13 := of_decide_eq_true hc13
              refine y_val (r_assign (v := .bool _) rfl rfl) rfl rfl ?_
              refine y_end ?_
              intro W hW
              refine n_then ?_
              refine c_seq ?_
              refine c_seq ?_
              refine c_reg ?_
              refine l_val (r_fieldAddr 0 Try.underlying130 rfl tyC3.size rfl rfl rfl) rfl rfl ?_
              refine l_loadC hW 0 tyC3 rfl rfl rfl rfl rfl rfl ?_
              refine l_val (r_eqlN (n := 0) rfl rfl rfl rfl) rfl rfl ?_
              refine l_split ?_ ?_
              · intro hc14
                replace hc14 := of_decide_eq_true hc14
                refine l_val (r_move (v := .bool _) rfl rfl) rfl rfl ?_
                refine l_not (by kernel_rfl) rfl ?_
                refine l_val (r_pick (v := .bool _) rfl rfl rfl) rfl rfl ?_
                refine l_val (r_move (v := .bool _) rfl rfl) rfl rfl ?_
                refine l_not (by kernel_rfl) rfl ?_
                refine l_val (r_pick (v := .bool _) rfl rfl rfl) rfl rfl ?_
                refine l_end ?_
                refine n_then ?_
                refine c_true rfl ?_
                refine c_seq ?_
                refine c_reg ?_
                refine l_val (r_assign (v := .bool _) rfl rfl) rfl rfl ?_
                refine l_end ?_
                refine n_then ?_
                refine c_ret ?_
                refine r_then ?_
                refine ret_tmp (v := .bool _) rfl rfl ?_
                have e1 : stp o f o.length = x.2 := by rw [show o.length = x.1 by omega]; exact hst
                have hv : askW q x.2.1 x.2.2.1 x.2.2.2 = _ := ask_no (by rw [← hb1]; omega)
                exact ⟨_, [_], rfl, ⟨by rw [plays, e1]; exact congrArg Value.bool hv.symm, by rw [askd, e1, ← hb1]⟩, hW.drop 1⟩
              · intro hc14
                replace hc14 := of_decide_eq_false hc14
                refine l_val (r_move (v := .bool _) rfl rfl) rfl rfl ?_
                refine l_valG (r_move (v := .bool _) rfl rfl) (by kernel_rfl) rfl ?_
                refine l_val (r_pick (v := .bool _) rfl rfl rfl) rfl rfl ?_
                refine l_val (r_move (v := .bool _) rfl rfl) rfl rfl ?_
                refine l_valG (r_move (v := .bool _) rfl rfl) (by kernel_rfl) rfl ?_
                refine l_val (r_pick (v := .bool _) rfl rfl rfl) rfl rfl ?_
                refine l_end ?_
                refine n_then ?_
                refine c_true rfl ?_
                refine c_seq ?_
                refine c_reg ?_
                refine l_val (r_assign (v := .bool _) rfl rfl) rfl rfl ?_
                refine l_end ?_
                refine n_then ?_
                refine c_ret ?_
                refine r_then ?_
                refine ret_tmp (v := .bool _) rfl rfl ?_
                have e1 : stp o f o.length = x.2 := by rw [show o.length = x.1 by omega]; exact hst
                have hv : askW q x.2.1 x.2.2.1 x.2.2.2 = _ := ask_no (.inr (.inr (decide_eq_true (by rw [← ek]; exact hc13))))
                exact ⟨_, [_], rfl, ⟨by rw [plays, e1]; exact congrArg Value.bool hv.symm, by rw [askd, e1, ← hb1]⟩, hW.drop 1⟩
            · intro hc13
              replace hc13 := of_decide_eq_false hc13
              refine y_val (r_assign (v := .bool _) rfl rfl) rfl rfl ?_
              refine y_end ?_
              intro W hW
              refine n_then ?_
              refine c_seq ?_
              refine c_seq ?_
              refine c_reg ?_
              refine l_val (r_fieldAddr 0 Try.underlying130 rfl tyC3.size rfl rfl rfl) rfl rfl ?_
              refine l_loadC hW 0 tyC3 rfl rfl rfl rfl rfl rfl ?_
              refine l_val (r_eqlN (n := 0) rfl rfl rfl rfl) rfl rfl ?_
              refine l_split ?_ ?_
              · intro hc15
                replace hc15 := of_decide_eq_true hc15
                refine l_val (r_move (v := .bool _) rfl rfl) rfl rfl ?_
                refine l_not (by kernel_rfl) rfl ?_
                refine l_val (r_pick (v := .bool _) rfl rfl rfl) rfl rfl ?_
                refine l_val (r_move (v := .bool _) rfl rfl) rfl rfl ?_
                refine l_not (by kernel_rfl) rfl ?_
                refine l_val (r_pick (v := .bool _) rfl rfl rfl) rfl rfl ?_
                refine l_end ?_
                refine n_then ?_
                refine c_true rfl ?_
                refine c_seq ?_
                refine c_reg ?_
                refine l_val (r_assign (v := .bool _) rfl rfl) rfl rfl ?_
                refine l_end ?_
                refine n_then ?_
                refine c_ret ?_
                refine r_then ?_
                refine ret_tmp (v := .bool _) rfl rfl ?_
                have e1 : stp o f o.length = x.2 := by rw [show o.length = x.1 by omega]; exact hst
                have hv : askW q x.2.1 x.2.2.1 x.2.2.2 = _ := ask_no (by rw [← hb1]; omega)
                exact ⟨_, [_], rfl, ⟨by rw [plays, e1]; exact congrArg Value.bool hv.symm, by rw [askd, e1, ← hb1]⟩, hW.drop 1⟩
              · intro hc15
                replace hc15 := of_decide_eq_false hc15
                refine l_val (r_move (v := .bool _) rfl rfl) rfl rfl ?_
                refine l_valG (r_move (v := .bool _) rfl rfl) (by kernel_rfl) rfl ?_
                refine l_val (r_pick (v := .bool _) rfl rfl rfl) rfl rfl ?_
                refine l_val (r_move (v := .bool _) rfl rfl) rfl rfl ?_
                refine l_valG (r_move (v := .bool _) rfl rfl) (by kernel_rfl) rfl ?_
                refine l_val (r_pick (v := .bool _) rfl rfl rfl) rfl rfl ?_
                refine l_end ?_
                refine n_then ?_
                refine c_false rfl ?_
                refine c_skip ?_
                refine n_then ?_
                refine c_seq ?_
                refine c_regY hW [] [.q, .q, .q, .q, .q, .q, .q, .q, .q, .q, .q] [0, 1, 3, 7, 15, 31, 63, 15, 255, 511, 1023] (by kernel_rfl) (by kernel_rfl) ?_
                refine y_val (r_fieldAddr 1 Try.underlying130 rfl tyC3.size rfl rfl rfl) rfl rfl ?_
                refine y_loadC 0 tyC3 rfl rfl rfl rfl rfl rfl (by decide) ?_
                refine y_val (r_eqlN (n := 0) rfl rfl rfl rfl) rfl rfl ?_
                refine y_split ?_ ?_
                · intro hc16
                  replace hc16 := of_decide_eq_true hc16
                  refine y_val (r_move (v := .bool _) rfl rfl) rfl rfl ?_
                  refine y_not (by kernel_rfl) rfl ?_
                  refine y_not (by kernel_rfl) rfl ?_
                  refine y_not (by kernel_rfl) rfl ?_
                  refine y_not (by kernel_rfl) rfl ?_
                  refine y_not (by kernel_rfl) rfl ?_
                  refine y_val (r_pick (v := .bool _) rfl rfl rfl) rfl rfl ?_
                  refine y_val (r_assign (v := .bool _) rfl rfl) rfl rfl ?_
                  refine y_end ?_
                  intro W hW
                  refine n_then ?_
                  refine c_ret ?_
                  refine ret_tmp (v := .bool _) rfl rfl ?_
                  have e1 : stp o f o.length = x.2 := by rw [show o.length = x.1 by omega]; exact hst
                  have hneg : ¬ (x.2.1 = 0 ∨ (0 < q.v ∧ q.v < (after q x.2.1 x.2.2.1).x) ∨ noiseB q = true) := by
                    rw [← hb1, show noiseB q = false from decide_eq_false (by rw [← ek]; exact hc13)]
                    rintro (h | ⟨h1, h2⟩ | h)
                    · omega
                    · omega
                    · cases h
                  have hv : askW q x.2.1 x.2.2.1 x.2.2.2 = _ := ask_y0 hneg (by omega)
                  exact ⟨_, [_], rfl, ⟨by rw [plays, e1]; exact congrArg Value.bool hv.symm, by rw [askd, e1, ← hb1]⟩, hW.drop 1⟩
                · intro hc16
                  replace hc16 := of_decide_eq_false hc16
                  refine y_val (r_move (v := .bool _) rfl rfl) rfl rfl ?_
                  refine y_val (r_move (v := .pointer _) rfl rfl) (by kernel_rfl) rfl ?_
                  refine y_val (r_nilCheck rfl rfl) (by kernel_rfl) rfl ?_
                  refine y_loadA 1 tyA39 (by kernel_rfl) rfl rfl rfl rfl (by first | rfl | exact kc_len _ | exact kcf_len _ | exact boC_len _ _ | (simp; done)) (by decide) ?_
                  refine y_loadA 0 tyA130 (by kernel_rfl) rfl rfl rfl rfl (by first | rfl | exact kc_len _ | exact kcf_len _ | exact boC_len _ _ | (simp; done)) (by decide) ?_
                  refine y_call (g_plays b1 t x.2.1 x.2.2.1 x.2.2.2 (by omega) (by omega) (by omega) (by omega)) en71 (by kernel_rfl) rfl rfl rfl ?_
                  refine y_val (r_pick (v := .bool _) rfl rfl rfl) rfl rfl ?_
                  refine y_val (r_assign (v := .bool _) rfl rfl) rfl rfl ?_
                  refine y_end ?_
                  intro W hW
                  refine n_then ?_
                  refine c_ret ?_
                  refine ret_tmp (v := .bool _) rfl rfl ?_
                  have e1 : stp o f o.length = x.2 := by rw [show o.length = x.1 by omega]; exact hst
                  have hneg : ¬ (x.2.1 = 0 ∨ (0 < q.v ∧ q.v < (after q x.2.1 x.2.2.1).x) ∨ noiseB q = true) := by
                    rw [← hb1, show noiseB q = false from decide_eq_false (by rw [← ek]; exact hc13)]
                    rintro (h | ⟨h1, h2⟩ | h)
                    · omega
                    · omega
                    · cases h
                  have hv : askW q x.2.1 x.2.2.1 x.2.2.2 = _ := (ask_w hneg (by omega)).trans (play_congr em ek).symm
                  exact ⟨_, [_], rfl, ⟨by rw [plays, e1]; exact congrArg Value.bool hv.symm, by rw [askd, e1, ← hb1]⟩, hW.drop 1⟩
        · intro hc8
          replace hc8 := of_decide_eq_false hc8
          refine y_val (r_move (v := .bool _) rfl rfl) rfl rfl ?_
          refine y_not (by kernel_rfl) rfl ?_
          refine y_not (by kernel_rfl) rfl ?_
          refine y_not (by kernel_rfl) rfl ?_
          refine y_not (by kernel_rfl) rfl ?_
          refine y_not (by kernel_rfl) rfl ?_
          refine y_not (by kernel_rfl) rfl ?_
          refine y_not (by kernel_rfl) rfl ?_
          refine y_not (by kernel_rfl) rfl ?_
          refine y_not (by kernel_rfl) rfl ?_
          refine y_val (r_pick (v := .bool _) rfl rfl rfl) rfl rfl ?_
          refine y_val (r_assign (v := .bool _) rfl rfl) rfl rfl ?_
          refine y_end ?_
          intro W hW
          refine n_then ?_
          refine c_seq ?_
          refine c_regY hW [] [.q, .q, .q, .q, .q, .q, .q, .q, .q, .q, .q, .q, .q, .q, .q, .q, .q] [0, 1, 3, 7, 0, 0, 48, 112, 0, 256, 1023, 0, 0, 6144, 14336, 32767, 65535] (by kernel_rfl) (by kernel_rfl) ?_
          refine y_val (r_move (v := .pointer _) rfl rfl) rfl rfl ?_
          refine y_val (r_nilCheck rfl rfl) rfl rfl ?_
          refine y_val (r_fieldAddr 10 Try.underlying39 rfl tyA37.size rfl rfl rfl) rfl rfl ?_
          refine y_loadP 1 tyA37 (by kernel_rfl) rfl rfl rfl rfl (by rw [boC_len]; decide) (boC_key _ _) (by decide) ?_
          refine y_val (r_move (v := .int _ _) rfl rfl) rfl rfl ?_
          refine y_val (r_move (v := .int _ _) rfl rfl) rfl rfl ?_
          refine y_val (r_quoN (m := q.a.toNat) (n := q.n.toNat + 1) rfl (congrArg (Value.int .i64) ha) (congrArg (Value.int .i64) hb) (by omega) (by omega)) rfl rfl ?_
          refine y_val (r_conv_i64_u64 Try.underlying3 Try.underlying22 rfl rfl) rfl rfl ?_
          refine y_val (r_move (v := .int _ _) rfl rfl) rfl rfl ?_
          refine y_val (r_conv_i64_u64 (n := q.n.toNat + 1) Try.underlying3 Try.underlying22 rfl (congrArg (Value.int .i64) hb)) rfl rfl ?_
          refine y_call (g_Number _ _ _) en70 rfl rfl rfl rfl ?_
          refine y_val (r_move (v := .int _ _) rfl rfl) rfl rfl ?_
          refine y_val (r_move (v := .int _ _) rfl rfl) rfl rfl ?_
          refine y_val (r_remN (m := q.a.toNat) (n := q.n.toNat + 1) rfl (congrArg (Value.int .i64) ha) (congrArg (Value.int .i64) hb) (by omega)) rfl rfl ?_
          refine y_val (r_conv_i64_u64 Try.underlying3 Try.underlying22 rfl rfl) rfl rfl ?_
          refine y_val (r_neqN rfl rfl rfl rfl) rfl rfl ?_
          refine y_split ?_ ?_
          · intro hc17
            replace hc17 := of_decide_eq_true hc17
            refine y_val (r_assign (v := .bool _) rfl rfl) rfl rfl ?_
            refine y_end ?_
            intro W hW
            refine n_then ?_
            refine c_seq ?_
            refine c_seq ?_
            refine c_reg ?_
            refine l_val (r_fieldAddr 0 Try.underlying130 rfl tyC3.size rfl rfl rfl) rfl rfl ?_
            refine l_loadC hW 0 tyC3 rfl rfl rfl rfl rfl rfl ?_
            refine l_val (r_eqlN (n := 0) rfl rfl rfl rfl) rfl rfl ?_
            refine l_split ?_ ?_
            · intro hc18
              replace hc18 := of_decide_eq_true hc18
              refine l_val (r_move (v := .bool _) rfl rfl) rfl rfl ?_
              refine l_not (by kernel_rfl) rfl ?_
              refine l_val (r_pick (v := .bool _) rfl rfl rfl) rfl rfl ?_
              refine l_val (r_move (v := .bool _) rfl rfl) rfl rfl ?_
              refine l_not (by kernel_rfl) rfl ?_
              refine l_val (r_pick (v := .bool _) rfl rfl rfl) rfl rfl ?_
              refine l_end ?_
              refine n_then ?_
              refine c_true rfl ?_
              refine c_seq ?_
              refine c_reg ?_
              refine l_val (r_assign (v := .bool _) rfl rfl) rfl rfl ?_
              refine l_end ?_
              refine n_then ?_
              refine c_ret ?_
              refine r_then ?_
              refine ret_tmp (v := .bool _) rfl rfl ?_
              have e1 : stp o f o.length = x.2 := by rw [show o.length = x.1 by omega]; exact hst
              have hv : askW q x.2.1 x.2.2.1 x.2.2.2 = _ := ask_no (by rw [← hb1]; omega)
              exact ⟨_, [_], rfl, ⟨by rw [plays, e1]; exact congrArg Value.bool hv.symm, by rw [askd, e1, ← hb1]⟩, hW.drop 1⟩
            · intro hc18
              replace hc18 := of_decide_eq_false hc18
              refine l_val (r_move (v := .bool _) rfl rfl) rfl rfl ?_
              refine l_valG (r_move (v := .bool _) rfl rfl) (by kernel_rfl) rfl ?_
              refine l_val (r_pick (v := .bool _) rfl rfl rfl) rfl rfl ?_
              refine l_val (r_move (v := .bool _) rfl rfl) rfl rfl ?_
              refine l_valG (r_move (v := .bool _) rfl rfl) (by kernel_rfl) rfl ?_
              refine l_val (r_pick (v := .bool _) rfl rfl rfl) rfl rfl ?_
              refine l_end ?_
              refine n_then ?_
              refine c_true rfl ?_
              refine c_seq ?_
              refine c_reg ?_
              refine l_val (r_assign (v := .bool _) rfl rfl) rfl rfl ?_
              refine l_end ?_
              refine n_then ?_
              refine c_ret ?_
              refine r_then ?_
              refine ret_tmp (v := .bool _) rfl rfl ?_
              have e1 : stp o f o.length = x.2 := by rw [show o.length = x.1 by omega]; exact hst
              have hv : askW q x.2.1 x.2.2.1 x.2.2.2 = _ := ask_no (.inr (.inr (decide_eq_true (by rw [← ek]; exact hc17))))
              exact ⟨_, [_], rfl, ⟨by rw [plays, e1]; exact congrArg Value.bool hv.symm, by rw [askd, e1, ← hb1]⟩, hW.drop 1⟩
          · intro hc17
            replace hc17 := of_decide_eq_false hc17
            refine y_val (r_assign (v := .bool _) rfl rfl) rfl rfl ?_
            refine y_end ?_
            intro W hW
            refine n_then ?_
            refine c_seq ?_
            refine c_seq ?_
            refine c_reg ?_
            refine l_val (r_fieldAddr 0 Try.underlying130 rfl tyC3.size rfl rfl rfl) rfl rfl ?_
            refine l_loadC hW 0 tyC3 rfl rfl rfl rfl rfl rfl ?_
            refine l_val (r_eqlN (n := 0) rfl rfl rfl rfl) rfl rfl ?_
            refine l_split ?_ ?_
            · intro hc19
              replace hc19 := of_decide_eq_true hc19
              refine l_val (r_move (v := .bool _) rfl rfl) rfl rfl ?_
              refine l_not (by kernel_rfl) rfl ?_
              refine l_val (r_pick (v := .bool _) rfl rfl rfl) rfl rfl ?_
              refine l_val (r_move (v := .bool _) rfl rfl) rfl rfl ?_
              refine l_not (by kernel_rfl) rfl ?_
              refine l_val (r_pick (v := .bool _) rfl rfl rfl) rfl rfl ?_
              refine l_end ?_
              refine n_then ?_
              refine c_true rfl ?_
              refine c_seq ?_
              refine c_reg ?_
              refine l_val (r_assign (v := .bool _) rfl rfl) rfl rfl ?_
              refine l_end ?_
              refine n_then ?_
              refine c_ret ?_
              refine r_then ?_
              refine ret_tmp (v := .bool _) rfl rfl ?_
              have e1 : stp o f o.length = x.2 := by rw [show o.length = x.1 by omega]; exact hst
              have hv : askW q x.2.1 x.2.2.1 x.2.2.2 = _ := ask_no (by rw [← hb1]; omega)
              exact ⟨_, [_], rfl, ⟨by rw [plays, e1]; exact congrArg Value.bool hv.symm, by rw [askd, e1, ← hb1]⟩, hW.drop 1⟩
            · intro hc19
              replace hc19 := of_decide_eq_false hc19
              refine l_val (r_move (v := .bool _) rfl rfl) rfl rfl ?_
              refine l_valG (r_move (v := .bool _) rfl rfl) (by kernel_rfl) rfl ?_
              refine l_val (r_pick (v := .bool _) rfl rfl rfl) rfl rfl ?_
              refine l_val (r_move (v := .bool _) rfl rfl) rfl rfl ?_
              refine l_valG (r_move (v := .bool _) rfl rfl) (by kernel_rfl) rfl ?_
              refine l_val (r_pick (v := .bool _) rfl rfl rfl) rfl rfl ?_
              refine l_end ?_
              refine n_then ?_
              refine c_false rfl ?_
              refine c_skip ?_
              refine n_then ?_
              refine c_seq ?_
              refine c_regY hW [] [.q, .q, .q, .q, .q, .q, .q, .q, .q, .q, .q] [0, 1, 3, 7, 15, 31, 63, 15, 255, 511, 1023] (by kernel_rfl) (by kernel_rfl) ?_
              refine y_val (r_fieldAddr 1 Try.underlying130 rfl tyC3.size rfl rfl rfl) rfl rfl ?_
              refine y_loadC 0 tyC3 rfl rfl rfl rfl rfl rfl (by decide) ?_
              refine y_val (r_eqlN (n := 0) rfl rfl rfl rfl) rfl rfl ?_
              refine y_split ?_ ?_
              · intro hc20
                replace hc20 := of_decide_eq_true hc20
                refine y_val (r_move (v := .bool _) rfl rfl) rfl rfl ?_
                refine y_not (by kernel_rfl) rfl ?_
                refine y_not (by kernel_rfl) rfl ?_
                refine y_not (by kernel_rfl) rfl ?_
                refine y_not (by kernel_rfl) rfl ?_
                refine y_not (by kernel_rfl) rfl ?_
                refine y_val (r_pick (v := .bool _) rfl rfl rfl) rfl rfl ?_
                refine y_val (r_assign (v := .bool _) rfl rfl) rfl rfl ?_
                refine y_end ?_
                intro W hW
                refine n_then ?_
                refine c_ret ?_
                refine ret_tmp (v := .bool _) rfl rfl ?_
                have e1 : stp o f o.length = x.2 := by rw [show o.length = x.1 by omega]; exact hst
                have hneg : ¬ (x.2.1 = 0 ∨ (0 < q.v ∧ q.v < (after q x.2.1 x.2.2.1).x) ∨ noiseB q = true) := by
                  rw [← hb1, show noiseB q = false from decide_eq_false (by rw [← ek]; exact hc17)]
                  rintro (h | ⟨h1, h2⟩ | h)
                  · omega
                  · omega
                  · cases h
                have hv : askW q x.2.1 x.2.2.1 x.2.2.2 = _ := ask_y0 hneg (by omega)
                exact ⟨_, [_], rfl, ⟨by rw [plays, e1]; exact congrArg Value.bool hv.symm, by rw [askd, e1, ← hb1]⟩, hW.drop 1⟩
              · intro hc20
                replace hc20 := of_decide_eq_false hc20
                refine y_val (r_move (v := .bool _) rfl rfl) rfl rfl ?_
                refine y_val (r_move (v := .pointer _) rfl rfl) (by kernel_rfl) rfl ?_
                refine y_val (r_nilCheck rfl rfl) (by kernel_rfl) rfl ?_
                refine y_loadA 1 tyA39 (by kernel_rfl) rfl rfl rfl rfl (by first | rfl | exact kc_len _ | exact kcf_len _ | exact boC_len _ _ | (simp; done)) (by decide) ?_
                refine y_loadA 0 tyA130 (by kernel_rfl) rfl rfl rfl rfl (by first | rfl | exact kc_len _ | exact kcf_len _ | exact boC_len _ _ | (simp; done)) (by decide) ?_
                refine y_call (g_plays b1 t x.2.1 x.2.2.1 x.2.2.2 (by omega) (by omega) (by omega) (by omega)) en71 (by kernel_rfl) rfl rfl rfl ?_
                refine y_val (r_pick (v := .bool _) rfl rfl rfl) rfl rfl ?_
                refine y_val (r_assign (v := .bool _) rfl rfl) rfl rfl ?_
                refine y_end ?_
                intro W hW
                refine n_then ?_
                refine c_ret ?_
                refine ret_tmp (v := .bool _) rfl rfl ?_
                have e1 : stp o f o.length = x.2 := by rw [show o.length = x.1 by omega]; exact hst
                have hneg : ¬ (x.2.1 = 0 ∨ (0 < q.v ∧ q.v < (after q x.2.1 x.2.2.1).x) ∨ noiseB q = true) := by
                  rw [← hb1, show noiseB q = false from decide_eq_false (by rw [← ek]; exact hc17)]
                  rintro (h | ⟨h1, h2⟩ | h)
                  · omega
                  · omega
                  · cases h
                have hv : askW q x.2.1 x.2.2.1 x.2.2.2 = _ := (ask_w hneg (by omega)).trans (play_congr em ek).symm
                exact ⟨_, [_], rfl, ⟨by rw [plays, e1]; exact congrArg Value.bool hv.symm, by rw [askd, e1, ← hb1]⟩, hW.drop 1⟩
      · intro hc7
        replace hc7 := of_decide_eq_false hc7
        refine l_val (r_pick (v := .bool _) rfl rfl rfl) rfl rfl ?_
        refine l_end ?_
        have hax := after_n (b := q) (r := x.2.1) (w := x.2.2.1) (by omega)
        obtain ⟨b1, hb1⟩ : ∃ b1, b1 = after q x.2.1 x.2.2.1 := ⟨_, rfl⟩
        have es : b1 = { q with a := q.a + 1 } := hb1.trans hax
        have ev : b1.v = q.v := by rw [es]
        have en : b1.n = q.n := by rw [es]
        have em : b1.m = q.m := by rw [es]
        have ek : b1.k = q.k := by rw [es]
        have ex : b1.x = q.x := by rw [es]
        rw [← es] at hW
        refine n_then ?_
        refine c_false rfl ?_
        refine c_skip ?_
        refine n_then ?_
        refine c_seq ?_
        refine c_regY hW [] [.q, .q, .q, .q, .q, .q, .q, .q, .q, .q, .q, .q, .q, .q, .q, .q, .q] [0, 1, 3, 7, 15, 31, 63, 127, 255, 511, 63, 1087, 3135, 7231, 16383, 32767, 65535] (by kernel_rfl) (by kernel_rfl) ?_
        refine y_val (r_move (v := .pointer _) rfl rfl) rfl rfl ?_
        refine y_val (r_nilCheck rfl rfl) rfl rfl ?_
        refine y_val (r_fieldAddr 9 Try.underlying39 rfl tyC3.size rfl rfl rfl) rfl rfl ?_
        refine y_loadC 1 tyC3 rfl rfl rfl rfl rfl rfl (by decide) ?_
        refine y_val (r_gtr rfl rfl rfl rfl) rfl rfl ?_
        refine y_split ?_ ?_
        · intro hc21
          replace hc21 := of_decide_eq_true hc21
          refine y_val (r_move (v := .bool _) rfl rfl) rfl rfl ?_
          refine y_val (r_move (v := .pointer _) rfl rfl) (by kernel_rfl) rfl ?_
          refine y_val (r_nilCheck rfl rfl) (by kernel_rfl) rfl ?_
          refine y_val (r_fieldAddr 27 Try.underlying39 rfl tyC3.size rfl rfl rfl) (by kernel_rfl) rfl ?_
          refine y_loadC 1 tyC3 (by kernel_rfl) rfl rfl rfl rfl rfl (by decide) ?_
          refine y_val (r_move (v := .pointer _) rfl rfl) (by kernel_rfl) rfl ?_
          refine y_val (r_nilCheck rfl rfl) (by kernel_rfl) rfl ?_
          refine y_val (r_fieldAddr 9 Try.underlying39 rfl tyC3.size rfl rfl rfl) (by kernel_rfl) rfl ?_
          refine y_loadC 1 tyC3 (by kernel_rfl) rfl rfl rfl rfl rfl (by decide) ?_
          refine y_val (r_gtr rfl rfl rfl rfl) (by kernel_rfl) rfl ?_
          refine y_split ?_ ?_
          · intro hc22
            replace hc22 := of_decide_eq_true hc22
            refine y_val (r_pick (v := .bool _) rfl rfl rfl) rfl rfl ?_
            refine y_val (r_assign (v := .bool _) rfl rfl) rfl rfl ?_
            refine y_end ?_
            intro W hW
            refine n_then ?_
            refine c_seq ?_
            refine c_regY hW [] [.q, .q, .q, .q, .q, .q, .q, .q, .q, .q, .q, .q, .q, .q, .q, .q, .q] [0, 1, 3, 7, 0, 0, 48, 112, 0, 256, 1023, 0, 0, 6144, 14336, 32767, 65535] (by kernel_rfl) (by kernel_rfl) ?_
            refine y_val (r_move (v := .pointer _) rfl rfl) rfl rfl ?_
            refine y_val (r_nilCheck rfl rfl) rfl rfl ?_
            refine y_val (r_fieldAddr 10 Try.underlying39 rfl tyA37.size rfl rfl rfl) rfl rfl ?_
            refine y_loadP 1 tyA37 (by kernel_rfl) rfl rfl rfl rfl (by rw [boC_len]; decide) (boC_key _ _) (by decide) ?_
            refine y_val (r_move (v := .int _ _) rfl rfl) rfl rfl ?_
            refine y_val (r_move (v := .int _ _) rfl rfl) rfl rfl ?_
            refine y_val (r_quoN (m := q.a.toNat) (n := q.n.toNat + 1) rfl (congrArg (Value.int .i64) ha) (congrArg (Value.int .i64) hb) (by omega) (by omega)) rfl rfl ?_
            refine y_val (r_conv_i64_u64 Try.underlying3 Try.underlying22 rfl rfl) rfl rfl ?_
            refine y_val (r_move (v := .int _ _) rfl rfl) rfl rfl ?_
            refine y_val (r_conv_i64_u64 (n := q.n.toNat + 1) Try.underlying3 Try.underlying22 rfl (congrArg (Value.int .i64) hb)) rfl rfl ?_
            refine y_call (g_Number _ _ _) en70 rfl rfl rfl rfl ?_
            refine y_val (r_move (v := .int _ _) rfl rfl) rfl rfl ?_
            refine y_val (r_move (v := .int _ _) rfl rfl) rfl rfl ?_
            refine y_val (r_remN (m := q.a.toNat) (n := q.n.toNat + 1) rfl (congrArg (Value.int .i64) ha) (congrArg (Value.int .i64) hb) (by omega)) rfl rfl ?_
            refine y_val (r_conv_i64_u64 Try.underlying3 Try.underlying22 rfl rfl) rfl rfl ?_
            refine y_val (r_neqN rfl rfl rfl rfl) rfl rfl ?_
            refine y_split ?_ ?_
            · intro hc23
              replace hc23 := of_decide_eq_true hc23
              refine y_val (r_assign (v := .bool _) rfl rfl) rfl rfl ?_
              refine y_end ?_
              intro W hW
              refine n_then ?_
              refine c_seq ?_
              refine c_seq ?_
              refine c_reg ?_
              refine l_val (r_fieldAddr 0 Try.underlying130 rfl tyC3.size rfl rfl rfl) rfl rfl ?_
              refine l_loadC hW 0 tyC3 rfl rfl rfl rfl rfl rfl ?_
              refine l_val (r_eqlN (n := 0) rfl rfl rfl rfl) rfl rfl ?_
              refine l_split ?_ ?_
              · intro hc24
                replace hc24 := of_decide_eq_true hc24
                refine l_val (r_move (v := .bool _) rfl rfl) rfl rfl ?_
                refine l_not (by kernel_rfl) rfl ?_
                refine l_val (r_pick (v := .bool _) rfl rfl rfl) rfl rfl ?_
                refine l_val (r_move (v := .bool _) rfl rfl) rfl rfl ?_
                refine l_not (by kernel_rfl) rfl ?_
                refine l_val (r_pick (v := .bool _) rfl rfl rfl) rfl rfl ?_
                refine l_end ?_
                refine n_then ?_
                refine c_true rfl ?_
                refine c_seq ?_
                refine c_reg ?_
                refine l_val (r_assign (v := .bool _) rfl rfl) rfl rfl ?_
                refine l_end ?_
                refine n_then ?_
                refine c_ret ?_
                refine r_then ?_
                refine ret_tmp (v := .bool _) rfl rfl ?_
                have e1 : stp o f o.length = x.2 := by rw [show o.length = x.1 by omega]; exact hst
                have hv : askW q x.2.1 x.2.2.1 x.2.2.2 = _ := ask_no (by rw [← hb1]; omega)
                exact ⟨_, [_], rfl, ⟨by rw [plays, e1]; exact congrArg Value.bool hv.symm, by rw [askd, e1, ← hb1]⟩, hW.drop 1⟩
              · intro hc24
                replace hc24 := of_decide_eq_false hc24
                refine l_val (r_move (v := .bool _) rfl rfl) rfl rfl ?_
                refine l_valG (r_move (v := .bool _) rfl rfl) (by kernel_rfl) rfl ?_
                refine l_val (r_pick (v := .bool _) rfl rfl rfl) rfl rfl ?_
                refine l_val (r_move (v := .bool _) rfl rfl) rfl rfl ?_
                refine l_not (by kernel_rfl) rfl ?_
                refine l_val (r_pick (v := .bool _) rfl rfl rfl) rfl rfl ?_
                refine l_end ?_
                refine n_then ?_
                refine c_true rfl ?_
                refine c_seq ?_
                refine c_reg ?_
                refine l_val (r_assign (v := .bool _) rfl rfl) rfl rfl ?_
                refine l_end ?_
                refine n_then ?_
                refine c_ret ?_
                refine r_then ?_
                refine ret_tmp (v := .bool _) rfl rfl ?_
                have e1 : stp o f o.length = x.2 := by rw [show o.length = x.1 by omega]; exact hst
                have hv : askW q x.2.1 x.2.2.1 x.2.2.2 = _ := ask_no (by rw [← hb1]; omega)
                exact ⟨_, [_], rfl, ⟨by rw [plays, e1]; exact congrArg Value.bool hv.symm, by rw [askd, e1, ← hb1]⟩, hW.drop 1⟩
            · intro hc23
              replace hc23 := of_decide_eq_false hc23
              refine y_val (r_assign (v := .bool _) rfl rfl) rfl rfl ?_
              refine y_end ?_
              intro W hW
              refine n_then ?_
              refine c_seq ?_
              refine c_seq ?_
              refine c_reg ?_
              refine l_val (r_fieldAddr 0 Try.underlying130 rfl tyC3.size rfl rfl rfl) rfl rfl ?_
              refine l_loadC hW 0 tyC3 rfl rfl rfl rfl rfl rfl ?_
              refine l_val (r_eqlN (n := 0) rfl rfl rfl rfl) rfl rfl ?_
              refine l_split ?_ ?_
              · intro hc25
                replace hc25 := of_decide_eq_true hc25
                refine l_val (r_move (v := .bool _) rfl rfl) rfl rfl ?_
                refine l_not (by kernel_rfl) rfl ?_
                refine l_val (r_pick (v := .bool _) rfl rfl rfl) rfl rfl ?_
                refine l_val (r_move (v := .bool _) rfl rfl) rfl rfl ?_
                refine l_not (by kernel_rfl) rfl ?_
                refine l_val (r_pick (v := .bool _) rfl rfl rfl) rfl rfl ?_
                refine l_end ?_
                refine n_then ?_
                refine c_true rfl ?_
                refine c_seq ?_
                refine c_reg ?_
                refine l_val (r_assign (v := .bool _) rfl rfl) rfl rfl ?_
                refine l_end ?_
                refine n_then ?_
                refine c_ret ?_
                refine r_then ?_
                refine ret_tmp (v := .bool _) rfl rfl ?_
                have e1 : stp o f o.length = x.2 := by rw [show o.length = x.1 by omega]; exact hst
                have hv : askW q x.2.1 x.2.2.1 x.2.2.2 = _ := ask_no (by rw [← hb1]; omega)
                exact ⟨_, [_], rfl, ⟨by rw [plays, e1]; exact congrArg Value.bool hv.symm, by rw [askd, e1, ← hb1]⟩, hW.drop 1⟩
              · intro hc25
                replace hc25 := of_decide_eq_false hc25
                refine l_val (r_move (v := .bool _) rfl rfl) rfl rfl ?_
                refine l_valG (r_move (v := .bool _) rfl rfl) (by kernel_rfl) rfl ?_
                refine l_val (r_pick (v := .bool _) rfl rfl rfl) rfl rfl ?_
                refine l_val (r_move (v := .bool _) rfl rfl) rfl rfl ?_
                refine l_not (by kernel_rfl) rfl ?_
                refine l_val (r_pick (v := .bool _) rfl rfl rfl) rfl rfl ?_
                refine l_end ?_
                refine n_then ?_
                refine c_true rfl ?_
                refine c_seq ?_
                refine c_reg ?_
                refine l_val (r_assign (v := .bool _) rfl rfl) rfl rfl ?_
                refine l_end ?_
                refine n_then ?_
                refine c_ret ?_
                refine r_then ?_
                refine ret_tmp (v := .bool _) rfl rfl ?_
                have e1 : stp o f o.length = x.2 := by rw [show o.length = x.1 by omega]; exact hst
                have hv : askW q x.2.1 x.2.2.1 x.2.2.2 = _ := ask_no (by rw [← hb1]; omega)
                exact ⟨_, [_], rfl, ⟨by rw [plays, e1]; exact congrArg Value.bool hv.symm, by rw [askd, e1, ← hb1]⟩, hW.drop 1⟩
          · intro hc22
            replace hc22 := of_decide_eq_false hc22
            refine y_val (r_pick (v := .bool _) rfl rfl rfl) rfl rfl ?_
            refine y_val (r_assign (v := .bool _) rfl rfl) rfl rfl ?_
            refine y_end ?_
            intro W hW
            refine n_then ?_
            refine c_seq ?_
            refine c_regY hW [] [.q, .q, .q, .q, .q, .q, .q, .q, .q, .q, .q, .q, .q, .q, .q, .q, .q] [0, 1, 3, 7, 0, 0, 48, 112, 0, 256, 1023, 0, 0, 6144, 14336, 32767, 65535] (by kernel_rfl) (by kernel_rfl) ?_
            refine y_val (r_move (v := .pointer _) rfl rfl) rfl rfl ?_
            refine y_val (r_nilCheck rfl rfl) rfl rfl ?_
            refine y_val (r_fieldAddr 10 Try.underlying39 rfl tyA37.size rfl rfl rfl) rfl rfl ?_
            refine y_loadP 1 tyA37 (by kernel_rfl) rfl rfl rfl rfl (by rw [boC_len]; decide) (boC_key _ _) (by decide) ?_
            refine y_val (r_move (v := .int _ _) rfl rfl) rfl rfl ?_
            refine y_val (r_move (v := .int _ _) rfl rfl) rfl rfl ?_
            refine y_val (r_quoN (m := q.a.toNat) (n := q.n.toNat + 1) rfl (congrArg (Value.int .i64) ha) (congrArg (Value.int .i64) hb) (by omega) (by omega)) rfl rfl ?_
            refine y_val (r_conv_i64_u64 Try.underlying3 Try.underlying22 rfl rfl) rfl rfl ?_
            refine y_val (r_move (v := .int _ _) rfl rfl) rfl rfl ?_
            refine y_val (r_conv_i64_u64 (n := q.n.toNat + 1) Try.underlying3 Try.underlying22 rfl (congrArg (Value.int .i64) hb)) rfl rfl ?_
            refine y_call (g_Number _ _ _) en70 rfl rfl rfl rfl ?_
            refine y_val (r_move (v := .int _ _) rfl rfl) rfl rfl ?_
            refine y_val (r_move (v := .int _ _) rfl rfl) rfl rfl ?_
            refine y_val (r_remN (m := q.a.toNat) (n := q.n.toNat + 1) rfl (congrArg (Value.int .i64) ha) (congrArg (Value.int .i64) hb) (by omega)) rfl rfl ?_
            refine y_val (r_conv_i64_u64 Try.underlying3 Try.underlying22 rfl rfl) rfl rfl ?_
            refine y_val (r_neqN rfl rfl rfl rfl) rfl rfl ?_
            refine y_split ?_ ?_
            · intro hc26
              replace hc26 := of_decide_eq_true hc26
              refine y_val (r_assign (v := .bool _) rfl rfl) rfl rfl ?_
              refine y_end ?_
              intro W hW
              refine n_then ?_
              refine c_seq ?_
              refine c_seq ?_
              refine c_reg ?_
              refine l_val (r_fieldAddr 0 Try.underlying130 rfl tyC3.size rfl rfl rfl) rfl rfl ?_
              refine l_loadC hW 0 tyC3 rfl rfl rfl rfl rfl rfl ?_
              refine l_val (r_eqlN (n := 0) rfl rfl rfl rfl) rfl rfl ?_
              refine l_split ?_ ?_
              · intro hc27
                replace hc27 := of_decide_eq_true hc27
                refine l_val (r_move (v := .bool _) rfl rfl) rfl rfl ?_
                refine l_not (by kernel_rfl) rfl ?_
                refine l_val (r_pick (v := .bool _) rfl rfl rfl) rfl rfl ?_
                refine l_val (r_move (v := .bool _) rfl rfl) rfl rfl ?_
                refine l_not (by kernel_rfl) rfl ?_
                refine l_val (r_pick (v := .bool _) rfl rfl rfl) rfl rfl ?_
                refine l_end ?_
                refine n_then ?_
                refine c_true rfl ?_
                refine c_seq ?_
                refine c_reg ?_
                refine l_val (r_assign (v := .bool _) rfl rfl) rfl rfl ?_
                refine l_end ?_
                refine n_then ?_
                refine c_ret ?_
                refine r_then ?_
                refine ret_tmp (v := .bool _) rfl rfl ?_
                have e1 : stp o f o.length = x.2 := by rw [show o.length = x.1 by omega]; exact hst
                have hv : askW q x.2.1 x.2.2.1 x.2.2.2 = _ := ask_no (by rw [← hb1]; omega)
                exact ⟨_, [_], rfl, ⟨by rw [plays, e1]; exact congrArg Value.bool hv.symm, by rw [askd, e1, ← hb1]⟩, hW.drop 1⟩
              · intro hc27
                replace hc27 := of_decide_eq_false hc27
                refine l_val (r_move (v := .bool _) rfl rfl) rfl rfl ?_
                refine l_valG (r_move (v := .bool _) rfl rfl) (by kernel_rfl) rfl ?_
                refine l_val (r_pick (v := .bool _) rfl rfl rfl) rfl rfl ?_
                refine l_val (r_move (v := .bool _) rfl rfl) rfl rfl ?_
                refine l_valG (r_move (v := .bool _) rfl rfl) (by kernel_rfl) rfl ?_
                refine l_val (r_pick (v := .bool _) rfl rfl rfl) rfl rfl ?_
                refine l_end ?_
                refine n_then ?_
                refine c_true rfl ?_
                refine c_seq ?_
                refine c_reg ?_
                refine l_val (r_assign (v := .bool _) rfl rfl) rfl rfl ?_
                refine l_end ?_
                refine n_then ?_
                refine c_ret ?_
                refine r_then ?_
                refine ret_tmp (v := .bool _) rfl rfl ?_
                have e1 : stp o f o.length = x.2 := by rw [show o.length = x.1 by omega]; exact hst
                have hv : askW q x.2.1 x.2.2.1 x.2.2.2 = _ := ask_no (.inr (.inr (decide_eq_true (by rw [← ek]; exact hc26))))
                exact ⟨_, [_], rfl, ⟨by rw [plays, e1]; exact congrArg Value.bool hv.symm, by rw [askd, e1, ← hb1]⟩, hW.drop 1⟩
            · intro hc26
              replace hc26 := of_decide_eq_false hc26
              refine y_val (r_assign (v := .bool _) rfl rfl) rfl rfl ?_
              refine y_end ?_
              intro W hW
              refine n_then ?_
              refine c_seq ?_
              refine c_seq ?_
              refine c_reg ?_
              refine l_val (r_fieldAddr 0 Try.underlying130 rfl tyC3.size rfl rfl rfl) rfl rfl ?_
              refine l_loadC hW 0 tyC3 rfl rfl rfl rfl rfl rfl ?_
              refine l_val (r_eqlN (n := 0) rfl rfl rfl rfl) rfl rfl ?_
              refine l_split ?_ ?_
              · intro hc28
                replace hc28 := of_decide_eq_true hc28
                refine l_val (r_move (v := .bool _) rfl rfl) rfl rfl ?_
                refine l_not (by kernel_rfl) rfl ?_
                refine l_val (r_pick (v := .bool _) rfl rfl rfl) rfl rfl ?_
                refine l_val (r_move (v := .bool _) rfl rfl) rfl rfl ?_
                refine l_not (by kernel_rfl) rfl ?_
                refine l_val (r_pick (v := .bool _) rfl rfl rfl) rfl rfl ?_
                refine l_end ?_
                refine n_then ?_
                refine c_true rfl ?_
                refine c_seq ?_
                refine c_reg ?_
                refine l_val (r_assign (v := .bool _) rfl rfl) rfl rfl ?_
                refine l_end ?_
                refine n_then ?_
                refine c_ret ?_
                refine r_then ?_
                refine ret_tmp (v := .bool _) rfl rfl ?_
                have e1 : stp o f o.length = x.2 := by rw [show o.length = x.1 by omega]; exact hst
                have hv : askW q x.2.1 x.2.2.1 x.2.2.2 = _ := ask_no (by rw [← hb1]; omega)
                exact ⟨_, [_], rfl, ⟨by rw [plays, e1]; exact congrArg Value.bool hv.symm, by rw [askd, e1, ← hb1]⟩, hW.drop 1⟩
              · intro hc28
                replace hc28 := of_decide_eq_false hc28
                refine l_val (r_move (v := .bool _) rfl rfl) rfl rfl ?_
                refine l_valG (r_move (v := .bool _) rfl rfl) (by kernel_rfl) rfl ?_
                refine l_val (r_pick (v := .bool _) rfl rfl rfl) rfl rfl ?_
                refine l_val (r_move (v := .bool _) rfl rfl) rfl rfl ?_
                refine l_valG (r_move (v := .bool _) rfl rfl) (by kernel_rfl) rfl ?_
                refine l_val (r_pick (v := .bool _) rfl rfl rfl) rfl rfl ?_
                refine l_end ?_
                refine n_then ?_
                refine c_false rfl ?_
                refine c_skip ?_
                refine n_then ?_
                refine c_seq ?_
                refine c_regY hW [] [.q, .q, .q, .q, .q, .q, .q, .q, .q, .q, .q] [0, 1, 3, 7, 15, 31, 63, 15, 255, 511, 1023] (by kernel_rfl) (by kernel_rfl) ?_
                refine y_val (r_fieldAddr 1 Try.underlying130 rfl tyC3.size rfl rfl rfl) rfl rfl ?_
                refine y_loadC 0 tyC3 rfl rfl rfl rfl rfl rfl (by decide) ?_
                refine y_val (r_eqlN (n := 0) rfl rfl rfl rfl) rfl rfl ?_
                refine y_split ?_ ?_
                · intro hc29
                  replace hc29 := of_decide_eq_true hc29
                  refine y_val (r_move (v := .bool _) rfl rfl) rfl rfl ?_
                  refine y_not (by kernel_rfl) rfl ?_
                  refine y_not (by kernel_rfl) rfl ?_
                  refine y_not (by kernel_rfl) rfl ?_
                  refine y_not (by kernel_rfl) rfl ?_
                  refine y_not (by kernel_rfl) rfl ?_
                  refine y_val (r_pick (v := .bool _) rfl rfl rfl) rfl rfl ?_
                  refine y_val (r_assign (v := .bool _) rfl rfl) rfl rfl ?_
                  refine y_end ?_
                  intro W hW
                  refine n_then ?_
                  refine c_ret ?_
                  refine ret_tmp (v := .bool _) rfl rfl ?_
                  have e1 : stp o f o.length = x.2 := by rw [show o.length = x.1 by omega]; exact hst
                  have hneg : ¬ (x.2.1 = 0 ∨ (0 < q.v ∧ q.v < (after q x.2.1 x.2.2.1).x) ∨ noiseB q = true) := by
                    rw [← hb1, show noiseB q = false from decide_eq_false (by rw [← ek]; exact hc26)]
                    rintro (h | ⟨h1, h2⟩ | h)
                    · omega
                    · omega
                    · cases h
                  have hv : askW q x.2.1 x.2.2.1 x.2.2.2 = _ := ask_y0 hneg (by omega)
                  exact ⟨_, [_], rfl, ⟨by rw [plays, e1]; exact congrArg Value.bool hv.symm, by rw [askd, e1, ← hb1]⟩, hW.drop 1⟩
                · intro hc29
                  replace hc29 := of_decide_eq_false hc29
                  refine y_val (r_move (v := .bool _) rfl rfl) rfl rfl ?_
                  refine y_val (r_move (v := .pointer _) rfl rfl) (by kernel_rfl) rfl ?_
                  refine y_val (r_nilCheck rfl rfl) (by kernel_rfl) rfl ?_
                  refine y_loadA 1 tyA39 (by kernel_rfl) rfl rfl rfl rfl (by first | rfl | exact kc_len _ | exact kcf_len _ | exact boC_len _ _ | (simp; done)) (by decide) ?_
                  refine y_loadA 0 tyA130 (by kernel_rfl) rfl rfl rfl rfl (by first | rfl | exact kc_len _ | exact kcf_len _ | exact boC_len _ _ | (simp; done)) (by decide) ?_
                  refine y_call (g_plays b1 t x.2.1 x.2.2.1 x.2.2.2 (by omega) (by omega) (by omega) (by omega)) en71 (by kernel_rfl) rfl rfl rfl ?_
                  refine y_val (r_pick (v := .bool _) rfl rfl rfl) rfl rfl ?_
                  refine y_val (r_assign (v := .bool _) rfl rfl) rfl rfl ?_
                  refine y_end ?_
                  intro W hW
                  refine n_then ?_
                  refine c_ret ?_
                  refine ret_tmp (v := .bool _) rfl rfl ?_
                  have e1 : stp o f o.length = x.2 := by rw [show o.length = x.1 by omega]; exact hst
                  have hneg : ¬ (x.2.1 = 0 ∨ (0 < q.v ∧ q.v < (after q x.2.1 x.2.2.1).x) ∨ noiseB q = true) := by
                    rw [← hb1, show noiseB q = false from decide_eq_false (by rw [← ek]; exact hc26)]
                    rintro (h | ⟨h1, h2⟩ | h)
                    · omega
                    · omega
                    · cases h
                  have hv : askW q x.2.1 x.2.2.1 x.2.2.2 = _ := (ask_w hneg (by omega)).trans (play_congr em ek).symm
                  exact ⟨_, [_], rfl, ⟨by rw [plays, e1]; exact congrArg Value.bool hv.symm, by rw [askd, e1, ← hb1]⟩, hW.drop 1⟩
        · intro hc21
          replace hc21 := of_decide_eq_false hc21
          refine y_val (r_move (v := .bool _) rfl rfl) rfl rfl ?_
          refine y_not (by kernel_rfl) rfl ?_
          refine y_not (by kernel_rfl) rfl ?_
          refine y_not (by kernel_rfl) rfl ?_
          refine y_not (by kernel_rfl) rfl ?_
          refine y_not (by kernel_rfl) rfl ?_
          refine y_not (by kernel_rfl) rfl ?_
          refine y_not (by kernel_rfl) rfl ?_
          refine y_not (by kernel_rfl) rfl ?_
          refine y_not (by kernel_rfl) rfl ?_
          refine y_val (r_pick (v := .bool _) rfl rfl rfl) rfl rfl ?_
          refine y_val (r_assign (v := .bool _) rfl rfl) rfl rfl ?_
          refine y_end ?_
          intro W hW
          refine n_then ?_
          refine c_seq ?_
          refine c_regY hW [] [.q, .q, .q, .q, .q, .q, .q, .q, .q, .q, .q, .q, .q, .q, .q, .q, .q] [0, 1, 3, 7, 0, 0, 48, 112, 0, 256, 1023, 0, 0, 6144, 14336, 32767, 65535] (by kernel_rfl) (by kernel_rfl) ?_
          refine y_val (r_move (v := .pointer _) rfl rfl) rfl rfl ?_
          refine y_val (r_nilCheck rfl rfl) rfl rfl ?_
          refine y_val (r_fieldAddr 10 Try.underlying39 rfl tyA37.size rfl rfl rfl) rfl rfl ?_
          refine y_loadP 1 tyA37 (by kernel_rfl) rfl rfl rfl rfl (by rw [boC_len]; decide) (boC_key _ _) (by decide) ?_
          refine y_val (r_move (v := .int _ _) rfl rfl) rfl rfl ?_
          refine y_val (r_move (v := .int _ _) rfl rfl) rfl rfl ?_
          refine y_val (r_quoN (m := q.a.toNat) (n := q.n.toNat + 1) rfl (congrArg (Value.int .i64) ha) (congrArg (Value.int .i64) hb) (by omega) (by omega)) rfl rfl ?_
          refine y_val (r_conv_i64_u64 Try.underlying3 Try.underlying22 rfl rfl) rfl rfl ?_
          refine y_val (r_move (v := .int _ _) rfl rfl) rfl rfl ?_
          refine y_val (r_conv_i64_u64 (n := q.n.toNat + 1) Try.underlying3 Try.underlying22 rfl (congrArg (Value.int .i64) hb)) rfl rfl ?_
          refine y_call (g_Number _ _ _) en70 rfl rfl rfl rfl ?_
          refine y_val (r_move (v := .int _ _) rfl rfl) rfl rfl ?_
          refine y_val (r_move (v := .int _ _) rfl rfl) rfl rfl ?_
          refine y_val (r_remN (m := q.a.toNat) (n := q.n.toNat + 1) rfl (congrArg (Value.int .i64) ha) (congrArg (Value.int .i64) hb) (by omega)) rfl rfl ?_
          refine y_val (r_conv_i64_u64 Try.underlying3 Try.underlying22 rfl rfl) rfl rfl ?_
          refine y_val (r_neqN rfl rfl rfl rfl) rfl rfl ?_
          refine y_split ?_ ?_
          · intro hc30
            replace hc30 := of_decide_eq_true hc30
            refine y_val (r_assign (v := .bool _) rfl rfl) rfl rfl ?_
            refine y_end ?_
            intro W hW
            refine n_then ?_
            refine c_seq ?_
            refine c_seq ?_
            refine c_reg ?_
            refine l_val (r_fieldAddr 0 Try.underlying130 rfl tyC3.size rfl rfl rfl) rfl rfl ?_
            refine l_loadC hW 0 tyC3 rfl rfl rfl rfl rfl rfl ?_
            refine l_val (r_eqlN (n := 0) rfl rfl rfl rfl) rfl rfl ?_
            refine l_split ?_ ?_
            · intro hc31
              replace hc31 := of_decide_eq_true hc31
              refine l_val (r_move (v := .bool _) rfl rfl) rfl rfl ?_
              refine l_not (by kernel_rfl) rfl ?_
              refine l_val (r_pick (v := .bool _) rfl rfl rfl) rfl rfl ?_
              refine l_val (r_move (v := .bool _) rfl rfl) rfl rfl ?_
              refine l_not (by kernel_rfl) rfl ?_
              refine l_val (r_pick (v := .bool _) rfl rfl rfl) rfl rfl ?_
              refine l_end ?_
              refine n_then ?_
              refine c_true rfl ?_
              refine c_seq ?_
              refine c_reg ?_
              refine l_val (r_assign (v := .bool _) rfl rfl) rfl rfl ?_
              refine l_end ?_
              refine n_then ?_
              refine c_ret ?_
              refine r_then ?_
              refine ret_tmp (v := .bool _) rfl rfl ?_
              have e1 : stp o f o.length = x.2 := by rw [show o.length = x.1 by omega]; exact hst
              have hv : askW q x.2.1 x.2.2.1 x.2.2.2 = _ := ask_no (by rw [← hb1]; omega)
              exact ⟨_, [_], rfl, ⟨by rw [plays, e1]; exact congrArg Value.bool hv.symm, by rw [askd, e1, ← hb1]⟩, hW.drop 1⟩
            · intro hc31
              replace hc31 := of_decide_eq_false hc31
              refine l_val (r_move (v := .bool _) rfl rfl) rfl rfl ?_
              refine l_valG (r_move (v := .bool _) rfl rfl) (by kernel_rfl) rfl ?_
              refine l_val (r_pick (v := .bool _) rfl rfl rfl) rfl rfl ?_
              refine l_val (r_move (v := .bool _) rfl rfl) rfl rfl ?_
              refine l_valG (r_move (v := .bool _) rfl rfl) (by kernel_rfl) rfl ?_
              refine l_val (r_pick (v := .bool _) rfl rfl rfl) rfl rfl ?_
              refine l_end ?_
              refine n_then ?_
              refine c_true rfl ?_
              refine c_seq ?_
              refine c_reg ?_
              refine l_val (r_assign (v := .bool _) rfl rfl) rfl rfl ?_
              refine l_end ?_
              refine n_then ?_
              refine c_ret ?_
              refine r_then ?_
              refine ret_tmp (v := .bool _) rfl rfl ?_
              have e1 : stp o f o.length = x.2 := by rw [show o.length = x.1 by omega]; exact hst
              have hv : askW q x.2.1 x.2.2.1 x.2.2.2 = _ := ask_no (.inr (.inr (decide_eq_true (by rw [← ek]; exact hc30))))
              exact ⟨_, [_], rfl, ⟨by rw [plays, e1]; exact congrArg Value.bool hv.symm, by rw [askd, e1, ← hb1]⟩, hW.drop 1⟩
          · intro hc30
            replace hc30 := of_decide_eq_false hc30
            refine y_val (r_assign (v := .bool _) rfl rfl) rfl rfl ?_
            refine y_end ?_
            intro W hW
            refine n_then ?_
            refine c_seq ?_
            refine c_seq ?_
            refine c_reg ?_
            refine l_val (r_fieldAddr 0 Try.underlying130 rfl tyC3.size rfl rfl rfl) rfl rfl ?_
            refine l_loadC hW 0 tyC3 rfl rfl rfl rfl rfl rfl ?_
            refine l_val (r_eqlN (n := 0) rfl rfl rfl rfl) rfl rfl ?_
            refine l_split ?_ ?_
            · intro hc32
              replace hc32 := of_decide_eq_true hc32
              refine l_val (r_move (v := .bool _) rfl rfl) rfl rfl ?_
              refine l_not (by kernel_rfl) rfl ?_
              refine l_val (r_pick (v := .bool _) rfl rfl rfl) rfl rfl ?_
              refine l_val (r_move (v := .bool _) rfl rfl) rfl rfl ?_
              refine l_not (by kernel_rfl) rfl ?_
              refine l_val (r_pick (v := .bool _) rfl rfl rfl) rfl rfl ?_
              refine l_end ?_
              refine n_then ?_
              refine c_true rfl ?_
              refine c_seq ?_
              refine c_reg ?_
              refine l_val (r_assign (v := .bool _) rfl rfl) rfl rfl ?_
              refine l_end ?_
              refine n_then ?_
              refine c_ret ?_
              refine r_then ?_
              refine ret_tmp (v := .bool _) rfl rfl ?_
              have e1 : stp o f o.length = x.2 := by rw [show o.length = x.1 by omega]; exact hst
              have hv : askW q x.2.1 x.2.2.1 x.2.2.2 = _ := ask_no (by rw [← hb1]; omega)
              exact ⟨_, [_], rfl, ⟨by rw [plays, e1]; exact congrArg Value.bool hv.symm, by rw [askd, e1, ← hb1]⟩, hW.drop 1⟩
            · intro hc32
              replace hc32 := of_decide_eq_false hc32
              refine l_val (r_move (v := .bool _) rfl rfl) rfl rfl ?_
              refine l_valG (r_move (v := .bool _) rfl rfl) (by kernel_rfl) rfl ?_
              refine l_val (r_pick (v := .bool _) rfl rfl rfl) rfl rfl ?_
              refine l_val (r_move (v := .bool _) rfl rfl) rfl rfl ?_
              refine l_valG (r_move (v := .bool _) rfl rfl) (by kernel_rfl) rfl ?_
              refine l_val (r_pick (v := .bool _) rfl rfl rfl) rfl rfl ?_
              refine l_end ?_
              refine n_then ?_
              refine c_false rfl ?_
              refine c_skip ?_
              refine n_then ?_
              refine c_seq ?_
              refine c_regY hW [] [.q, .q, .q, .q, .q, .q, .q, .q, .q, .q, .q] [0, 1, 3, 7, 15, 31, 63, 15, 255, 511, 1023] (by kernel_rfl) (by kernel_rfl) ?_
              refine y_val (r_fieldAddr 1 Try.underlying130 rfl tyC3.size rfl rfl rfl) rfl rfl ?_
              refine y_loadC 0 tyC3 rfl rfl rfl rfl rfl rfl (by decide) ?_
              refine y_val (r_eqlN (n := 0) rfl rfl rfl rfl) rfl rfl ?_
              refine y_split ?_ ?_
              · intro hc33
                replace hc33 := of_decide_eq_true hc33
                refine y_val (r_move (v := .bool _) rfl rfl) rfl rfl ?_
                refine y_not (by kernel_rfl) rfl ?_
                refine y_not (by kernel_rfl) rfl ?_
                refine y_not (by kernel_rfl) rfl ?_
                refine y_not (by kernel_rfl) rfl ?_
                refine y_not (by kernel_rfl) rfl ?_
                refine y_val (r_pick (v := .bool _) rfl rfl rfl) rfl rfl ?_
                refine y_val (r_assign (v := .bool _) rfl rfl) rfl rfl ?_
                refine y_end ?_
                intro W hW
                refine n_then ?_
                refine c_ret ?_
                refine ret_tmp (v := .bool _) rfl rfl ?_
                have e1 : stp o f o.length = x.2 := by rw [show o.length = x.1 by omega]; exact hst
                have hneg : ¬ (x.2.1 = 0 ∨ (0 < q.v ∧ q.v < (after q x.2.1 x.2.2.1).x) ∨ noiseB q = true) := by
                  rw [← hb1, show noiseB q = false from decide_eq_false (by rw [← ek]; exact hc30)]
                  rintro (h | ⟨h1, h2⟩ | h)
                  · omega
                  · omega
                  · cases h
                have hv : askW q x.2.1 x.2.2.1 x.2.2.2 = _ := ask_y0 hneg (by omega)
                exact ⟨_, [_], rfl, ⟨by rw [plays, e1]; exact congrArg Value.bool hv.symm, by rw [askd, e1, ← hb1]⟩, hW.drop 1⟩
              · intro hc33
                replace hc33 := of_decide_eq_false hc33
                refine y_val (r_move (v := .bool _) rfl rfl) rfl rfl ?_
                refine y_val (r_move (v := .pointer _) rfl rfl) (by kernel_rfl) rfl ?_
                refine y_val (r_nilCheck rfl rfl) (by kernel_rfl) rfl ?_
                refine y_loadA 1 tyA39 (by kernel_rfl) rfl rfl rfl rfl (by first | rfl | exact kc_len _ | exact kcf_len _ | exact boC_len _ _ | (simp; done)) (by decide) ?_
                refine y_loadA 0 tyA130 (by kernel_rfl) rfl rfl rfl rfl (by first | rfl | exact kc_len _ | exact kcf_len _ | exact boC_len _ _ | (simp; done)) (by decide) ?_
                refine y_call (g_plays b1 t x.2.1 x.2.2.1 x.2.2.2 (by omega) (by omega) (by omega) (by omega)) en71 (by kernel_rfl) rfl rfl rfl ?_
                refine y_val (r_pick (v := .bool _) rfl rfl rfl) rfl rfl ?_
                refine y_val (r_assign (v := .bool _) rfl rfl) rfl rfl ?_
                refine y_end ?_
                intro W hW
                refine n_then ?_
                refine c_ret ?_
                refine ret_tmp (v := .bool _) rfl rfl ?_
                have e1 : stp o f o.length = x.2 := by rw [show o.length = x.1 by omega]; exact hst
                have hneg : ¬ (x.2.1 = 0 ∨ (0 < q.v ∧ q.v < (after q x.2.1 x.2.2.1).x) ∨ noiseB q = true) := by
                  rw [← hb1, show noiseB q = false from decide_eq_false (by rw [← ek]; exact hc30)]
                  rintro (h | ⟨h1, h2⟩ | h)
                  · omega
                  · omega
                  · cases h
                have hv : askW q x.2.1 x.2.2.1 x.2.2.2 = _ := (ask_w hneg (by omega)).trans (play_congr em ek).symm
                exact ⟨_, [_], rfl, ⟨by rw [plays, e1]; exact congrArg Value.bool hv.symm, by rw [askd, e1, ← hb1]⟩, hW.drop 1⟩
    · intro hc6
      replace hc6 := of_decide_eq_false hc6
      refine l_val (r_move (v := .bool _) rfl rfl) rfl rfl ?_
      refine l_not (by kernel_rfl) rfl ?_
      refine l_not (by kernel_rfl) rfl ?_
      refine l_not (by kernel_rfl) rfl ?_
      refine l_val (r_pick (v := .bool _) rfl rfl rfl) rfl rfl ?_
      refine l_end ?_
      have hax := after_n (b := q) (r := x.2.1) (w := x.2.2.1) (by omega)
      obtain ⟨b1, hb1⟩ : ∃ b1, b1 = after q x.2.1 x.2.2.1 := ⟨_, rfl⟩
      have es : b1 = { q with a := q.a + 1 } := hb1.trans hax
      have ev : b1.v = q.v := by rw [es]
      have en : b1.n = q.n := by rw [es]
      have em : b1.m = q.m := by rw [es]
      have ek : b1.k = q.k := by rw [es]
      have ex : b1.x = q.x := by rw [es]
      rw [← es] at hW
      refine n_then ?_
      refine c_false rfl ?_
      refine c_skip ?_
      refine n_then ?_
      refine c_seq ?_
      refine c_regY hW [] [.q, .q, .q, .q, .q, .q, .q, .q, .q, .q, .q, .q, .q, .q, .q, .q, .q] [0, 1, 3, 7, 15, 31, 63, 127, 255, 511, 63, 1087, 3135, 7231, 16383, 32767, 65535] (by kernel_rfl) (by kernel_rfl) ?_
      refine y_val (r_move (v := .pointer _) rfl rfl) rfl rfl ?_
      refine y_val (r_nilCheck rfl rfl) rfl rfl ?_
      refine y_val (r_fieldAddr 9 Try.underlying39 rfl tyC3.size rfl rfl rfl) rfl rfl ?_
      refine y_loadC 1 tyC3 rfl rfl rfl rfl rfl rfl (by decide) ?_
      refine y_val (r_gtr rfl rfl rfl rfl) rfl rfl ?_
      refine y_split ?_ ?_
      · intro hc34
        replace hc34 := of_decide_eq_true hc34
        refine y_val (r_move (v := .bool _) rfl rfl) rfl rfl ?_
        refine y_val (r_move (v := .pointer _) rfl rfl) (by kernel_rfl) rfl ?_
        refine y_val (r_nilCheck rfl rfl) (by kernel_rfl) rfl ?_
        refine y_val (r_fieldAddr 27 Try.underlying39 rfl tyC3.size rfl rfl rfl) (by kernel_rfl) rfl ?_
        refine y_loadC 1 tyC3 (by kernel_rfl) rfl rfl rfl rfl rfl (by decide) ?_
        refine y_val (r_move (v := .pointer _) rfl rfl) (by kernel_rfl) rfl ?_
        refine y_val (r_nilCheck rfl rfl) (by kernel_rfl) rfl ?_
        refine y_val (r_fieldAddr 9 Try.underlying39 rfl tyC3.size rfl rfl rfl) (by kernel_rfl) rfl ?_
        refine y_loadC 1 tyC3 (by kernel_rfl) rfl rfl rfl rfl rfl (by decide) ?_
        refine y_val (r_gtr rfl rfl rfl rfl) (by kernel_rfl) rfl ?_
        refine y_split ?_ ?_
        · intro hc35
          replace hc35 := of_decide_eq_true hc35
          refine y_val (r_pick (v := .bool _) rfl rfl rfl) rfl rfl ?_
          refine y_val (r_assign (v := .bool _) rfl rfl) rfl rfl ?_
          refine y_end ?_
          intro W hW
          refine n_then ?_
          refine c_seq ?_
          refine c_regY hW [] [.q, .q, .q, .q, .q, .q, .q, .q, .q, .q, .q, .q, .q, .q, .q, .q, .q] [0, 1, 3, 7, 0, 0, 48, 112, 0, 256, 1023, 0, 0, 6144, 14336, 32767, 65535] (by kernel_rfl) (by kernel_rfl) ?_
          refine y_val (r_move (v := .pointer _) rfl rfl) rfl rfl ?_
          refine y_val (r_nilCheck rfl rfl) rfl rfl ?_
          refine y_val (r_fieldAddr 10 Try.underlying39 rfl tyA37.size rfl rfl rfl) rfl rfl ?_
          refine y_loadP 1 tyA37 (by kernel_rfl) rfl rfl rfl rfl (by rw [boC_len]; decide) (boC_key _ _) (by decide) ?_
          refine y_val (r_move (v := .int _ _) rfl rfl) rfl rfl ?_
          refine y_val (r_move (v := .int _ _) rfl rfl) rfl rfl ?_
          refine y_val (r_quoN (m := q.a.toNat) (n := q.n.toNat + 1) rfl (congrArg (Value.int .i64) ha) (congrArg (Value.int .i64) hb) (by omega) (by omega)) rfl rfl ?_
          refine y_val (r_conv_i64_u64 Try.underlying3 Try.underlying22 rfl rfl) rfl rfl ?_
          refine y_val (r_move (v := .int _ _) rfl rfl) rfl rfl ?_
          refine y_val (r_conv_i64_u64 (n := q.n.toNat + 1) Try.underlying3 Try.underlying22 rfl (congrArg (Value.int .i64) hb)) rfl rfl ?_
          refine y_call (g_Number _ _ _) en70 rfl rfl rfl rfl ?_
          refine y_val (r_move (v := .int _ _) rfl rfl) rfl rfl ?_
          refine y_val (r_move (v := .int _ _) rfl rfl) rfl rfl ?_
          refine y_val (r_remN (m := q.a.toNat) (n := q.n.toNat + 1) rfl (congrArg (Value.int .i64) ha) (congrArg (Value.int .i64) hb) (by omega)) rfl rfl ?_
          refine y_val (r_conv_i64_u64 Try.underlying3 Try.underlying22 rfl rfl) rfl rfl ?_
          refine y_val (r_neqN rfl rfl rfl rfl) rfl rfl ?_
          refine y_split ?_ ?_
          · intro hc36
            replace hc36 := of_decide_eq_true hc36
            refine y_val (r_assign (v := .bool _) rfl rfl) rfl rfl ?_
            refine y_end ?_
            intro W hW
            refine n_then ?_
            refine c_seq ?_
            refine c_seq ?_
            refine c_reg ?_
            refine l_val (r_fieldAddr 0 Try.underlying130 rfl tyC3.size rfl rfl rfl) rfl rfl ?_
            refine l_loadC hW 0 tyC3 rfl rfl rfl rfl rfl rfl ?_
            refine l_val (r_eqlN (n := 0) rfl rfl rfl rfl) rfl rfl ?_
            refine l_split ?_ ?_
            · intro hc37
              replace hc37 := of_decide_eq_true hc37
              refine l_val (r_move (v := .bool _) rfl rfl) rfl rfl ?_
              refine l_not (by kernel_rfl) rfl ?_
              refine l_val (r_pick (v := .bool _) rfl rfl rfl) rfl rfl ?_
              refine l_val (r_move (v := .bool _) rfl rfl) rfl rfl ?_
              refine l_not (by kernel_rfl) rfl ?_
              refine l_val (r_pick (v := .bool _) rfl rfl rfl) rfl rfl ?_
              refine l_end ?_
              refine n_then ?_
              refine c_true rfl ?_
              refine c_seq ?_
              refine c_reg ?_
              refine l_val (r_assign (v := .bool _) rfl rfl) rfl rfl ?_
              refine l_end ?_
              refine n_then ?_
              refine c_ret ?_
              refine r_then ?_
              refine ret_tmp (v := .bool _) rfl rfl ?_
              have e1 : stp o f o.length = x.2 := by rw [show o.length = x.1 by omega]; exact hst
              have hv : askW q x.2.1 x.2.2.1 x.2.2.2 = _ := ask_no (by rw [← hb1]; omega)
              exact ⟨_, [_], rfl, ⟨by rw [plays, e1]; exact congrArg Value.bool hv.symm, by rw [askd, e1, ← hb1]⟩, hW.drop 1⟩
            · intro hc37
              replace hc37 := of_decide_eq_false hc37
              refine l_val (r_move (v := .bool _) rfl rfl) rfl rfl ?_
              refine l_valG (r_move (v := .bool _) rfl rfl) (by kernel_rfl) rfl ?_
              refine l_val (r_pick (v := .bool _) rfl rfl rfl) rfl rfl ?_
              refine l_val (r_move (v := .bool _) rfl rfl) rfl rfl ?_
              refine l_not (by kernel_rfl) rfl ?_
              refine l_val (r_pick (v := .bool _) rfl rfl rfl) rfl rfl ?_
              refine l_end ?_
              refine n_then ?_
              refine c_true rfl ?_
              refine c_seq ?_
              refine c_reg ?_
              refine l_val (r_assign (v := .bool _) rfl rfl) rfl rfl ?_
              refine l_end ?_
              refine n_then ?_
              refine c_ret ?_
              refine r_then ?_
              refine ret_tmp (v := .bool _) rfl rfl ?_
              have e1 : stp o f o.length = x.2 := by rw [show o.length = x.1 by omega]; exact hst
              have hv : askW q x.2.1 x.2.2.1 x.2.2.2 = _ := ask_no (by rw [← hb1]; omega)
              exact ⟨_, [_], rfl, ⟨by rw [plays, e1]; exact congrArg Value.bool hv.symm, by rw [askd, e1, ← hb1]⟩, hW.drop 1⟩
          · intro hc36
            replace hc36 := of_decide_eq_false hc36
            refine y_val (r_assign (v := .bool _) rfl rfl) rfl rfl ?_
            refine y_end ?_
            intro W hW
            refine n_then ?_
            refine c_seq ?_
            refine c_seq ?_
            refine c_reg ?_
            refine l_val (r_fieldAddr 0 Try.underlying130 rfl tyC3.size rfl rfl rfl) rfl rfl ?_
            refine l_loadC hW 0 tyC3 rfl rfl rfl rfl rfl rfl ?_
            refine l_val (r_eqlN (n := 0) rfl rfl rfl rfl) rfl rfl ?_
            refine l_split ?_ ?_
            · intro hc38
              replace hc38 := of_decide_eq_true hc38
              refine l_val (r_move (v := .bool _) rfl rfl) rfl rfl ?_
              refine l_not (by kernel_rfl) rfl ?_
              refine l_val (r_pick (v := .bool _) rfl rfl rfl) rfl rfl ?_
              refine l_val (r_move (v := .bool _) rfl rfl) rfl rfl ?_
              refine l_not (by kernel_rfl) rfl ?_
              refine l_val (r_pick (v := .bool _) rfl rfl rfl) rfl rfl ?_
              refine l_end ?_
              refine n_then ?_
              refine c_true rfl ?_
              refine c_seq ?_
              refine c_reg ?_
              refine l_val (r_assign (v := .bool _) rfl rfl) rfl rfl ?_
              refine l_end ?_
              refine n_then ?_
              refine c_ret ?_
              refine r_then ?_
              refine ret_tmp (v := .bool _) rfl rfl ?_
              have e1 : stp o f o.length = x.2 := by rw [show o.length = x.1 by omega]; exact hst
              have hv : askW q x.2.1 x.2.2.1 x.2.2.2 = _ := ask_no (by rw [← hb1]; omega)
              exact ⟨_, [_], rfl, ⟨by rw [plays, e1]; exact congrArg Value.bool hv.symm, by rw [askd, e1, ← hb1]⟩, hW.drop 1⟩
            · intro hc38
              replace hc38 := of_decide_eq_false hc38
              refine l_val (r_move (v := .bool _) rfl rfl) rfl rfl ?_
              refine l_valG (r_move (v := .bool _) rfl rfl) (by kernel_rfl) rfl ?_
              refine l_val (r_pick (v := .bool _) rfl rfl rfl) rfl rfl ?_
              refine l_val (r_move (v := .bool _) rfl rfl) rfl rfl ?_
              refine l_not (by kernel_rfl) rfl ?_
              refine l_val (r_pick (v := .bool _) rfl rfl rfl) rfl rfl ?_
              refine l_end ?_
              refine n_then ?_
              refine c_true rfl ?_
              refine c_seq ?_
              refine c_reg ?_
              refine l_val (r_assign (v := .bool _) rfl rfl) rfl rfl ?_
              refine l_end ?_
              refine n_then ?_
              refine c_ret ?_
              refine r_then ?_
              refine ret_tmp (v := .bool _) rfl rfl ?_
              have e1 : stp o f o.length = x.2 := by rw [show o.length = x.1 by omega]; exact hst
              have hv : askW q x.2.1 x.2.2.1 x.2.2.2 = _ := ask_no (by rw [← hb1]; omega)
              exact ⟨_, [_], rfl, ⟨by rw [plays, e1]; exact congrArg Value.bool hv.symm, by rw [askd, e1, ← hb1]⟩, hW.drop 1⟩
        · intro hc35
          replace hc35 := of_decide_eq_false hc35
          refine y_val (r_pick (v := .bool _) rfl rfl rfl) rfl rfl ?_
          refine y_val (r_assign (v := .bool _) rfl rfl) rfl rfl ?_
          refine y_end ?_
          intro W hW
          refine n_then ?_
          refine c_seq ?_
          refine c_regY hW [] [.q, .q, .q, .q, .q, .q, .q, .q, .q, .q, .q, .q, .q, .q, .q, .q, .q] [0, 1, 3, 7, 0, 0, 48, 112, 0, 256, 1023, 0, 0, 6144, 14336, 32767, 65535] (by kernel_rfl) (by kernel_rfl) ?_
          refine y_val (r_move (v := .pointer _) rfl rfl) rfl rfl ?_
          refine y_val (r_nilCheck rfl rfl) rfl rfl ?_
          refine y_val (r_fieldAddr 10 Try.underlying39 rfl tyA37.size rfl rfl rfl) rfl rfl ?_
          refine y_loadP 1 tyA37 (by kernel_rfl) rfl rfl rfl rfl (by rw [boC_len]; decide) (boC_key _ _) (by decide) ?_
          refine y_val (r_move (v := .int _ _) rfl rfl) rfl rfl ?_
          refine y_val (r_move (v := .int _ _) rfl rfl) rfl rfl ?_
          refine y_val (r_quoN (m := q.a.toNat) (n := q.n.toNat + 1) rfl (congrArg (Value.int .i64) ha) (congrArg (Value.int .i64) hb) (by omega) (by omega)) rfl rfl ?_
          refine y_val (r_conv_i64_u64 Try.underlying3 Try.underlying22 rfl rfl) rfl rfl ?_
          refine y_val (r_move (v := .int _ _) rfl rfl) rfl rfl ?_
          refine y_val (r_conv_i64_u64 (n := q.n.toNat + 1) Try.underlying3 Try.underlying22 rfl (congrArg (Value.int .i64) hb)) rfl rfl ?_
          refine y_call (g_Number _ _ _) en70 rfl rfl rfl rfl ?_
          refine y_val (r_move (v := .int _ _) rfl rfl) rfl rfl ?_
          refine y_val (r_move (v := .int _ _) rfl rfl) rfl rfl ?_
          refine y_val (r_remN (m := q.a.toNat) (n := q.n.toNat + 1) rfl (congrArg (Value.int .i64) ha) (congrArg (Value.int .i64) hb) (by omega)) rfl rfl ?_
          refine y_val (r_conv_i64_u64 Try.underlying3 Try.underlying22 rfl rfl) rfl rfl ?_
          refine y_val (r_neqN rfl rfl rfl rfl) rfl rfl ?_
          refine y_split ?_ ?_
          · intro hc39
            replace hc39 := of_decide_eq_true hc39
            refine y_val (r_assign (v := .bool _) rfl rfl) rfl rfl ?_
            refine y_end ?_
            intro W hW
            refine n_then ?_
            refine c_seq ?_
            refine c_seq ?_
            refine c_reg ?_
            refine l_val (r_fieldAddr 0 Try.underlying130 rfl tyC3.size rfl rfl rfl) rfl rfl ?_
            refine l_loadC hW 0 tyC3 rfl rfl rfl rfl rfl rfl ?_
            refine l_val (r_eqlN (n := 0) rfl rfl rfl rfl) rfl rfl ?_
            refine l_split ?_ ?_
            · intro hc40
              replace hc40 := of_decide_eq_true hc40
              refine l_val (r_move (v := .bool _) rfl rfl) rfl rfl ?_
              refine l_not (by kernel_rfl) rfl ?_
              refine l_val (r_pick (v := .bool _) rfl rfl rfl) rfl rfl ?_
              refine l_val (r_move (v := .bool _) rfl rfl) rfl rfl ?_
              refine l_not (by kernel_rfl) rfl ?_
              refine l_val (r_pick (v := .bool _) rfl rfl rfl) rfl rfl ?_
              refine l_end ?_
              refine n_then ?_
              refine c_true rfl ?_
              refine c_seq ?_
              refine c_reg ?_
              refine l_val (r_assign (v := .bool _) rfl rfl) rfl rfl ?_
              refine l_end ?_
              refine n_then ?_
              refine c_ret ?_
              refine r_then ?_
              refine ret_tmp (v := .bool _) rfl rfl ?_
              have e1 : stp o f o.length = x.2 := by rw [show o.length = x.1 by omega]; exact hst
              have hv : askW q x.2.1 x.2.2.1 x.2.2.2 = _ := ask_no (by rw [← hb1]; omega)
              exact ⟨_, [_], rfl, ⟨by rw [plays, e1]; exact congrArg Value.bool hv.symm, by rw [askd, e1, ← hb1]⟩, hW.drop 1⟩
            · intro hc40
              replace hc40 := of_decide_eq_false hc40
              refine l_val (r_move (v := .bool _) rfl rfl) rfl rfl ?_
              refine l_valG (r_move (v := .bool _) rfl rfl) (by kernel_rfl) rfl ?_
              refine l_val (r_pick (v := .bool _) rfl rfl rfl) rfl rfl ?_
              refine l_val (r_move (v := .bool _) rfl rfl) rfl rfl ?_
              refine l_valG (r_move (v := .bool _) rfl rfl) (by kernel_rfl) rfl ?_
              refine l_val (r_pick (v := .bool _) rfl rfl rfl) rfl rfl ?_
              refine l_end ?_
              refine n_then ?_
              refine c_true rfl ?_
              refine c_seq ?_
              refine c_reg ?_
              refine l_val (r_assign (v := .bool _) rfl rfl) rfl rfl ?_
              refine l_end ?_
              refine n_then ?_
              refine c_ret ?_
              refine r_then ?_
              refine ret_tmp (v := .bool _) rfl rfl ?_
              have e1 : stp o f o.length = x.2 := by rw [show o.length = x.1 by omega]; exact hst
              have hv : askW q x.2.1 x.2.2.1 x.2.2.2 = _ := ask_no (.inr (.inr (decide_eq_true (by rw [← ek]; exact hc39))))
              exact ⟨_, [_], rfl, ⟨by rw [plays, e1]; exact congrArg Value.bool hv.symm, by rw [askd, e1, ← hb1]⟩, hW.drop 1⟩
          · intro hc39
            replace hc39 := of_decide_eq_false hc39
            refine y_val (r_assign (v := .bool _) rfl rfl) rfl rfl ?_
            refine y_end ?_
            intro W hW
            refine n_then ?_
            refine c_seq ?_
            refine c_seq ?_
            refine c_reg ?_
            refine l_val (r_fieldAddr 0 Try.underlying130 rfl tyC3.size rfl rfl rfl) rfl rfl ?_
            refine l_loadC hW 0 tyC3 rfl rfl rfl rfl rfl rfl ?_
            refine l_val (r_eqlN (n := 0) rfl rfl rfl rfl) rfl rfl ?_
            refine l_split ?_ ?_
            · intro hc41
              replace hc41 := of_decide_eq_true hc41
              refine l_val (r_move (v := .bool _) rfl rfl) rfl rfl ?_
              refine l_not (by kernel_rfl) rfl ?_
              refine l_val (r_pick (v := .bool _) rfl rfl rfl) rfl rfl ?_
              refine l_val (r_move (v := .bool _) rfl rfl) rfl rfl ?_
              refine l_not (by kernel_rfl) rfl ?_
              refine l_val (r_pick (v := .bool _) rfl rfl rfl) rfl rfl ?_
              refine l_end ?_
              refine n_then ?_
              refine c_true rfl ?_
              refine c_seq ?_
              refine c_reg ?_
              refine l_val (r_assign (v := .bool _) rfl rfl) rfl rfl ?_
              refine l_end ?_
              refine n_then ?_
              refine c_ret ?_
              refine r_then ?_
              refine ret_tmp (v := .bool _) rfl rfl ?_
              have e1 : stp o f o.length = x.2 := by rw [show o.length = x.1 by omega]; exact hst
              have hv : askW q x.2.1 x.2.2.1 x.2.2.2 = _ := ask_no (by rw [← hb1]; omega)
              exact ⟨_, [_], rfl, ⟨by rw [plays, e1]; exact congrArg Value.bool hv.symm, by rw [askd, e1, ← hb1]⟩, hW.drop 1⟩
            · intro hc41
              replace hc41 := of_decide_eq_false hc41
              refine l_val (r_move (v := .bool _) rfl rfl) rfl rfl ?_
              refine l_valG (r_move (v := .bool _) rfl rfl) (by kernel_rfl) rfl ?_
              refine l_val (r_pick (v := .bool _) rfl rfl rfl) rfl rfl ?_
              refine l_val (r_move (v := .bool _) rfl rfl) rfl rfl ?_
              refine l_valG (r_move (v := .bool _) rfl rfl) (by kernel_rfl) rfl ?_
              refine l_val (r_pick (v := .bool _) rfl rfl rfl) rfl rfl ?_
              refine l_end ?_
              refine n_then ?_
              refine c_false rfl ?_
              refine c_skip ?_
              refine n_then ?_
              refine c_seq ?_
              refine c_regY hW [] [.q, .q, .q, .q, .q, .q, .q, .q, .q, .q, .q] [0, 1, 3, 7, 15, 31, 63, 15, 255, 511, 1023] (by kernel_rfl) (by kernel_rfl) ?_
              refine y_val (r_fieldAddr 1 Try.underlying130 rfl tyC3.size rfl rfl rfl) rfl rfl ?_
              refine y_loadC 0 tyC3 rfl rfl rfl rfl rfl rfl (by decide) ?_
              refine y_val (r_eqlN (n := 0) rfl rfl rfl rfl) rfl rfl ?_
              refine y_split ?_ ?_
              · intro hc42
                replace hc42 := of_decide_eq_true hc42
                refine y_val (r_move (v := .bool _) rfl rfl) rfl rfl ?_
                refine y_not (by kernel_rfl) rfl ?_
                refine y_not (by kernel_rfl) rfl ?_
                refine y_not (by kernel_rfl) rfl ?_
                refine y_not (by kernel_rfl) rfl ?_
                refine y_not (by kernel_rfl) rfl ?_
                refine y_val (r_pick (v := .bool _) rfl rfl rfl) rfl rfl ?_
                refine y_val (r_assign (v := .bool _) rfl rfl) rfl rfl ?_
                refine y_end ?_
                intro W hW
                refine n_then ?_
                refine c_ret ?_
                refine ret_tmp (v := .bool _) rfl rfl ?_
                have e1 : stp o f o.length = x.2 := by rw [show o.length = x.1 by omega]; exact hst
                have hneg : ¬ (x.2.1 = 0 ∨ (0 < q.v ∧ q.v < (after q x.2.1 x.2.2.1).x) ∨ noiseB q = true) := by
                  rw [← hb1, show noiseB q = false from decide_eq_false (by rw [← ek]; exact hc39)]
                  rintro (h | ⟨h1, h2⟩ | h)
                  · omega
                  · omega
                  · cases h
                have hv : askW q x.2.1 x.2.2.1 x.2.2.2 = _ := ask_y0 hneg (by omega)
                exact ⟨_, [_], rfl, ⟨by rw [plays, e1]; exact congrArg Value.bool hv.symm, by rw [askd, e1, ← hb1]⟩, hW.drop 1⟩
              · intro hc42
                replace hc42 := of_decide_eq_false hc42
                refine y_val (r_move (v := .bool _) rfl rfl) rfl rfl ?_
                refine y_val (r_move (v := .pointer _) rfl rfl) (by kernel_rfl) rfl ?_
                refine y_val (r_nilCheck rfl rfl) (by kernel_rfl) rfl ?_
                refine y_loadA 1 tyA39 (by kernel_rfl) rfl rfl rfl rfl (by first | rfl | exact kc_len _ | exact kcf_len _ | exact boC_len _ _ | (simp; done)) (by decide) ?_
                refine y_loadA 0 tyA130 (by kernel_rfl) rfl rfl rfl rfl (by first | rfl | exact kc_len _ | exact kcf_len _ | exact boC_len _ _ | (simp; done)) (by decide) ?_
                refine y_call (g_plays b1 t x.2.1 x.2.2.1 x.2.2.2 (by omega) (by omega) (by omega) (by omega)) en71 (by kernel_rfl) rfl rfl rfl ?_
                refine y_val (r_pick (v := .bool _) rfl rfl rfl) rfl rfl ?_
                refine y_val (r_assign (v := .bool _) rfl rfl) rfl rfl ?_
                refine y_end ?_
                intro W hW
                refine n_then ?_
                refine c_ret ?_
                refine ret_tmp (v := .bool _) rfl rfl ?_
                have e1 : stp o f o.length = x.2 := by rw [show o.length = x.1 by omega]; exact hst
                have hneg : ¬ (x.2.1 = 0 ∨ (0 < q.v ∧ q.v < (after q x.2.1 x.2.2.1).x) ∨ noiseB q = true) := by
                  rw [← hb1, show noiseB q = false from decide_eq_false (by rw [← ek]; exact hc39)]
                  rintro (h | ⟨h1, h2⟩ | h)
                  · omega
                  · omega
                  · cases h
                have hv : askW q x.2.1 x.2.2.1 x.2.2.2 = _ := (ask_w hneg (by omega)).trans (play_congr em ek).symm
                exact ⟨_, [_], rfl, ⟨by rw [plays, e1]; exact congrArg Value.bool hv.symm, by rw [askd, e1, ← hb1]⟩, hW.drop 1⟩
      · intro hc34
        replace hc34 := of_decide_eq_false hc34
        refine y_val (r_move (v := .bool _) rfl rfl) rfl rfl ?_
        refine y_not (by kernel_rfl) rfl ?_
        refine y_not (by kernel_rfl) rfl ?_
        refine y_not (by kernel_rfl) rfl ?_
        refine y_not (by kernel_rfl) rfl ?_
        refine y_not (by kernel_rfl) rfl ?_
        refine y_not (by kernel_rfl) rfl ?_
        refine y_not (by kernel_rfl) rfl ?_
        refine y_not (by kernel_rfl) rfl ?_
        refine y_not (by kernel_rfl) rfl ?_
        refine y_val (r_pick (v := .bool _) rfl rfl rfl) rfl rfl ?_
        refine y_val (r_assign (v := .bool _) rfl rfl) rfl rfl ?_
        refine y_end ?_
        intro W hW
        refine n_then ?_
        refine c_seq ?_
        refine c_regY hW [] [.q, .q, .q, .q, .q, .q, .q, .q, .q, .q, .q, .q, .q, .q, .q, .q, .q] [0, 1, 3, 7, 0, 0, 48, 112, 0, 256, 1023, 0, 0, 6144, 14336, 32767, 65535] (by kernel_rfl) (by kernel_rfl) ?_
        refine y_val (r_move (v := .pointer _) rfl rfl) rfl rfl ?_
        refine y_val (r_nilCheck rfl rfl) rfl rfl ?_
        refine y_val (r_fieldAddr 10 Try.underlying39 rfl tyA37.size rfl rfl rfl) rfl rfl ?_
        refine y_loadP 1 tyA37 (by kernel_rfl) rfl rfl rfl rfl (by rw [boC_len]; decide) (boC_key _ _) (by decide) ?_
        refine y_val (r_move (v := .int _ _) rfl rfl) rfl rfl ?_
        refine y_val (r_move (v := .int _ _) rfl rfl) rfl rfl ?_
        refine y_val (r_quoN (m := q.a.toNat) (n := q.n.toNat + 1) rfl (congrArg (Value.int .i64) ha) (congrArg (Value.int .i64) hb) (by omega) (by omega)) rfl rfl ?_
        refine y_val (r_conv_i64_u64 Try.underlying3 Try.underlying22 rfl rfl) rfl rfl ?_
        refine y_val (r_move (v := .int _ _) rfl rfl) rfl rfl ?_
        refine y_val (r_conv_i64_u64 (n := q.n.toNat + 1) Try.underlying3 Try.underlying22 rfl (congrArg (Value.int .i64) hb)) rfl rfl ?_
        refine y_call (g_Number _ _ _) en70 rfl rfl rfl rfl ?_
        refine y_val (r_move (v := .int _ _) rfl rfl) rfl rfl ?_
        refine y_val (r_move (v := .int _ _) rfl rfl) rfl rfl ?_
        refine y_val (r_remN (m := q.a.toNat) (n := q.n.toNat + 1) rfl (congrArg (Value.int .i64) ha) (congrArg (Value.int .i64) hb) (by omega)) rfl rfl ?_
        refine y_val (r_conv_i64_u64 Try.underlying3 Try.underlying22 rfl rfl) rfl rfl ?_
        refine y_val (r_neqN rfl rfl rfl rfl) rfl rfl ?_
        refine y_split ?_ ?_
        · intro hc43
          replace hc43 := of_decide_eq_true hc43
          refine y_val (r_assign (v := .bool _) rfl rfl) rfl rfl ?_
          refine y_end ?_
          intro W hW
          refine n_then ?_
          refine c_seq ?_
          refine c_seq ?_
          refine c_reg ?_
          refine l_val (r_fieldAddr 0 Try.underlying130 rfl tyC3.size rfl rfl rfl) rfl rfl ?_
          refine l_loadC hW 0 tyC3 rfl rfl rfl rfl rfl rfl ?_
          refine l_val (r_eqlN (n := 0) rfl rfl rfl rfl) rfl rfl ?_
          refine l_split ?_ ?_
          · intro hc44
            replace hc44 := of_decide_eq_true hc44
            refine l_val (r_move (v := .bool _) rfl rfl) rfl rfl ?_
            refine l_not (by kernel_rfl) rfl ?_
            refine l_val (r_pick (v := .bool _) rfl rfl rfl) rfl rfl ?_
            refine l_val (r_move (v := .bool _) rfl rfl) rfl rfl ?_
            refine l_not (by kernel_rfl) rfl ?_
            refine l_val (r_pick (v := .bool _) rfl rfl rfl) rfl rfl ?_
            refine l_end ?_
            refine n_then ?_
            refine c_true rfl ?_
            refine c_seq ?_
            refine c_reg ?_
            refine l_val (r_assign (v := .bool _) rfl rfl) rfl rfl ?_
            refine l_end ?_
            refine n_then ?_
            refine c_ret ?_
            refine r_then ?_
            refine ret_tmp (v := .bool _) rfl rfl ?_
            have e1 : stp o f o.length = x.2 := by rw [show o.length = x.1 by omega]; exact hst
            have hv : askW q x.2.1 x.2.2.1 x.2.2.2 = _ := ask_no (by rw [← hb1]; omega)
            exact ⟨_, [_], rfl, ⟨by rw [plays, e1]; exact congrArg Value.bool hv.symm, by rw [askd, e1, ← hb1]⟩, hW.drop 1⟩
          · intro hc44
            replace hc44 := of_decide_eq_false hc44
            refine l_val (r_move (v := .bool _) rfl rfl) rfl rfl ?_
            refine l_valG (r_move (v := .bool _) rfl rfl) (by kernel_rfl) rfl ?_
            refine l_val (r_pick (v := .bool _) rfl rfl rfl) rfl rfl ?_
            refine l_val (r_move (v := .bool _) rfl rfl) rfl rfl ?_
            refine l_valG (r_move (v := .bool _) rfl rfl) (by kernel_rfl) rfl ?_
            refine l_val (r_pick (v := .bool _) rfl rfl rfl) rfl rfl ?_
            refine l_end ?_
            refine n_then ?_
            refine c_true rfl ?_
            refine c_seq ?_
            refine c_reg ?_
            refine l_val (r_assign (v := .bool _) rfl rfl) rfl rfl ?_
            refine l_end ?_
            refine n_then ?_
            refine c_ret ?_
            refine r_then ?_
            refine ret_tmp (v := .bool _) rfl rfl ?_
            have e1 : stp o f o.length = x.2 := by rw [show o.length = x.1 by omega]; exact hst
            have hv : askW q x.2.1 x.2.2.1 x.2.2.2 = _ := ask_no (.inr (.inr (decide_eq_true (by rw [← ek]; exact hc43))))
            exact ⟨_, [_], rfl, ⟨by rw [plays, e1]; exact congrArg Value.bool hv.symm, by rw [askd, e1, ← hb1]⟩, hW.drop 1⟩
        · intro hc43
          replace hc43 := of_decide_eq_false hc43
          refine y_val (r_assign (v := .bool _) rfl rfl) rfl rfl ?_
          refine y_end ?_
          intro W hW
          refine n_then ?_
          refine c_seq ?_
          refine c_seq ?_
          refine c_reg ?_
          refine l_val (r_fieldAddr 0 Try.underlying130 rfl tyC3.size rfl rfl rfl) rfl rfl ?_
          refine l_loadC hW 0 tyC3 rfl rfl rfl rfl rfl rfl ?_
          refine l_val (r_eqlN (n := 0) rfl rfl rfl rfl) rfl rfl ?_
          refine l_split ?_ ?_
          · intro hc45
            replace hc45 := of_decide_eq_true hc45
            refine l_val (r_move (v := .bool _) rfl rfl) rfl rfl ?_
            refine l_not (by kernel_rfl) rfl ?_
            refine l_val (r_pick (v := .bool _) rfl rfl rfl) rfl rfl ?_
            refine l_val (r_move (v := .bool _) rfl rfl) rfl rfl ?_
            refine l_not (by kernel_rfl) rfl ?_
            refine l_val (r_pick (v := .bool _) rfl rfl rfl) rfl rfl ?_
            refine l_end ?_
            refine n_then ?_
            refine c_true rfl ?_
            refine c_seq ?_
            refine c_reg ?_
            refine l_val (r_assign (v := .bool _) rfl rfl) rfl rfl ?_
            refine l_end ?_
            refine n_then ?_
            refine c_ret ?_
            refine r_then ?_
            refine ret_tmp (v := .bool _) rfl rfl ?_
            have e1 : stp o f o.length = x.2 := by rw [show o.length = x.1 by omega]; exact hst
            have hv : askW q x.2.1 x.2.2.1 x.2.2.2 = _ := ask_no (by rw [← hb1]; omega)
            exact ⟨_, [_], rfl, ⟨by rw [plays, e1]; exact congrArg Value.bool hv.symm, by rw [askd, e1, ← hb1]⟩, hW.drop 1⟩
          · intro hc45
            replace hc45 := of_decide_eq_false hc45
            refine l_val (r_move (v := .bool _) rfl rfl) rfl rfl ?_
            refine l_valG (r_move (v := .bool _) rfl rfl) (by kernel_rfl) rfl ?_
            refine l_val (r_pick (v := .bool _) rfl rfl rfl) rfl rfl ?_
            refine l_val (r_move (v := .bool _) rfl rfl) rfl rfl ?_
            refine l_valG (r_move (v := .bool _) rfl rfl) (by kernel_rfl) rfl ?_
            refine l_val (r_pick (v := .bool _) rfl rfl rfl) rfl rfl ?_
            refine l_end ?_
            refine n_then ?_
            refine c_false rfl ?_
            refine c_skip ?_
            refine n_then ?_
            refine c_seq ?_
            refine c_regY hW [] [.q, .q, .q, .q, .q, .q, .q, .q, .q, .q, .q] [0, 1, 3, 7, 15, 31, 63, 15, 255, 511, 1023] (by kernel_rfl) (by kernel_rfl) ?_
            refine y_val (r_fieldAddr 1 Try.underlying130 rfl tyC3.size rfl rfl rfl) rfl rfl ?_
            refine y_loadC 0 tyC3 rfl rfl rfl rfl rfl rfl (by decide) ?_
            refine y_val (r_eqlN (n := 0) rfl rfl rfl rfl) rfl rfl ?_
            refine y_split ?_ ?_
            · intro hc46
              replace hc46 := of_decide_eq_true hc46
              refine y_val (r_move (v := .bool _) rfl rfl) rfl rfl ?_
              refine y_not (by kernel_rfl) rfl ?_
              refine y_not (by kernel_rfl) rfl ?_
              refine y_not (by kernel_rfl) rfl ?_
              refine y_not (by kernel_rfl) rfl ?_
              refine y_not (by kernel_rfl) rfl ?_
              refine y_val (r_pick (v := .bool _) rfl rfl rfl) rfl rfl ?_
              refine y_val (r_assign (v := .bool _) rfl rfl) rfl rfl ?_
              refine y_end ?_
              intro W hW
              refine n_then ?_
              refine c_ret ?_
              refine ret_tmp (v := .bool _) rfl rfl ?_
              have e1 : stp o f o.length = x.2 := by rw [show o.length = x.1 by omega]; exact hst
              have hneg : ¬ (x.2.1 = 0 ∨ (0 < q.v ∧ q.v < (after q x.2.1 x.2.2.1).x) ∨ noiseB q = true) := by
                rw [← hb1, show noiseB q = false from decide_eq_false (by rw [← ek]; exact hc43)]
                rintro (h | ⟨h1, h2⟩ | h)
                · omega
                · omega
                · cases h
              have hv : askW q x.2.1 x.2.2.1 x.2.2.2 = _ := ask_y0 hneg (by omega)
              exact ⟨_, [_], rfl, ⟨by rw [plays, e1]; exact congrArg Value.bool hv.symm, by rw [askd, e1, ← hb1]⟩, hW.drop 1⟩
            · intro hc46
              replace hc46 := of_decide_eq_false hc46
              refine y_val (r_move (v := .bool _) rfl rfl) rfl rfl ?_
              refine y_val (r_move (v := .pointer _) rfl rfl) (by kernel_rfl) rfl ?_
              refine y_val (r_nilCheck rfl rfl) (by kernel_rfl) rfl ?_
              refine y_loadA 1 tyA39 (by kernel_rfl) rfl rfl rfl rfl (by first | rfl | exact kc_len _ | exact kcf_len _ | exact boC_len _ _ | (simp; done)) (by decide) ?_
              refine y_loadA 0 tyA130 (by kernel_rfl) rfl rfl rfl rfl (by first | rfl | exact kc_len _ | exact kcf_len _ | exact boC_len _ _ | (simp; done)) (by decide) ?_
              refine y_call (g_plays b1 t x.2.1 x.2.2.1 x.2.2.2 (by omega) (by omega) (by omega) (by omega)) en71 (by kernel_rfl) rfl rfl rfl ?_
              refine y_val (r_pick (v := .bool _) rfl rfl rfl) rfl rfl ?_
              refine y_val (r_assign (v := .bool _) rfl rfl) rfl rfl ?_
              refine y_end ?_
              intro W hW
              refine n_then ?_
              refine c_ret ?_
              refine ret_tmp (v := .bool _) rfl rfl ?_
              have e1 : stp o f o.length = x.2 := by rw [show o.length = x.1 by omega]; exact hst
              have hneg : ¬ (x.2.1 = 0 ∨ (0 < q.v ∧ q.v < (after q x.2.1 x.2.2.1).x) ∨ noiseB q = true) := by
                rw [← hb1, show noiseB q = false from decide_eq_false (by rw [← ek]; exact hc43)]
                rintro (h | ⟨h1, h2⟩ | h)
                · omega
                · omega
                · cases h
              have hv : askW q x.2.1 x.2.2.1 x.2.2.2 = _ := (ask_w hneg (by omega)).trans (play_congr em ek).symm
              exact ⟨_, [_], rfl, ⟨by rw [plays, e1]; exact congrArg Value.bool hv.symm, by rw [askd, e1, ← hb1]⟩, hW.drop 1⟩

end Go.Proofs.Ytoegpalacppllaa

/- Lists, by the library. -/
namespace Go.Proofs.Ytoegpalacppllaa
open Go.RowKit Pl
open Tr Hn
set_option maxRecDepth 10000 in
/-- slices.Clone[[]int,int] -/
theorem g_Clone (aa : Option Addr) (an ac : Nat) (l : List Int) (hl : l.length ≤ 4294967296) : GivesX Try.prog 39 [.slice aa an ac].toArray (fun w => RdI w ⟨aa, an, ac⟩ l) (fun v Bs => ∃ s : Sl, v = s.v ∧ NewI s l Bs) := by
  refine givesX_of Try.func39 rfl (bs := [.slice aa an ac, undef, undef, undef, undef, undef, undef, undef]) rfl ?_
  intro w hP hW
  have hn : an = l.length := hP.len
  refine c_seq ?_
  refine c_reg ?_
  refine l_val (r_assign (v := .slice _ _ _) rfl rfl) rfl rfl ?_
  refine l_end ?_
  refine n_then ?_
  refine c_seq ?_
  refine c_seq ?_
  refine c_reg ?_
  refine l_val (r_move (v := .slice _ _ _) rfl rfl) rfl rfl ?_
  refine l_val (r_eqlNil Try.underlying35 rfl rfl rfl rfl) rfl rfl ?_
  refine l_split ?_ ?_
  · intro hc1
    replace hc1 := of_decide_eq_true hc1
    refine l_end ?_
    refine n_then ?_
    refine c_true rfl ?_
    refine c_seq ?_
    refine c_reg ?_
    refine l_val (r_assign (v := .slice _ _ _) rfl rfl) rfl rfl ?_
    refine l_end ?_
    refine n_then ?_
    refine c_ret ?_
    refine r_then ?_
    refine ret_tmp (v := .slice _ _ _) rfl rfl ?_
    exact ⟨_, [], rfl, ⟨Sl.no, rfl, by rw [show l = [] from List.eq_nil_of_length_eq_zero (by have := hP.ok.nil0 hc1; simp only at this; omega)]; exact NewI.no⟩, hW.sub (List.nil_sublist _)⟩
  · intro hc1
    replace hc1 := of_decide_eq_false hc1
    refine l_end ?_
    refine n_then ?_
    refine c_false rfl ?_
    refine c_skip ?_
    refine n_then ?_
    refine c_seq ?_
    refine c_reg ?_
    refine l_buildSliceF hW bsl35_0_ rfl rfl rfl rfl ?_
    intro ge W hW
    refine l_val (r_move (v := .slice _ _ _) rfl rfl) rfl rfl ?_
    refine l_twin tyE35 hW (s := ⟨aa, an, ac⟩) (RdI.past hP hW.below) (by omega) hl rfl rfl rfl rfl rfl ?_
    intro s2 Bs W hs hW
    refine l_val (r_assign (v := .slice _ _ _) rfl rfl) rfl rfl ?_
    refine l_end ?_
    refine n_then ?_
    refine c_ret ?_
    refine ret_tmp (v := .slice _ _ _) rfl rfl ?_
    exact ⟨_, _, rfl, ⟨s2, rfl, hs⟩, hW.sub (List.sublist_append_right _ _)⟩

end Go.Proofs.Ytoegpalacppllaa

/- A query, by the program. -/
namespace Go.Proofs.Ytoegpalacppllaa
open Go.RowKit Pl
open Tr Hn
set_option maxRecDepth 10000 in
/-- headend/trace.Ask -/
theorem g_Ask (b : Bo) (t : Sl) (ra : Option Addr) (rn rc : Nat) (l : List (Int × Int)) (f : Int) (hl : b.l.length ≤ 100) (hq : l.length ≤ 100) : GivesX Try.prog 12 [.agg (boC b t).toArray, .slice ra rn rc, .int .i64 f].toArray (fun w => RdI w t b.l ∧ RdB w ⟨ra, rn, rc⟩ l) (askV b l f) := by
  refine givesX_of Try.func12 rfl (bs := [.agg (boC b t).toArray, .slice ra rn rc, .int .i64 f, undef, undef, undef, undef, undef, undef, undef, undef, undef, undef, undef, undef, undef, undef, undef, undef, undef, undef, undef, undef, undef, undef, undef, undef, undef, undef, undef, undef, undef, undef, undef, undef, undef, undef, undef, undef, undef, undef, undef, undef, undef, undef, undef, undef, undef, undef, undef, undef, undef, undef, undef, undef, undef, undef]) rfl ?_
  intro w hP hW
  have hn : rn = l.length := hP.2.len
  refine c_seq ?_
  refine c_reg ?_
  refine l_box hW rfl rfl rfl rfl ?_
  intro g1 W hW
  refine l_alloc hW tyZ39 rfl rfl rfl ?_
  intro g2 W hW
  refine l_val (r_assign (v := .bool _) rfl rfl) rfl rfl ?_
  refine l_val (r_assign (v := .int _ _) rfl rfl) rfl rfl ?_
  refine l_end ?_
  refine n_then ?_
  refine c_seq ?_
  refine c_seq ?_
  refine c_reg ?_
  refine l_loadA hW 1 tyA39 rfl rfl rfl rfl rfl (by first | rfl | exact kc_len _ | exact kcf_len _ | exact boC_len _ _ | (simp; done)) ?_
  refine l_callR hW (g_CheckBox b t hl) en15 (hP.1.past hW.below) rfl rfl rfl rfl ?_
  intro W hW
  refine l_val (r_assign (v := .int _ _) rfl rfl) rfl rfl ?_
  refine l_end ?_
  refine n_then ?_
  refine c_seq ?_
  refine c_reg ?_
  refine l_val (r_move (v := .int _ _) rfl rfl) rfl rfl ?_
  refine l_val (r_neq rfl rfl rfl rfl) rfl rfl ?_
  refine l_split ?_ ?_
  · intro hc1
    replace hc1 := of_decide_eq_true hc1
    refine l_end ?_
    refine n_then ?_
    refine c_true rfl ?_
    refine c_seq ?_
    refine c_reg ?_
    refine l_val (r_build (ps := []) (bld39_) rfl rfl) rfl rfl ?_
    refine l_val (r_move (v := .int _ _) rfl rfl) rfl rfl ?_
    refine l_storeA hW 0 tyA39 rfl rfl rfl rfl rfl rfl (by first | rfl | exact kc_len _ | exact kcf_len _ | exact boC_len _ _ | (simp; done)) (by first | rfl | exact kc_len _ | exact kcf_len _ | exact boC_len _ _ | (simp; done)) (by first | exact kc_one _ | exact kcf_one _ | exact boC_one _ _ | (simp [Value.oneCell']; done)) ?_
    intro W hW
    refine l_val (r_assign (v := .bool _) rfl rfl) rfl rfl ?_
    refine l_val (r_assign (v := .int _ _) rfl rfl) rfl rfl ?_
    refine l_end ?_
    refine n_then ?_
    refine c_ret ?_
    refine r_then ?_
    refine ret_cell_tmp2 hW 0 tyA39 rfl rfl rfl (by first | rfl | exact kc_len _ | exact kcf_len _ | exact boC_len _ _ | (simp; done)) rfl rfl ?_
    exact ⟨_, _, rfl, askV_no (askE_b hc1) (hc1) z39_no, hW.sub (List.nil_sublist _)⟩
  · intro hc1
    replace hc1 := of_decide_eq_false hc1
    obtain ⟨hs, hu, hb1, hb2, hb3, hb4, hb5, hb6, hb7, hb8, hb9, hb10⟩ := chkB_ok hc1
    refine l_end ?_
    refine n_then ?_
    refine c_false rfl ?_
    refine c_skip ?_
    refine n_then ?_
    refine c_seq ?_
    refine c_reg ?_
    refine l_val (r_fieldAddr 0 Try.underlying39 rfl tyA26.size rfl rfl rfl) rfl rfl ?_
    refine l_loadP hW 1 tyA26 rfl rfl rfl rfl rfl (by first | rfl | omega | (simp; done) | (simp; omega)) rfl ?_
    refine l_val (r_move (v := .slice _ _ _) rfl rfl) rfl rfl ?_
    refine l_callX hW (g_psubsets b.s ra rn rc l hs hq) en38 (hP.2.past hW.below) rfl rfl rfl rfl ?_
    rintro _ BsS W ⟨tS, ss, rfl, hG⟩ hW
    refine l_val (r_move (v := .tuple _) rfl rfl) rfl rfl ?_
    refine l_val (r_extract (v := .slice _ _ _) rfl rfl rfl) rfl rfl ?_
    refine l_val (r_extract (v := .int _ _) rfl rfl rfl) rfl rfl ?_
    refine l_val (r_assign (v := .slice _ _ _) rfl rfl) rfl rfl ?_
    refine l_val (r_assign (v := .int _ _) rfl rfl) rfl rfl ?_
    refine l_end ?_
    refine n_then ?_
    refine c_seq ?_
    refine c_block ?_
    refine c_seq ?_
    refine c_reg ?_
    refine l_val (r_move (v := .int _ _) rfl rfl) rfl rfl ?_
    refine l_val (r_neq rfl rfl rfl rfl) rfl rfl ?_
    refine l_split ?_ ?_
    · intro hc2
      replace hc2 := of_decide_eq_true hc2
      refine l_val (r_assign (v := .bool _) rfl rfl) rfl rfl ?_
      refine l_end ?_
      refine n_then ?_
      refine c_true rfl ?_
      refine c_seq ?_
      refine c_reg ?_
      refine l_val (r_build (ps := []) (bld39_) rfl rfl) rfl rfl ?_
      refine l_val (r_move (v := .int _ _) rfl rfl) rfl rfl ?_
      refine l_storeA hW 0 tyA39 rfl rfl rfl rfl rfl rfl (by first | rfl | exact kc_len _ | exact kcf_len _ | exact boC_len _ _ | (simp; done)) (by first | rfl | exact kc_len _ | exact kcf_len _ | exact boC_len _ _ | (simp; done)) (by first | exact kc_one _ | exact kcf_one _ | exact boC_one _ _ | (simp [Value.oneCell']; done)) ?_
      intro W hW
      refine l_val (r_assign (v := .bool _) rfl rfl) rfl rfl ?_
      refine l_val (r_assign (v := .int _ _) rfl rfl) rfl rfl ?_
      refine l_end ?_
      refine n_then ?_
      refine c_ret ?_
      refine r_block ?_
      refine r_then ?_
      refine ret_cell_tmp2 hW 0 tyA39 rfl rfl rfl (by first | rfl | exact kc_len _ | exact kcf_len _ | exact boC_len _ _ | (simp; done)) rfl rfl ?_
      exact ⟨_, _, rfl, askV_no (askE_s hc1 hc2) (hc2) z39_no, hW.sub (List.nil_sublist _)⟩
    · intro hc2
      replace hc2 := of_decide_eq_false hc2
      obtain ⟨hq2, hbb⟩ := subsE_ok hc2
      have hz0 : subsE b.s l = 0 := by omega
      refine l_val (r_assign (v := .bool _) rfl rfl) rfl rfl ?_
      refine l_end ?_
      refine n_then ?_
      refine c_false rfl ?_
      refine c_seq ?_
      refine c_reg ?_
      refine l_val (r_move (v := .int _ _) rfl rfl) rfl rfl ?_
      refine l_val (r_lss rfl rfl rfl rfl) rfl rfl ?_
      refine l_split ?_ ?_
      · intro hc3
        replace hc3 := of_decide_eq_true hc3
        refine l_val (r_move (v := .bool _) rfl rfl) rfl rfl ?_
        refine l_not (by kernel_rfl) rfl ?_
        refine l_not (by kernel_rfl) rfl ?_
        refine l_not (by kernel_rfl) rfl ?_
        refine l_not (by kernel_rfl) rfl ?_
        refine l_val (r_pick (v := .bool _) rfl rfl rfl) rfl rfl ?_
        refine l_val (r_assign (v := .bool _) rfl rfl) rfl rfl ?_
        refine l_end ?_
        refine n_then ?_
        refine c_true rfl ?_
        refine c_seq ?_
        refine c_reg ?_
        refine l_val (r_build (ps := []) (bld39_) rfl rfl) rfl rfl ?_
        refine l_storeA hW 0 tyA39 rfl rfl rfl rfl rfl rfl (by first | rfl | exact kc_len _ | exact kcf_len _ | exact boC_len _ _ | (simp; done)) (by first | rfl | exact kc_len _ | exact kcf_len _ | exact boC_len _ _ | (simp; done)) (by first | exact kc_one _ | exact kcf_one _ | exact boC_one _ _ | (simp [Value.oneCell']; done)) ?_
        intro W hW
        refine l_val (r_assign (v := .bool _) rfl rfl) rfl rfl ?_
        refine l_val (r_assign (v := .int _ _) rfl rfl) rfl rfl ?_
        refine l_end ?_
        refine n_then ?_
        refine c_ret ?_
        refine r_block ?_
        refine r_then ?_
        refine ret_cell_tmp2 hW 0 tyA39 rfl rfl rfl (by first | rfl | exact kc_len _ | exact kcf_len _ | exact boC_len _ _ | (simp; done)) rfl rfl ?_
        exact ⟨_, _, rfl, askV_no (askE_f hc1 hc2 (by omega)) (by decide) z39_no, hW.sub (List.nil_sublist _)⟩
      · intro hc3
        replace hc3 := of_decide_eq_false hc3
        refine l_val (r_move (v := .bool _) rfl rfl) rfl rfl ?_
        refine l_valG (r_move (v := .int _ _) rfl rfl) (by kernel_rfl) rfl ?_
        refine l_valG (r_move (v := .slice _ _ _) rfl rfl) (by kernel_rfl) rfl ?_
        refine l_valG (r_lenSlice Try.underlying40 rfl rfl) (by kernel_rfl) rfl ?_
        refine l_valG (r_gtr rfl rfl rfl rfl) (by kernel_rfl) rfl ?_
        refine l_split ?_ ?_
        · intro hc4
          replace hc4 := of_decide_eq_true hc4
          refine l_val (r_pick (v := .bool _) rfl rfl rfl) rfl rfl ?_
          refine l_val (r_assign (v := .bool _) rfl rfl) rfl rfl ?_
          refine l_end ?_
          refine n_then ?_
          refine c_true rfl ?_
          refine c_seq ?_
          refine c_reg ?_
          refine l_val (r_build (ps := []) (bld39_) rfl rfl) rfl rfl ?_
          refine l_storeA hW 0 tyA39 rfl rfl rfl rfl rfl rfl (by first | rfl | exact kc_len _ | exact kcf_len _ | exact boC_len _ _ | (simp; done)) (by first | rfl | exact kc_len _ | exact kcf_len _ | exact boC_len _ _ | (simp; done)) (by first | exact kc_one _ | exact kcf_one _ | exact boC_one _ _ | (simp [Value.oneCell']; done)) ?_
          intro W hW
          refine l_val (r_assign (v := .bool _) rfl rfl) rfl rfl ?_
          refine l_val (r_assign (v := .int _ _) rfl rfl) rfl rfl ?_
          refine l_end ?_
          refine n_then ?_
          refine c_ret ?_
          refine r_block ?_
          refine r_then ?_
          refine ret_cell_tmp2 hW 0 tyA39 rfl rfl rfl (by first | rfl | exact kc_len _ | exact kcf_len _ | exact boC_len _ _ | (simp; done)) rfl rfl ?_
          exact ⟨_, _, rfl, askV_no (askE_f hc1 hc2 (by omega)) (by decide) z39_no, hW.sub (List.nil_sublist _)⟩
        · intro hc4
          replace hc4 := of_decide_eq_false hc4
          refine l_val (r_pick (v := .bool _) rfl rfl rfl) rfl rfl ?_
          refine l_val (r_assign (v := .bool _) rfl rfl) rfl rfl ?_
          refine l_end ?_
          refine n_then ?_
          refine c_false rfl ?_
          refine c_seq ?_
          refine c_reg ?_
          refine l_val (r_fieldAddr 26 Try.underlying39 rfl tyC3.size rfl rfl rfl) rfl rfl ?_
          refine l_loadC hW 1 tyC3 rfl rfl rfl rfl rfl rfl ?_
          refine l_val (r_eql rfl rfl rfl rfl) rfl rfl ?_
          refine l_split ?_ ?_
          · intro hc5
            replace hc5 := of_decide_eq_true hc5
            refine l_val (r_assign (v := .bool _) rfl rfl) rfl rfl ?_
            refine l_end ?_
            refine n_then ?_
            refine c_true rfl ?_
            refine c_seq ?_
            refine c_reg ?_
            refine l_val (r_build (ps := []) (bld39_) rfl rfl) rfl rfl ?_
            refine l_storeA hW 0 tyA39 rfl rfl rfl rfl rfl rfl (by first | rfl | exact kc_len _ | exact kcf_len _ | exact boC_len _ _ | (simp; done)) (by first | rfl | exact kc_len _ | exact kcf_len _ | exact boC_len _ _ | (simp; done)) (by first | exact kc_one _ | exact kcf_one _ | exact boC_one _ _ | (simp [Value.oneCell']; done)) ?_
            intro W hW
            refine l_val (r_assign (v := .bool _) rfl rfl) rfl rfl ?_
            refine l_val (r_assign (v := .int _ _) rfl rfl) rfl rfl ?_
            refine l_end ?_
            refine n_then ?_
            refine c_ret ?_
            refine r_block ?_
            refine r_then ?_
            refine ret_cell_tmp2 hW 0 tyA39 rfl rfl rfl (by first | rfl | exact kc_len _ | exact kcf_len _ | exact boC_len _ _ | (simp; done)) rfl rfl ?_
            exact ⟨_, _, rfl, askV_no (askE_a hc1 hc2 (by omega) hc5) (by decide) z39_no, hW.sub (List.nil_sublist _)⟩
          · intro hc5
            replace hc5 := of_decide_eq_false hc5
            refine l_val (r_assign (v := .bool _) rfl rfl) rfl rfl ?_
            refine l_end ?_
            refine n_then ?_
            refine c_false rfl ?_
            refine c_skip ?_
            refine n_block ?_
            refine n_then ?_
            refine c_seq ?_
            refine c_reg ?_
            refine l_val (r_fieldAddr 6 Try.underlying39 rfl tyC35.size rfl rfl rfl) rfl rfl ?_
            refine l_loadC hW 1 tyC35 rfl rfl rfl rfl rfl rfl ?_
            refine l_callX hW (g_Clone t.a t.n t.c b.l (by omega)) en39 (hP.1.past hW.below) rfl rfl rfl rfl ?_
            rintro _ BsC W ⟨s2, rfl, hN⟩ hW
            refine l_val (r_fieldAddr 6 Try.underlying39 rfl tyC35.size rfl rfl rfl) rfl rfl ?_
            refine l_storeC hW 1 tyC35 (v := s2.v) rfl rfl rfl rfl rfl rfl (by rw [boC_len]; decide) rfl ?_
            intro W hW
            replace hW := (show Cl _ (([_, ⟨_, (boC b t).set 6 s2.v, _⟩] ++ BsS) ++ BsC) _ from hW)
            rw [boC_setL] at hW
            refine l_end ?_
            refine n_then ?_
            refine c_seq ?_
            refine c_reg ?_
            refine l_loadA hW 1 tyA39 rfl rfl rfl rfl rfl (by first | rfl | exact kc_len _ | exact kcf_len _ | exact boC_len _ _ | (simp; done)) ?_
            refine l_val (r_move (v := .slice _ _ _) rfl rfl) rfl rfl ?_
            have hgl : ∀ m ∈ (mems b.s l), m.length ≤ 4294967296 := fun m hm => by
              obtain ⟨y, -, rfl⟩ := List.mem_map.1 hm
              have h1 := mem_len b.s y.1 y.2 (p2 b.s.d.toNat)
              have h2 := p2_le (n := b.s.d.toNat) (by have := schB_iff.1 hs; omega)
              omega
            refine l_callX hW (g_opens b s2 tS.a tS.n tS.c ss (mems b.s l) (users_pair hu) hl (by rw [mems_len]; exact hq) hgl) en41 ⟨hN.rep.at hW (List.sublist_append_right _ _), (hG hz0).at hW ((List.sublist_append_right [_, _] BsS).trans (List.sublist_append_left _ _))⟩ rfl rfl rfl rfl ?_
            rintro _ BsO W ⟨ao, co, rfl, hO⟩ hW
            refine l_val (r_move (v := .int _ _) rfl rfl) rfl rfl ?_
            replace hW := (show Cl _ (_ :: _ :: ((BsS ++ BsC) ++ BsO)) _ from hW).perm (List.Perm.swap _ _ _)
            have heq : (opl b.l (mems b.s l) (mems b.s l).length) = opens b l l.length := by rw [mems_len]; exact opl_opens hu
            refine l_callS (B := [_]) (L := _ :: ((BsS ++ BsC) ++ BsO)) (g_ask b s2 g1 ao (mems b.s l).length co (opl b.l (mems b.s l) (mems b.s l).length) f (by omega) (by omega) (by omega) (by omega) (by omega) (by omega) (by omega) (by omega) (by rw [heq, opens_len]; exact hq)) hW en40 (fun W hC => hO.repT _ _ (hC.sub ((List.sublist_append_right _ _).cons _))) rfl rfl rfl rfl ?_
            rintro _ _ W ⟨rfl, rfl⟩ hW
            replace hW := (show Cl _ (_ :: _ :: ((BsS ++ BsC) ++ BsO)) _ from hW).perm (List.Perm.swap _ _ _)
            rw [heq] at hW ⊢
            refine l_val (r_assign (v := .bool _) rfl rfl) rfl rfl ?_
            refine l_end ?_
            refine n_then ?_
            refine c_seq ?_
            refine c_reg ?_
            refine l_loadA hW 1 tyA39 rfl rfl rfl rfl rfl (by first | rfl | exact kc_len _ | exact kcf_len _ | exact boC_len _ _ | (simp; done)) ?_
            refine l_val (r_move (v := .bool _) rfl rfl) rfl rfl ?_
            refine l_storeA hW 0 tyA39 rfl rfl rfl rfl rfl rfl (by first | rfl | exact kc_len _ | exact kcf_len _ | exact boC_len _ _ | (simp; done)) (by first | rfl | exact kc_len _ | exact kcf_len _ | exact boC_len _ _ | (simp; done)) (by first | exact kc_one _ | exact kcf_one _ | exact boC_one _ _ | (simp [Value.oneCell']; done)) ?_
            intro W hW
            refine l_val (r_assign (v := .bool _) rfl rfl) rfl rfl ?_
            refine l_val (r_assign (v := .int _ _) rfl rfl) rfl rfl ?_
            refine l_end ?_
            refine n_then ?_
            refine c_ret ?_
            refine ret_cell_tmp2 hW 0 tyA39 rfl rfl rfl (by first | rfl | exact kc_len _ | exact kcf_len _ | exact boC_len _ _ | (simp; done)) rfl rfl ?_
            exact ⟨_, _, rfl, askV_yes (askE_0 hc1 hc2 (by omega) hc5) (by rw [askd, after_l]; exact hN), (show Cl _ (_ :: _ :: ((BsS ++ BsC) ++ BsO)) _ from hW).sub ((((List.sublist_append_right BsS BsC).trans (List.sublist_append_left _ BsO)).cons _).cons _)⟩

end Go.Proofs.Ytoegpalacppllaa

/- The law of asking. -/
namespace Go.Proofs.Ytoegpalacppllaa
open Go.RowKit Pl
open Tr Hn
set_option maxRecDepth 10000 in
/-- headend/headendlaw08.TraceAsks -/
theorem g_TraceAsks (b : Bo) (t : Sl) (ra : Option Addr) (rn rc : Nat) (l : List (Int × Int)) (f : Int) : GivesR Try.prog 4 [.agg (boC b t).toArray, .slice ra rn rc, .int .i64 f].toArray (fun w => RdI w t b.l ∧ RdB w ⟨ra, rn, rc⟩ l) (.bool true) := by
  refine givesR_of Try.func4 rfl (bs := [.agg (boC b t).toArray, .slice ra rn rc, .int .i64 f, undef, undef, undef, undef, undef, undef, undef, undef, undef, undef, undef, undef, undef, undef, undef, undef, undef, undef, undef, undef, undef, undef, undef, undef, undef, undef, undef, undef, undef, undef, undef, undef, undef, undef, undef, undef, undef, undef, undef, undef, undef, undef, undef, undef, undef, undef, undef, undef, undef, undef, undef, undef, undef, undef, undef, undef, undef, undef, undef, undef, undef, undef, undef, undef, undef, undef, undef, undef, undef, undef, undef, undef, undef, undef, undef, undef, undef]) rfl ?_
  intro w hP hW
  have hn := hP.1.len
  have hrn : rn = l.length := hP.2.len
  refine c_seq ?_
  refine c_reg ?_
  refine l_box hW rfl rfl rfl rfl ?_
  intro g1 W hW
  refine l_val (r_assign (v := .bool _) rfl rfl) rfl rfl ?_
  refine l_end ?_
  refine n_then ?_
  refine c_seq ?_
  refine c_seq ?_
  refine c_reg ?_
  refine l_val (r_fieldAddr 6 Try.underlying39 rfl tyC35.size rfl rfl rfl) rfl rfl ?_
  refine l_loadC hW 0 tyC35 rfl rfl rfl rfl rfl rfl ?_
  refine l_val (r_lenSlice Try.underlying35 rfl rfl) rfl rfl ?_
  refine l_val (r_gtrN (n := 100) rfl rfl rfl rfl) rfl rfl ?_
  refine l_split ?_ ?_
  · intro hc1
    replace hc1 := of_decide_eq_true hc1
    refine l_val (r_move (v := .bool _) rfl rfl) rfl rfl ?_
    refine l_not (by kernel_rfl) rfl ?_
    refine l_not (by kernel_rfl) rfl ?_
    refine l_not (by kernel_rfl) rfl ?_
    refine l_val (r_pick (v := .bool _) rfl rfl rfl) rfl rfl ?_
    refine l_end ?_
    refine n_then ?_
    refine c_true rfl ?_
    refine c_seq ?_
    refine c_reg ?_
    refine l_val (r_assign (v := .bool _) rfl rfl) rfl rfl ?_
    refine l_end ?_
    refine n_then ?_
    refine c_ret ?_
    refine r_then ?_
    refine ret_tmp (v := .bool true) rfl ?_ ⟨rfl, hW.below⟩
    rfl
  · intro hc1
    replace hc1 := of_decide_eq_false hc1
    refine l_val (r_move (v := .bool _) rfl rfl) rfl rfl ?_
    refine l_valG (r_move (v := .slice _ _ _) rfl rfl) (by kernel_rfl) rfl ?_
    refine l_valG (r_lenSlice Try.underlying40 rfl rfl) (by kernel_rfl) rfl ?_
    refine l_valG (r_gtrN (n := 100) rfl rfl rfl rfl) (by kernel_rfl) rfl ?_
    refine l_split ?_ ?_
    · intro hc2
      replace hc2 := of_decide_eq_true hc2
      refine l_val (r_pick (v := .bool _) rfl rfl rfl) rfl rfl ?_
      refine l_end ?_
      refine n_then ?_
      refine c_true rfl ?_
      refine c_seq ?_
      refine c_reg ?_
      refine l_val (r_assign (v := .bool _) rfl rfl) rfl rfl ?_
      refine l_end ?_
      refine n_then ?_
      refine c_ret ?_
      refine r_then ?_
      refine ret_tmp (v := .bool true) rfl ?_ ⟨rfl, hW.below⟩
      rfl
    · intro hc2
      replace hc2 := of_decide_eq_false hc2
      have hl : b.l.length ≤ 100 := by omega
      have hq : l.length ≤ 100 := by omega
      have hlx : (askX b l f).l.length ≤ 100 := by
        unfold askX
        split
        · rw [askd, after_l]; exact hl
        · exact Nat.zero_le _
      refine l_val (r_pick (v := .bool _) rfl rfl rfl) rfl rfl ?_
      refine l_end ?_
      refine n_then ?_
      refine c_false rfl ?_
      refine c_skip ?_
      refine n_then ?_
      refine c_seq ?_
      refine c_reg ?_
      refine l_loadA hW 0 tyA39 rfl rfl rfl rfl rfl (by first | rfl | exact kc_len _ | exact kcf_len _ | exact boC_len _ _ | (simp; done)) ?_
      refine l_callX hW (g_TwinBox b t hl) en11 (hP.1.past hW.below) rfl rfl rfl rfl ?_
      rintro _ BT W ⟨sT, rfl, nT⟩ hW
      refine l_alloc hW tyZ39 rfl rfl rfl ?_
      intro g2 W hW
      refine l_storeA hW 0 tyA39 rfl rfl rfl rfl rfl rfl (by first | rfl | exact kc_len _ | exact kcf_len _ | exact boC_len _ _ | (simp; done)) (by first | rfl | exact kc_len _ | exact kcf_len _ | exact boC_len _ _ | (simp; done)) (by first | exact kc_one _ | exact kcf_one _ | exact boC_one _ _ | (simp [Value.oneCell']; done)) ?_
      intro W hW
      refine l_end ?_
      refine n_then ?_
      refine c_seq ?_
      refine c_reg ?_
      refine l_loadA hW 0 tyA39 rfl rfl rfl rfl rfl (by first | rfl | exact kc_len _ | exact kcf_len _ | exact boC_len _ _ | (simp; done)) ?_
      refine l_val (r_move (v := .slice _ _ _) rfl rfl) rfl rfl ?_
      refine l_val (r_move (v := .int _ _) rfl rfl) rfl rfl ?_
      refine l_callX hW (g_Ask b sT ra rn rc l f hl hq) en12 ⟨nT.rep.at hW (List.sublist_append_right [_, _] _), hP.2.past hW.below⟩ rfl rfl rfl rfl ?_
      rintro _ B4 W ⟨s4, rfl, n4⟩ hW
      refine l_val (r_move (v := .tuple _) rfl rfl) rfl rfl ?_
      refine l_val (r_extract (v := .agg _) rfl rfl rfl) rfl rfl ?_
      refine l_val (r_extract (v := .bool _) rfl rfl rfl) rfl rfl ?_
      refine l_val (r_extract (v := .int _ _) rfl rfl rfl) rfl rfl ?_
      refine l_alloc hW tyZ39 rfl rfl rfl ?_
      intro g3 W hW
      refine l_storeA hW 0 tyA39 rfl rfl rfl rfl rfl rfl (by first | rfl | exact kc_len _ | exact kcf_len _ | exact boC_len _ _ | (simp; done)) (by first | rfl | exact kc_len _ | exact kcf_len _ | exact boC_len _ _ | (simp; done)) (by first | exact kc_one _ | exact kcf_one _ | exact boC_one _ _ | (simp [Value.oneCell']; done)) ?_
      intro W hW
      refine l_val (r_assign (v := .bool _) rfl rfl) rfl rfl ?_
      refine l_val (r_assign (v := .int _ _) rfl rfl) rfl rfl ?_
      refine l_end ?_
      refine n_then ?_
      refine c_seq ?_
      refine c_reg ?_
      refine l_loadA hW 2 tyA39 rfl rfl rfl rfl rfl (by first | rfl | exact kc_len _ | exact kcf_len _ | exact boC_len _ _ | (simp; done)) ?_
      refine l_val (r_move (v := .slice _ _ _) rfl rfl) rfl rfl ?_
      refine l_val (r_move (v := .int _ _) rfl rfl) rfl rfl ?_
      refine l_callX hW (g_rAsk b t ra rn rc l f hl hq) en13 ⟨hP.1.past hW.below, hP.2.past hW.below⟩ rfl rfl rfl rfl ?_
      rintro _ B5 W ⟨s5, rfl, n5⟩ hW
      refine l_val (r_move (v := .tuple _) rfl rfl) rfl rfl ?_
      refine l_val (r_extract (v := .agg _) rfl rfl rfl) rfl rfl ?_
      refine l_val (r_extract (v := .bool _) rfl rfl rfl) rfl rfl ?_
      refine l_val (r_extract (v := .int _ _) rfl rfl rfl) rfl rfl ?_
      refine l_alloc hW tyZ39 rfl rfl rfl ?_
      intro g4 W hW
      refine l_storeA hW 0 tyA39 rfl rfl rfl rfl rfl rfl (by first | rfl | exact kc_len _ | exact kcf_len _ | exact boC_len _ _ | (simp; done)) (by first | rfl | exact kc_len _ | exact kcf_len _ | exact boC_len _ _ | (simp; done)) (by first | exact kc_one _ | exact kcf_one _ | exact boC_one _ _ | (simp [Value.oneCell']; done)) ?_
      intro W hW
      refine l_val (r_assign (v := .bool _) rfl rfl) rfl rfl ?_
      refine l_val (r_assign (v := .int _ _) rfl rfl) rfl rfl ?_
      refine l_end ?_
      refine n_then ?_
      refine c_seq ?_
      refine c_regY hW [] [.q, .q, .q, .q, .q, .q, .q, .q, .q, .q, .q, .q, .q, .q, .q, .q, .q, .q, .q, .q, .q] [0, 0, 3, 7, 15, 15, 63, 127, 255, 511, 511, 2047, 4095, 8191, 16383, 32767, 16383, 131071, 262143, 524287, 1048575] (by kernel_rfl) (by kernel_rfl) ?_
      refine y_loadA 1 tyA39 rfl rfl rfl rfl rfl (by first | rfl | exact kc_len _ | exact kcf_len _ | exact boC_len _ _ | (simp; done)) (by decide) ?_
      refine y_loadA 0 tyA39 rfl rfl rfl rfl rfl (by first | rfl | exact kc_len _ | exact kcf_len _ | exact boC_len _ _ | (simp; done)) (by decide) ?_
      refine y_callR (g_SameBox (askX b l f) s4 s5 hlx) en14 (fun L2 w hs hC => ⟨n4.rep.at hC ((((List.sublist_append_right _ B4).trans (List.sublist_append_left _ B5)).trans (List.sublist_append_right [_, _, _, _] _)).trans hs.pre), n5.rep.at hC (((List.sublist_append_right _ B5).trans (List.sublist_append_right [_, _, _, _] _)).trans hs.pre)⟩) (by kernel_rfl) rfl rfl rfl ?_
      refine y_val (r_move (v := .bool _) rfl rfl) rfl rfl ?_
      refine y_val (r_move (v := .bool _) rfl rfl) (by kernel_rfl) rfl ?_
      refine y_val (r_move (v := .bool _) rfl rfl) (by kernel_rfl) rfl ?_
      refine y_val (r_eqlBool (c := true) Try.underlying4 rfl rfl rfl (by simp)) (by kernel_rfl) rfl ?_
      refine y_val (r_pick (v := .bool _) rfl rfl rfl) rfl rfl ?_
      refine y_val (r_move (v := .bool _) rfl rfl) rfl rfl ?_
      refine y_val (r_move (v := .int _ _) rfl rfl) (by kernel_rfl) rfl ?_
      refine y_val (r_move (v := .int _ _) rfl rfl) (by kernel_rfl) rfl ?_
      refine y_val (r_eql (b := true) rfl rfl rfl (decide_eq_true rfl)) (by kernel_rfl) rfl ?_
      refine y_val (r_pick (v := .bool _) rfl rfl rfl) rfl rfl ?_
      refine y_val (r_move (v := .bool _) rfl rfl) rfl rfl ?_
      refine y_loadA 2 tyA39 (by kernel_rfl) rfl rfl rfl rfl (by first | rfl | exact kc_len _ | exact kcf_len _ | exact boC_len _ _ | (simp; done)) (by decide) ?_
      refine y_callR (g_CheckBox b sT hl) en15 (fun L2 w hs hC => nT.rep.at hC ((((List.sublist_append_left BT _).trans (List.sublist_append_left _ B5)).trans (List.sublist_append_right [_, _, _, _] _)).trans hs.pre)) (by kernel_rfl) rfl rfl rfl ?_
      refine y_loadA 3 tyA39 (by kernel_rfl) rfl rfl rfl rfl (by first | rfl | exact kc_len _ | exact kcf_len _ | exact boC_len _ _ | (simp; done)) (by decide) ?_
      refine y_callR (g_rCheckBox b t hl) en16 (fun L2 w hs hC => hP.1.past hC.below) (by kernel_rfl) rfl rfl rfl ?_
      refine y_val (r_eql (b := true) rfl rfl rfl (decide_eq_true rfl)) (by kernel_rfl) rfl ?_
      refine y_val (r_pick (v := .bool _) rfl rfl rfl) rfl rfl ?_
      refine y_val (r_assign (v := .bool _) rfl rfl) rfl rfl ?_
      refine y_end ?_
      intro W hW
      have hsn := n4.n
      replace hW := Cl.sub (L' := [_, _, _, _] ++ (BT ++ B4)) (show Cl _ ([_, _, _, _] ++ ((BT ++ B4) ++ B5)) _ from hW) ((List.sublist_append_left (BT ++ B4) B5).append_left _)
      refine n_then ?_
      refine c_seq ?_
      refine c_seq ?_
      refine c_reg ?_
      refine l_val (r_fieldAddr 6 Try.underlying39 rfl tyC35.size rfl rfl rfl) rfl rfl ?_
      refine l_loadC hW 1 tyC35 rfl rfl rfl rfl rfl rfl ?_
      refine l_val (r_lenSlice Try.underlying35 rfl rfl) rfl rfl ?_
      refine l_val (r_move (v := .int _ _) rfl rfl) rfl rfl ?_
      refine l_end ?_
      refine n_then ?_
      refine c_block ?_
      refine c_loop (fun (z : Nat × List Blk) (j : Nat → Value) => [.agg (boC b t).toArray, .slice ra rn rc, .int .i64 f, .pointer (some ⟨g1, 0, none⟩), j 4, j 5, .bool false, .pointer (some ⟨g2, 0, none⟩), .pointer (some ⟨g3, 0, none⟩), .bool (askP b l f), .int .i64 (askE b l f), .pointer (some ⟨g4, 0, none⟩), .bool (askP b l f), .int .i64 (askE b l f), .bool true, j 15, .pointer (some ⟨g1, 6, none⟩), .slice t.a t.n t.c, j 18, .bool false, .bool false, .slice ra rn rc, j 22, .bool false, .bool false, .agg ((boC b t)).toArray, .agg (boC b sT).toArray, .tuple #[.agg (boC (askX b l f) s4).toArray, .bool (askP b l f), .int .i64 (askE b l f)], .agg (boC b sT).toArray, .slice ra rn rc, .int .i64 f, .tuple #[.agg (boC (askX b l f) s4).toArray, .bool (askP b l f), .int .i64 (askE b l f)], .agg (boC (askX b l f) s4).toArray, .bool (askP b l f), .int .i64 (askE b l f), .tuple #[.agg (boC (askX b l f) s5).toArray, .bool (askP b l f), .int .i64 (askE b l f)], .agg ((boC b t)).toArray, .slice ra rn rc, .int .i64 f, .tuple #[.agg (boC (askX b l f) s5).toArray, .bool (askP b l f), .int .i64 (askE b l f)], .agg (boC (askX b l f) s5).toArray, .bool (askP b l f), .int .i64 (askE b l f), .agg (boC (askX b l f) s4).toArray, .agg (boC (askX b l f) s5).toArray, .bool true, .bool true, .bool (askP b l f), .bool (askP b l f), .bool true, .bool true, .bool true, .int .i64 (askE b l f), .int .i64 (askE b l f), .bool true, .bool true, .bool true, .agg (boC b sT).toArray, .int .i64 (chkB b), .agg ((boC b t)).toArray, .int .i64 (chkB b), .bool true, .bool true, .pointer (some ⟨g3, 6, none⟩), .slice s4.a s4.n s4.c, .int .i64 (s4.n : Int), .int .i64 (z.1 : Int), j 67, j 68, j 69, j 70, j 71, j 72, j 73, j 74, j 75, j 76, j 77, j 78, j 79]) (fun (z : Nat × List Blk) => [⟨g4, boC (askX b l f) s5, 39⟩, ⟨g3, boC (askX b l f) s4, 39⟩, ⟨g2, boC b sT, 39⟩, ⟨g1, (boC b t), 39⟩] ++ (BT ++ z.2)) (fun (z : Nat × List Blk) => z.1 ≤ s4.n ∧ Shp B4 z.2) (fun (z : Nat × List Blk) => s4.n - z.1) (0, B4) (by kernel_rfl) hW ⟨Nat.zero_le _, Shp.refl _⟩ ?_
      intro z j W hx hW
      obtain ⟨n, B2⟩ := z
      obtain ⟨hz, hsh2⟩ := hx
      simp only at hz hsh2
      refine c_seq ?_
      refine c_reg ?_
      refine l_val (r_lssN rfl rfl rfl rfl) rfl rfl ?_
      refine l_split ?_ ?_
      · intro hc3
        replace hc3 := of_decide_eq_true hc3
        obtain ⟨k, y, o0, hk, ha, hlk⟩ := n4.mem.shp hsh2 (by omega)
        refine l_end ?_
        refine n_then ?_
        refine c_seq ?_
        refine c_true rfl ?_
        refine c_skip ?_
        refine n_then ?_
        refine c_seq ?_
        refine c_block ?_
        refine c_seq ?_
        refine c_reg ?_
        refine l_val (r_move (v := .int _ _) rfl rfl) rfl rfl ?_
        refine l_val (r_assign (v := .int _ _) rfl rfl) rfl rfl ?_
        refine l_end ?_
        refine n_then ?_
        refine c_reg ?_
        refine l_val (r_fieldAddr 6 Try.underlying39 rfl tyC35.size rfl rfl rfl) rfl rfl ?_
        refine l_loadC hW 1 tyC35 rfl rfl rfl rfl rfl rfl ?_
        refine l_val (r_move (v := .int _ _) rfl rfl) rfl rfl ?_
        refine l_val (r_indexAddrSl2 (n := n) Try.underlying35 tyC3.size rfl (congrArg (fun a => Value.slice a s4.n s4.c) ha) rfl (by omega)) rfl rfl ?_
        refine l_storeIn (L := [_, _, _, _] ++ BT) (B := B2) hW tyC3 hk rfl rfl rfl rfl rfl (by omega) rfl ?_
        intro W hW
        refine l_end ?_
        refine n_block ?_
        refine n_then ?_
        refine c_reg ?_
        refine l_val (r_addN (n := 1) rfl rfl rfl (by omega)) rfl rfl ?_
        refine l_val (r_move (v := .int _ _) rfl rfl) rfl rfl ?_
        refine l_end ?_
        refine n_then ?_
        exact loop_next (n + 1, _) (by kernel_rfl) hW ⟨by simp only; omega, hsh2.set hk (by simp)⟩ (by simp only; omega)
      · intro hc3
        replace hc3 := of_decide_eq_false hc3
        refine l_end ?_
        refine n_then ?_
        refine c_seq ?_
        refine c_false rfl ?_
        refine c_exit ?_
        refine x_then ?_
        refine x_then ?_
        refine x_hit ?_
        refine n_then ?_
        refine c_seq ?_
        refine c_reg ?_
        refine l_val (r_move (v := .bool _) rfl rfl) rfl rfl ?_
        refine l_val (r_move (v := .bool _) rfl rfl) rfl rfl ?_
        refine l_loadAG hW 2 tyA39 (by kernel_rfl) rfl rfl rfl rfl (by first | rfl | exact kc_len _ | exact kcf_len _ | exact boC_len _ _ | (simp; done)) ?_
        refine l_loadAG hW 3 tyA39 (by kernel_rfl) rfl rfl rfl rfl (by first | rfl | exact kc_len _ | exact kcf_len _ | exact boC_len _ _ | (simp; done)) ?_
        refine l_callRG hW (g_SameBox b sT t hl) en14 ⟨nT.rep.at hW ((List.sublist_append_left BT B2).trans (List.sublist_append_right [_, _, _, _] _)), hP.1.past hW.below⟩ (by kernel_rfl) rfl rfl rfl ?_
        intro W hW
        refine l_val (r_pick (v := .bool _) rfl rfl rfl) rfl rfl ?_
        refine l_val (r_assign (v := .bool _) rfl rfl) rfl rfl ?_
        refine l_end ?_
        refine n_then ?_
        refine c_ret ?_
        refine ret_tmp (v := .bool true) rfl ?_ ⟨rfl, hW.below⟩
        rfl

end Go.Proofs.Ytoegpalacppllaa

/- For every box of at most 100 receivers, every list of at most 100 subsets and every number of fakes: whether the box is valid, the box after a query, and whether it plays, or the errors, by the program are those of the reference, and the box is not changed; no conditions. -/
namespace Go.Proofs.Ytoegpalacppllaa
open Go.RowKit Go.ChangeShapes Go.WideShapes Pl Tr Hn

theorem traceAsks_calls (H : Type) (enc : TypeId × Value → H) (W : World) (base : Nat) (args : Array Value) (ds : List (DataW H)) (ps : List MemPlace) (h : Opened enc Try.prog W Try.f4 base args ds ps) :
    Calls Try.prog 4 args W fun e w' => e = .returned (.bool true) ∧ Below W.heap.size W w' := by
  have r0 := h.args (ts := [39, 40, 3]) (by kernel_rfl)
  generalize hl : args.toList = l0 at r0
  obtain ⟨_, l1, rfl, a0, r1⟩ := r0.cons
  obtain ⟨b, b_s, rfl, b_rd⟩ := a0.box tyBo39
  obtain ⟨_, l2, rfl, a1, r2⟩ := r1.cons
  obtain ⟨l_a, l_n, l_c, l, rfl, l_rd⟩ := a1.subsets Try.underlying40 tyQ112
  obtain ⟨_, l3, rfl, a2, r3⟩ := r2.cons
  obtain ⟨f, rfl, f_lo, f_hi⟩ := a2.int Try.underlying3
  obtain rfl := r3.nil
  rw [arr_of hl]
  exact g_TraceAsks b b_s l_a l_n l_c l f W ⟨b_rd, l_rd⟩
set_option maxRecDepth 100000 in
theorem traceAsks_holds : Rows.TraceAsksSaid :=
  OpenClaim.holds_of_wide 4 Try.f4 rfl rfl rfl rfl rfl rfl rfl ⟨rfl, rfl, rfl, rfl, rfl⟩ rfl rfl rfl rfl rfl (by kernel_rfl) Try.func4 (by kernel_rfl)
    (of_decide_eq_true (by kernel_rfl)) (by unfold Func.isWrapper; first | (rw [if_pos (by decide +kernel)]; kernel_rfl) | (rw [if_neg (by decide +kernel)]; exact ⟨rfl, rfl⟩))
    (fun os started H enc _ => law_lifted (C := Try.checked) (s := Rows.traceAsksSpec) (conds := Rows.traceAsksRow.domain) 4 (by kernel_rfl) (by kernel_rfl) Try.func4 (by kernel_rfl) (by kernel_rfl) rfl
      (fun H ds hd => match ds, hd with | [_, _, _], _ => rfl) (by kernel_rfl) Try.underlying4 traceAsks_calls os started H enc
      (ChangeSpec.witness6 (enc := enc) (C := Try.checked) false ⟨#[], #[.agg #[.int .u8 0, .int .i64 0, .int .i64 0, .int .u64 0, .int .u64 0, .int .u64 0, .slice none 0 0, .int .u8 0, .int .i64 0, .int .i64 0, .int .u8 0, .int .u8 0, .int .u8 0, .int .u8 0, .int .u8 0, .int .u8 0, .int .u8 0, .int .u8 0, .int .u8 0, .int .u8 0, .int .u8 0, .int .u8 0, .int .u8 0, .int .u8 0, .int .u8 0, .int .u8 0, .int .i64 0, .int .i64 0], .slice none 0 0, .int .i64 0], []⟩ 8 (by kernel_rfl) (by kernel_rfl) (by kernel_rfl) (by kernel_rfl)))
#print axioms traceAsks_holds
end Go.Proofs.Ytoegpalacppllaa

