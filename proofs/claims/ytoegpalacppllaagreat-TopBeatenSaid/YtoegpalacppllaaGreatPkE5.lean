/- For every box of at most 100 receivers, every list of at most 100 revoked receivers, every noise that is at least the box's, every root key, session key and receiver: what is sealed for the partition at the end of a trace of the box with the cover opens for the receiver just if it is neither revoked nor named, and for none of the coalition of an immortal box; or an error was told; no conditions. -/
import Derived.Test.YtoegpalacppllaaGreatPkE4
import Derived.Maps.Range
import Derived.Maps.RangeWalk
import Derived.Shelf.SlSortCmp.WholeK
import Derived.Shelf.SlSortCmp.NoneTotal
import Derived.Ground.SlsfProg
import Derived.Test.YtoegpalacppllaaGreatProg
import Derived.WalkKit
import Derived.Test.YtoegpalacppllaaGreatRows
/- Headers, by the program. -/
namespace Go.Proofs.YtoegpalacppllaaGreat
open Go.RowKit Pl
open Tr Hn
theorem bld_hd (k : Kw) : ∀ w, (Instr.build 51 [(4, keyV k)].toArray).run Tryz.prog w = .ok (.agg (hdC Sl.no k).toArray) w := fun _ => by kernel_rfl
theorem bld_it (v x : Int) (k : Kw) : ∀ w, (Instr.build 100 [(0, .agg [.int .i64 v, .int .i64 x].toArray), (1, keyV k)].toArray).run Tryz.prog w = .ok (.agg (it1 ⟨v, x, k⟩).toArray) w := fun _ => by kernel_rfl
theorem bsl_it (i : It) : ∀ w, (Instr.buildSlice 48 1 [(0, .agg (it1 i).toArray)].toArray).run Tryz.prog w = .ok (.slice (some ⟨w.heap.size, 0, none⟩) 1 1) (w.alloc (.cells (it1 i).toArray 100)) := fun _ => by kernel_rfl
/-- the key of a subset, of whole numbers -/
theorem g_pkeyZ (s : Sc) (k : Kw) (v x : Int) (hs : schB s = true) (hsub : subB s v x = true) : Gives Tryz.prog 65 [.agg [.int .u8 s.k, .int .i64 s.d, .int .i64 (strideN s.d : Int)].toArray, keyV k, .agg [.int .i64 v, .int .i64 x].toArray].toArray (keyV (keyN k s v.toNat x.toNat)) := by
 obtain ⟨hx1, hx2, hx3, hx4⟩ := sub_x (schB_iff.1 hs).2.2.2.1 hsub
 obtain ⟨v', rfl⟩ : ∃ n : Nat, v = n := ⟨v.toNat, by omega⟩
 obtain ⟨x', rfl⟩ : ∃ n : Nat, x = n := ⟨x.toNat, by omega⟩
 exact g_pkey s k v' x' (by omega) fun h1 h2 => sub_below hsub h1 (by omega)
set_option maxRecDepth 10000 in
set_option maxHeartbeats 1000000 in
/-- headend/cover.Seal -/
theorem g_Seal (root : Kw) (s : Sc) (ra : Option Addr) (rn rc : Nat) (l : List (Int × Int)) (se : Kw) (hq : l.length ≤ 100) : GivesX Tryz.prog 20 [keyV root, .agg [.int .u8 s.k, .int .i64 s.d, .int .i64 s.g, .int .u64 s.p, .int .u64 s.q, .int .u64 s.r].toArray, .slice ra rn rc, keyV se].toArray (fun w => RdB w ⟨ra, rn, rc⟩ l) (fun u Bs => ∃ (h : Sl) (ck : Kw), u = .tuple #[.agg (hdC h ck).toArray, .int .i64 (sealE s l)] ∧ (sealE s l ≠ 0 → h = Sl.no ∧ ck = (0#64, 0#64)) ∧ (sealE s l = 0 → ck = derive se 53 0 ∧ h.n = l.length ∧ OwnSl 100 18 h.a h.n h.c (itL (sealL root se s l)) Bs)) := by
 refine givesX_of Tryz.func20 rfl (bs := [keyV root, .agg [.int .u8 s.k, .int .i64 s.d, .int .i64 s.g, .int .u64 s.p, .int .u64 s.q, .int .u64 s.r].toArray, .slice ra rn rc, keyV se, undef, undef, undef, undef, undef, undef, undef, undef, undef, undef, undef, undef, undef, undef, undef, undef, undef, undef, undef, undef, undef, undef, undef, undef, undef, undef, undef, undef, undef, undef, undef, undef, undef, undef, undef, undef, undef, undef, undef, undef, undef, undef, undef, undef, undef, undef, undef, undef, undef, undef, undef, undef, undef, undef, undef, undef]) rfl ?_
 intro w hP hW
 have hn : rn = l.length := hP.len
 refine c_seq (c_reg ?_)
 refine xB hW ?_
 intro g1 W hW
 refine xB hW ?_
 intro g2 W hW
 refine xB hW ?_
 intro g3 W hW
 refine l_alloc hW tyZ51 rfl rfl rfl ?_
 intro g4 W hW
 refine bI ?_
 refine l_end (n_then (c_seq (c_seq (c_reg ?_))))
 refine dA hW 2 tyA26 ?_
 refine l_call hW (g_Check _) en68 rfl rfl rfl rfl ?_
 intro W hW
 refine bI ?_
 refine l_end (n_then (c_seq (c_reg ?_)))
 refine aI ?_
 refine l_val (r_neq rfl rfl rfl rfl) rfl rfl ?_
 refine l_split ?_ ?_
 ·intro hc1
  replace hc1 := of_decide_eq_true hc1
  refine l_end (n_then ?_)
  refine c_true rfl ?_
  refine c_seq (c_reg ?_)
  refine l_val (r_build (ps := []) (bld51_) rfl rfl) rfl rfl ?_
  refine aI ?_
  refine sA hW 0 tyA51 ?_
  intro W hW
  refine bI ?_
  refine l_end (n_then (c_ret (r_then ?_)))
  refine ret_cell_tmp hW 0 tyA51 rfl rfl rfl (by first | exact hdC_len _ _ | rfl | (simp; done)) rfl ?_
  have eE : sealE s l = chk s := sealE_s hc1
  exact ⟨_, [], rfl, ⟨Sl.no, (0#64, 0#64), by rw [eE]; rfl, fun _ => ⟨rfl, rfl⟩, fun h => absurd (eE.symm.trans h) hc1⟩, hW.sub (List.nil_sublist _)⟩
 ·intro hc1
  replace hc1 := of_decide_eq_false hc1
  have hs := chk_zero hc1
  refine l_end (n_then ?_)
  refine c_false rfl ?_
  refine c_skip (n_then (c_seq (c_seq (c_reg ?_))))
  refine aS ?_
  refine l_val (r_lenSlice Tryz.underlying33 rfl rfl) rfl rfl ?_
  refine l_val (r_gtrN (n := 64) rfl rfl rfl rfl) rfl rfl ?_
  refine l_split ?_ ?_
  ·intro hc2
   replace hc2 := of_decide_eq_true hc2
   refine l_end (n_then ?_)
   refine c_true rfl ?_
   refine c_seq (c_reg ?_)
   refine l_val (r_build (ps := []) (bld51_) rfl rfl) rfl rfl ?_
   refine sA hW 0 tyA51 ?_
   intro W hW
   refine bI ?_
   refine l_end (n_then (c_ret (r_then ?_)))
   refine ret_cell_tmp hW 0 tyA51 rfl rfl rfl (by first | exact hdC_len _ _ | rfl | (simp; done)) rfl ?_
   have eE : sealE s l = 4 := (sealE_l hc1).trans (subsE_many (by omega))
   exact ⟨_, [], rfl, ⟨Sl.no, (0#64, 0#64), by rw [eE]; rfl, fun _ => ⟨rfl, rfl⟩, fun h => absurd (eE.symm.trans h) (by decide)⟩, hW.sub (List.nil_sublist _)⟩
  ·intro hc2
   replace hc2 := of_decide_eq_false hc2
   refine l_end (n_then ?_)
   refine c_false rfl ?_
   refine c_skip (n_then (c_seq (c_reg ?_)))
   refine dA hW 2 tyA26 ?_
   refine aS ?_
   refine l_callR hW (g_enter s ra rn rc l hs hq) en51 (hP.past hW.below) rfl rfl rfl rfl ?_
   intro W hW
   refine l_val (r_move (v := .tuple _) rfl rfl) rfl rfl ?_
   refine l_val (r_extract (v := .agg _) rfl rfl rfl) rfl rfl ?_
   refine l_val (r_extract (v := .int _ _) rfl rfl rfl) rfl rfl ?_
   refine l_alloc hW tyZ106 rfl rfl rfl ?_
   intro g5 W hW
   refine l_storeA hW 0 tyA106 rfl rfl rfl rfl rfl rfl rfl (entT_len _ _) (entT_one _ _) ?_
   intro W hW
   refine bI ?_
   refine l_end (n_then (c_seq (c_seq (c_reg ?_))))
   refine aI ?_
   refine l_val (r_neq rfl rfl rfl rfl) rfl rfl ?_
   refine l_split ?_ ?_
   ·intro hc3
    replace hc3 := of_decide_eq_true hc3
    refine l_end (n_then ?_)
    refine c_true rfl ?_
    refine c_seq (c_reg ?_)
    refine l_val (r_build (ps := []) (bld51_) rfl rfl) rfl rfl ?_
    refine aI ?_
    refine sA hW 1 tyA51 ?_
    intro W hW
    refine bI ?_
    refine l_end (n_then (c_ret (r_then ?_)))
    refine ret_cell_tmp hW 1 tyA51 rfl rfl rfl (by first | exact hdC_len _ _ | rfl | (simp; done)) rfl ?_
    have eE : sealE s l = entE s l := by rw [sealE_l hc1, subsE, if_neg (by omega)]; rfl
    exact ⟨_, [], rfl, ⟨Sl.no, (0#64, 0#64), by rw [eE]; rfl, fun _ => ⟨rfl, rfl⟩, fun h => absurd (eE.symm.trans h) hc3⟩, hW.sub (List.nil_sublist _)⟩
   ·intro hc3
    replace hc3 := of_decide_eq_false hc3
    have hent0 : entE s l = 0 := by omega
    replace hW := (show Cl _ (⟨_, entT s l, _⟩ :: _) _ from hW)
    rw [entT_yes hent0] at hW
    have hsb : ∀ i, i < l.length → subB s (qn l i) (qm l i) = true := fun i hi => by
     cases hb : subB s (qn l i) (qm l i) with
     | true => rfl
     | false => rw [entE_no hi hb] at hent0; exact absurd hent0 (by decide)
    refine l_end (n_then ?_)
    refine c_false rfl ?_
    refine c_skip (n_then (c_seq (c_reg ?_)))
    refine dA hW 2 tyA29 ?_
    refine l_call hW (g_Derive se 53 0) en50 rfl rfl rfl rfl ?_
    intro W hW
    refine l_val (r_build (ps := [(4, .agg _)]) (bld_hd _) rfl rfl) rfl rfl ?_
    refine l_alloc hW tyZ51 rfl rfl rfl ?_
    intro g6 W hW
    refine l_storeA hW 0 tyA51 rfl rfl rfl rfl rfl rfl rfl (hdC_len _ _) (hdC_one _ _) ?_
    intro W hW
    refine l_end (n_then (c_seq (c_seq (c_reg ?_))))
    refine aS ?_
    refine l_val (r_lenSlice Tryz.underlying33 rfl rfl) rfl rfl ?_
    refine aI ?_
    refine l_end (n_then (c_block ?_))
    refine c_loop (fun (z : Nat × Option Addr × Nat × List Blk) (j : Nat → Value) => [keyV root, .agg [.int .u8 s.k, .int .i64 s.d, .int .i64 s.g, .int .u64 s.p, .int .u64 s.q, .int .u64 s.r].toArray, .slice ra rn rc, keyV se, .pointer (some ⟨g1, 0, none⟩), .pointer (some ⟨g2, 0, none⟩), j 6, .pointer (some ⟨g3, 0, none⟩), .pointer (some ⟨g4, 0, none⟩), .int .i64 0, .int .i64 (chk s), .pointer (some ⟨g5, 0, none⟩), .int .i64 (entE s l), .pointer (some ⟨g6, 0, none⟩), j 14, j 15, .agg ([.int .u8 s.k, .int .i64 s.d, .int .i64 s.g, .int .u64 s.p, .int .u64 s.q, .int .u64 s.r]).toArray, .int .i64 (chk s), .int .i64 (chk s), .bool false, j 20, j 21, .slice ra rn rc, .int .i64 (rn : Int), .bool false, j 25, .tuple #[.agg (entT s l).toArray, .int .i64 (entE s l)], .agg ([.int .u8 s.k, .int .i64 s.d, .int .i64 s.g, .int .u64 s.p, .int .u64 s.q, .int .u64 s.r]).toArray, .slice ra rn rc, .tuple #[.agg (entT s l).toArray, .int .i64 (entE s l)], .agg (entT s l).toArray, .int .i64 (entE s l), .int .i64 (entE s l), .bool false, j 34, j 35, .agg (kc se).toArray, j 37, .agg (hdC Sl.no (derive se 53 0)).toArray, .slice ra rn rc, .int .i64 (rn : Int), .int .i64 (z.1 : Int), j 42, j 43, j 44, j 45, j 46, j 47, j 48, j 49, j 50, j 51, j 52, j 53, j 54, j 55, j 56, j 57, j 58, j 59]) (fun (z : Nat × Option Addr × Nat × List Blk) => [⟨g6, (hdC ⟨z.2.1, z.1, z.2.2.1⟩ (derive se 53 0)), 51⟩, ⟨g5, [.int .u8 s.k, .int .i64 s.d, .int .i64 (strideN s.d : Int)], 106⟩, ⟨g4, z51, 51⟩, ⟨g3, kc se, 29⟩, ⟨g2, [.int .u8 s.k, .int .i64 s.d, .int .i64 s.g, .int .u64 s.p, .int .u64 s.q, .int .u64 s.r], 26⟩, ⟨g1, kc root, 29⟩] ++ z.2.2.2) (fun (z : Nat × Option Addr × Nat × List Blk) => z.1 ≤ rn ∧ OwnSl 100 18 z.2.1 z.1 z.2.2.1 (itL (sealL root se s (l.take z.1))) z.2.2.2) (fun (z : Nat × Option Addr × Nat × List Blk) => rn - z.1) (0, none, 0, []) (by kernel_rfl) (by simpa using hW) ⟨Nat.zero_le _, OwnSl.nil 100 18⟩ ?_
    intro z j W hx hW
    obtain ⟨hz, hO⟩ := hx
    refine c_seq (c_reg ?_)
    refine l_val (r_lssN rfl rfl rfl rfl) rfl rfl ?_
    refine l_split ?_ ?_
    ·intro hc4
     replace hc4 := of_decide_eq_true hc4
     obtain ⟨b0, o0, ha, hc⟩ := hP.ptr (by omega)
     refine l_end (n_then (c_seq ?_))
     refine c_true rfl ?_
     refine c_skip (n_then (c_seq (c_block (c_seq (c_reg ?_)))))
     refine l_val (r_indexAddrSlB (n := z.1) Tryz.underlying33 tyA64.size rfl (congrArg (fun a => Value.slice a rn rc) ha) rfl (by omega)) rfl rfl ?_
     refine l_loadF2 hW tyA64 (hc z.1 (by omega)).1 (hc z.1 (by omega)).2 rfl rfl rfl rfl ?_
     refine l_alloc hW tyZ64 rfl rfl rfl ?_
     intro g7 W hW
     refine sA hW 0 tyA64 ?_
     intro W hW
     refine l_end (n_then ?_)
     refine c_regM hW [] [.q, .q, .q, .q, .q, .q, .q, .q, .q, .q, .mk 0, .tail, .tail, .tail] [⟨55, bslX 100 1⟩] [it1 (sealI root se s (qn l z.1, qm l z.1))] [10] [0, 1, 0, 0, 0, 0, 56, 0, 248, 508, 1020, 2047, 4095, 8191] (by kernel_rfl) (by kernel_rfl) rfl (by kernel_rfl) ?_
     refine y_val (r_fieldAddr 0 Tryz.underlying51 rfl tyC48.size rfl rfl rfl) rfl rfl ?_
     refine y_loadC 1 tyC48 rfl rfl rfl rfl rfl rfl (by decide) ?_
     refine y_loadA 0 tyA64 rfl rfl rfl rfl rfl (by first | rfl | exact kc_len _ | exact kcf_len _ | exact boC_len _ _ | (simp; done)) (by decide) ?_
     refine y_loadA 2 tyA106 rfl rfl rfl rfl rfl (by first | rfl | exact kc_len _ | exact kcf_len _ | exact boC_len _ _ | (simp; done)) (by decide) ?_
     refine y_loadA 6 tyA29 rfl rfl rfl rfl rfl (by first | rfl | exact kc_len _ | exact kcf_len _ | exact boC_len _ _ | (simp; done)) (by decide) ?_
     refine y_loadA 0 tyA64 rfl rfl rfl rfl rfl (by first | rfl | exact kc_len _ | exact kcf_len _ | exact boC_len _ _ | (simp; done)) (by decide) ?_
     refine y_call (g_pkeyZ s root (qn l z.1) (qm l z.1) hs (hsb z.1 (by omega))) en65 rfl rfl rfl rfl ?_
     refine y_loadA 4 tyA29 rfl rfl rfl rfl rfl (by first | rfl | exact kc_len _ | exact kcf_len _ | exact boC_len _ _ | (simp; done)) (by decide) ?_
     refine y_call (g_Encrypt (keyN root s (qn l z.1).toNat (qm l z.1).toNat) se) en69 rfl rfl rfl rfl ?_
     refine y_val (r_build (ps := [(0, .agg _), (1, .agg _)]) (bld_it _ _ _) rfl rfl) rfl rfl ?_
     refine y_buildSliceF 0 (bsl_it _) rfl rfl rfl rfl ?_
     refine y_tail ?_
     refine y_made ?_
     rintro _ _ ⟨gs, rfl, rfl⟩
     intro W hW
     refine l_appendB tyE48 (L := [_, _, _, _, _, _, _, _]) hO hW 0 (N := z.1 + 1) rfl rfl rfl rfl rfl rfl rfl (it1_len _) (it1_one _) (by unfold maxLen; omega) (by omega) ?_
     intro a1 c1 Bs1 W hO1 hW
     replace hO1 := hO1.castx rfl (xs' := itL (sealL root se s (l.take (z.1 + 1)))) (by rw [sealL_take (by omega), itL_append]; simp [itL])
     refine l_val (r_fieldAddr 0 Tryz.underlying51 rfl tyC48.size rfl rfl rfl) rfl rfl ?_
     refine l_storeC hW 2 tyC48 (v := .slice a1 (z.1 + 1) c1) rfl rfl rfl rfl rfl rfl (by rw [hdC_len]; decide) rfl ?_
     intro W hW
     refine l_end (n_block (n_then (c_reg ?_)))
     refine l_val (r_addN (n := 1) rfl rfl rfl (by omega)) rfl rfl ?_
     refine aI ?_
     refine l_end (n_then ?_)
     exact loop_next (z.1 + 1, a1, c1, Bs1) (by kernel_rfl) (hW.drop 2) ⟨by simp only; omega, hO1⟩ (by simp only; omega)
    ·intro hc4
     replace hc4 := of_decide_eq_false hc4
     refine l_end (n_then (c_seq ?_))
     refine c_false rfl ?_
     refine c_exit (x_then (x_then ?_))
     refine x_hit ?_
     refine n_then (c_seq (c_reg ?_))
     refine l_loadA hW 0 tyA51 rfl rfl rfl rfl rfl (hdC_len _ _) ?_
     refine l_storeA hW 2 tyA51 rfl rfl rfl rfl rfl rfl rfl (hdC_len _ _) (hdC_one _ _) ?_
     intro W hW
     refine bI ?_
     refine l_end (n_then (c_ret ?_))
     refine ret_cell_tmp hW 2 tyA51 rfl rfl rfl (by first | exact hdC_len _ _ | rfl | (simp; done)) rfl ?_
     have eE : sealE s l = 0 := by rw [sealE_l hc1, subsE, if_neg (by omega)]; exact hent0
     have ez : z.1 = l.length := by omega
     rw [ez, List.take_of_length_le (Nat.le_refl _)] at hO
     exact ⟨_, z.2.2.2, rfl, ⟨⟨z.2.1, z.1, z.2.2.1⟩, derive se 53 0, by rw [eE]; rfl, fun h => absurd eE h, fun _ => ⟨rfl, ez, by rw [ez]; exact hO⟩⟩, (show Cl _ ([_, _, _, _, _, _] ++ z.2.2.2) _ from hW).sub (List.sublist_append_right _ _)⟩

end Go.Proofs.YtoegpalacppllaaGreat

/- What a receiver is handed: its labels, each with a key. No function of the program is in sight here. -/
namespace Go.Proofs.YtoegpalacppllaaGreat.Tr
open Hn
def labK (k : Pl.Kw) (s : Sc) (n m : Nat) : Pl.Kw := if m = 0 then keyN k s n 0 else descK (Pl.derive k 30 (BitVec.ofNat 64 n)) n m
def labI (k : Pl.Kw) (s : Sc) (q : Int × Int) : It := ⟨q.1, q.2, labK k s q.1.toNat q.2.toNat⟩
/-- the first labels -/
def labL (k : Pl.Kw) (s : Sc) (u n : Nat) : List It := ((labN s u).take n).map (labI k s)
theorem labL_succ {k : Pl.Kw} {s : Sc} {u i : Nat} (hi : i < (labN s u).length) : labL k s u (i + 1) = labL k s u i ++ [labI k s (qn (labN s u) i, qm (labN s u) i)] := by
  have e : (labN s u)[i] = (qn (labN s u) i, qm (labN s u) i) := by simp [qn, qm, List.getD_eq_getElem?_getD, hi]
  rw [labL, List.take_succ_eq_append_getElem hi, List.map_append, e]; rfl
theorem labK_n {k : Pl.Kw} {s : Sc} {n m : Nat} (h : m ≠ 0) : labK k s n m = descK (Pl.derive k 30 (BitVec.ofNat 64 n)) n m := if_neg h
theorem lab_facts {s : Sc} {u : Nat} (hs : schB s = true) (hu : u < p2 s.d.toNat) {i : Nat} (hi : i < (labN s u).length) : ∃ n m : Nat, qn (labN s u) i = (n : Int) ∧ qm (labN s u) i = (m : Int) ∧ 0 < n ∧ n < 128 ∧ m < 128 ∧ (m ≠ 0 → belowN m n = true) := by
  obtain ⟨k1, k3, d0, d6, -⟩ := schB_iff.1 hs
  have hp := p2_le (n := s.d.toNat) (by omega)
  have hp0 := p2_pos s.d.toNat
  have hm := q_mem.2 ⟨i, hi, rfl⟩
  generalize hz : (qn (labN s u) i, qm (labN s u) i) = z at hm
  have e1 : qn (labN s u) i = z.1 := by rw [← hz]
  have e2 : qm (labN s u) i = z.2 := by rw [← hz]
  rw [e1, e2]
  have hly : lev (p2 s.d.toNat + u) = s.d.toNat := leaf_lev hu
  have hpn : ∀ j, 0 < pn s.d.toNat (p2 s.d.toNat + u) j ∧ pn s.d.toNat (p2 s.d.toNat + u) j < 128 := fun j => by
    have h1 := sh_le (p2 s.d.toNat + u) (s.d.toNat - j)
    have h2 : 0 < sh (p2 s.d.toNat + u) (s.d.toNat - j) := sh_pos (by omega) (by omega) (by omega)
    exact ⟨h2, by show sh _ _ < 128; omega⟩
  unfold labN at hm
  split at hm
  · obtain ⟨j, -, rfl⟩ := mem_lab1.1 hm
    exact ⟨_, 0, rfl, rfl, (hpn j).1, (hpn j).2, by decide, fun h => absurd rfl h⟩
  · next hk =>
    rcases mem_labs.1 hm with rfl | ⟨j, k, -, -, -, h4⟩
    · exact ⟨1, 0, rfl, rfl, by decide, by decide, by decide, fun h => absurd rfl h⟩
    · unfold labE at h4
      split at h4
      · next hsub =>
        rw [List.mem_singleton] at h4
        subst h4
        refine ⟨_, _, rfl, rfl, (hpn j).1, (hpn j).2, (sib_all (hpn k).2).2.1, fun h => ?_⟩
        exact sub_below hsub hk (by omega)
      · cases h4
/-- the error -/
def secE (s : Sc) (u : Int) : Int := if schB s = false then 30 else if 0 ≤ u ∧ u < ((p2 s.d.toNat : Nat) : Int) then 0 else 2
end Go.Proofs.YtoegpalacppllaaGreat.Tr
namespace Go.Proofs.YtoegpalacppllaaGreat
open Go.RowKit Pl Tr Hn
theorem perm_in2 {A B X L : List Blk} : ((A ++ (B ++ X)) ++ L).Perm (((A ++ B) ++ L) ++ X) := by
  rw [List.append_assoc, List.append_assoc, List.append_assoc, List.append_assoc]
  exact List.Perm.append_left _ (List.Perm.append_left _ List.perm_append_comm)
/-- a label whose key is not set -/
def lb0 (v x : Int) : List Value := [.int .i64 v, .int .i64 x, .int .u8 0, .int .u8 0, .int .u8 0, .int .u8 0, .int .u8 0, .int .u8 0, .int .u8 0, .int .u8 0, .int .u8 0, .int .u8 0, .int .u8 0, .int .u8 0, .int .u8 0, .int .u8 0, .int .u8 0, .int .u8 0]
theorem lb0_len (v x : Int) : 2 + 16 ≤ (lb0 v x).length := Nat.le_refl 18
theorem lb0_put (v x : Int) (k : Kw) : ((lb0 v x).take 2 ++ kc k) ++ (lb0 v x).drop (2 + 16) = it1 ⟨v, x, k⟩ := by
  rw [show (lb0 v x).drop (2 + 16) = [] from rfl, List.append_nil]; rfl
end Go.Proofs.YtoegpalacppllaaGreat

/- What a receiver is handed. -/
namespace Go.Proofs.YtoegpalacppllaaGreat
open Go.RowKit Pl
open Tr Hn
theorem bsl_lab (i : It) : ∀ w, (Instr.buildSlice 41 1 [(0, .agg (it1 i).toArray)].toArray).run Tryz.prog w = .ok (.slice (some ⟨w.heap.size, 0, none⟩) 1 1) (w.alloc (.cells (it1 i).toArray 130)) := fun _ => by kernel_rfl
/-- a key of a node, or of all -/
theorem g_labkey (s : Sc) (k : Kw) (v : Int) (hv : 0 ≤ v) : Gives Tryz.prog 65 [.agg [.int .u8 s.k, .int .i64 s.d, .int .i64 (strideN s.d : Int)].toArray, keyV k, .agg [.int .i64 v, .int .i64 0].toArray].toArray (keyV (labK k s v.toNat 0)) := by
 obtain ⟨n, rfl⟩ : ∃ n : Nat, v = n := ⟨v.toNat, by omega⟩
 exact g_pkey s k n 0 (by omega) fun _ h => absurd rfl h
theorem g_nodeKeyZ (k : Kw) (v : Int) (hv : 0 ≤ v) : Gives Tryz.prog 67 [keyV k, .int .i64 v].toArray (keyV (derive k 30 (BitVec.ofNat 64 v.toNat))) := by
 obtain ⟨n, rfl⟩ : ∃ n : Nat, v = n := ⟨v.toNat, by omega⟩
 exact g_nodeKey k n
theorem g_descendZ (k : Kw) (v y : Int) (hv : 0 ≤ v) (h0 : 0 < y) (hy : y < 128) (hb : belowN y.toNat v.toNat = true) : Gives Tryz.prog 66 [keyV k, .int .i64 v, .int .i64 y].toArray (keyV (descK k v.toNat y.toNat)) := by
 obtain ⟨n, rfl⟩ : ∃ n : Nat, v = n := ⟨v.toNat, by omega⟩
 obtain ⟨m, rfl⟩ : ∃ m : Nat, y = m := ⟨y.toNat, by omega⟩
 exact g_descend k n m (by omega) (by omega) hb
set_option maxRecDepth 10000 in
/-- headend/cover.Secret -/
theorem g_SecretN (root : Kw) (s : Sc) (u : Int) (hs : schB s = false) : GivesX Tryz.prog 19 [keyV root, .agg [.int .u8 s.k, .int .i64 s.d, .int .i64 s.g, .int .u64 s.p, .int .u64 s.q, .int .u64 s.r].toArray, .int .i64 u].toArray (fun _ => True) (fun v Bs => ∃ (h : Sl) (x : Int), v = .tuple #[.agg [.int .i64 x, h.v, .int .u64 0, .int .u64 0].toArray, .int .i64 (secE s u)] ∧ (secE s u = 0 → x = u ∧ h.n = (labN s u.toNat).length ∧ OwnSl 130 18 h.a h.n h.c (itL (labL root s u.toNat (labN s u.toNat).length)) Bs)) := by
 refine givesX_of Tryz.func19 rfl (bs := [keyV root, .agg [.int .u8 s.k, .int .i64 s.d, .int .i64 s.g, .int .u64 s.p, .int .u64 s.q, .int .u64 s.r].toArray, .int .i64 u, undef, undef, undef, undef, undef, undef, undef, undef, undef, undef, undef, undef, undef, undef, undef, undef, undef, undef, undef, undef, undef, undef, undef, undef, undef, undef, undef, undef, undef, undef, undef, undef, undef, undef, undef, undef, undef, undef, undef, undef, undef, undef, undef, undef, undef, undef, undef, undef, undef, undef, undef, undef, undef, undef, undef, undef, undef, undef]) rfl ?_
 intro w hP hW
 refine c_seq (c_reg ?_)
 refine xB hW ?_
 intro g1 W hW
 refine xB hW ?_
 intro g2 W hW
 refine l_alloc hW tyZ45 rfl rfl rfl ?_
 intro g3 W hW
 refine bI ?_
 refine l_end (n_then (c_seq (c_reg ?_)))
 refine dA hW 1 tyA26 ?_
 refine l_callR hW (g_enterX s none 0 0 [] hs) en51 ⟨Sl.Ok.no, rfl, Rd.nil _ _⟩ rfl rfl rfl rfl ?_
 intro W hW
 refine l_val (r_move (v := .tuple _) rfl rfl) rfl rfl ?_
 refine l_val (r_extract (v := .agg _) rfl rfl rfl) rfl rfl ?_
 refine l_val (r_extract (v := .int _ _) rfl rfl rfl) rfl rfl ?_
 refine l_alloc hW tyZ106 rfl rfl rfl ?_
 intro g4 W hW
 refine sA hW 0 tyA106 ?_
 intro W hW
 refine bI ?_
 refine l_end (n_then (c_seq (c_seq (c_reg ?_))))
 refine aI ?_
 refine l_val (r_neq (b := true) rfl rfl rfl (by decide)) rfl rfl ?_
 refine l_end (n_then ?_)
 refine c_true rfl ?_
 refine c_seq (c_reg ?_)
 refine l_val (r_build (ps := []) (bld45_) rfl rfl) rfl rfl ?_
 refine aI ?_
 refine sA hW 1 tyA45 ?_
 intro W hW
 refine bI ?_
 refine l_end (n_then (c_ret (r_then ?_)))
 refine rT hW 1 tyA45 ?_
 have e : secE s u = 30 := if_pos hs
 exact ⟨_, [], rfl, ⟨Sl.no, 0, by rw [e]; rfl, fun h => by rw [e] at h; cases h⟩, hW.sub (List.nil_sublist _)⟩

set_option maxRecDepth 10000 in
/-- headend/cover.Secret -/
theorem g_SecretR (root : Kw) (s : Sc) (u : Int) (hs : schB s = true) (hu : ¬ (0 ≤ u ∧ u < ((p2 s.d.toNat : Nat) : Int))) : GivesX Tryz.prog 19 [keyV root, .agg [.int .u8 s.k, .int .i64 s.d, .int .i64 s.g, .int .u64 s.p, .int .u64 s.q, .int .u64 s.r].toArray, .int .i64 u].toArray (fun _ => True) (fun v Bs => ∃ (h : Sl) (x : Int), v = .tuple #[.agg [.int .i64 x, h.v, .int .u64 0, .int .u64 0].toArray, .int .i64 (secE s u)] ∧ (secE s u = 0 → x = u ∧ h.n = (labN s u.toNat).length ∧ OwnSl 130 18 h.a h.n h.c (itL (labL root s u.toNat (labN s u.toNat).length)) Bs)) := by
 refine givesX_of Tryz.func19 rfl (bs := [keyV root, .agg [.int .u8 s.k, .int .i64 s.d, .int .i64 s.g, .int .u64 s.p, .int .u64 s.q, .int .u64 s.r].toArray, .int .i64 u, undef, undef, undef, undef, undef, undef, undef, undef, undef, undef, undef, undef, undef, undef, undef, undef, undef, undef, undef, undef, undef, undef, undef, undef, undef, undef, undef, undef, undef, undef, undef, undef, undef, undef, undef, undef, undef, undef, undef, undef, undef, undef, undef, undef, undef, undef, undef, undef, undef, undef, undef, undef, undef, undef, undef, undef, undef, undef]) rfl ?_
 intro w hP hW
 obtain ⟨k1, k3, d0, d6, -⟩ := schB_iff.1 hs
 refine c_seq (c_reg ?_)
 refine xB hW ?_
 intro g1 W hW
 refine xB hW ?_
 intro g2 W hW
 refine l_alloc hW tyZ45 rfl rfl rfl ?_
 intro g3 W hW
 refine bI ?_
 refine l_end (n_then (c_seq (c_reg ?_)))
 refine dA hW 1 tyA26 ?_
 refine l_callR hW (g_enter s none 0 0 [] hs (by simp)) en51 ⟨Sl.Ok.no, rfl, Rd.nil _ _⟩ rfl rfl rfl rfl ?_
 intro W hW
 have he0 : entE s [] = 0 := entE_yes fun i hi => absurd hi (Nat.not_lt_zero i)
 rw [he0, entT_yes he0]
 refine l_val (r_move (v := .tuple _) rfl rfl) rfl rfl ?_
 refine l_val (r_extract (v := .agg _) rfl rfl rfl) rfl rfl ?_
 refine l_val (r_extract (v := .int _ _) rfl rfl rfl) rfl rfl ?_
 refine l_alloc hW tyZ106 rfl rfl rfl ?_
 intro g4 W hW
 refine sA hW 0 tyA106 ?_
 intro W hW
 refine bI ?_
 refine l_end (n_then (c_seq (c_seq (c_reg ?_))))
 refine aI ?_
 refine l_val (r_neq (b := false) rfl rfl rfl (by decide)) rfl rfl ?_
 refine l_end (n_then ?_)
 refine c_false rfl ?_
 refine c_skip (n_then (c_seq (c_seq (c_reg ?_))))
 refine dA hW 0 tyA106 ?_
 refine aI ?_
 refine l_call hW (g_preceiver s u d0 d6) en63 rfl rfl rfl rfl ?_
 intro W hW
 rw [decide_eq_false hu]
 refine l_val (r_not rfl rfl) rfl rfl ?_
 refine l_end (n_then ?_)
 refine c_true rfl ?_
 refine c_seq (c_reg ?_)
 refine l_val (r_build (ps := []) (bld45_) rfl rfl) rfl rfl ?_
 refine sA hW 1 tyA45 ?_
 intro W hW
 refine bI ?_
 refine l_end (n_then (c_ret (r_then ?_)))
 refine rT hW 1 tyA45 ?_
 have e : secE s u = 2 := by rw [secE, if_neg (by rw [hs]; decide), if_neg hu]
 exact ⟨_, [], rfl, ⟨Sl.no, 0, by rw [e]; rfl, fun h => by rw [e] at h; cases h⟩, hW.sub (List.nil_sublist _)⟩

set_option maxRecDepth 10000 in
/-- headend/cover.Secret -/
theorem g_SecretY (root : Kw) (s : Sc) (u : Nat) (hs : schB s = true) (hu : u < p2 s.d.toNat) : GivesX Tryz.prog 19 [keyV root, .agg [.int .u8 s.k, .int .i64 s.d, .int .i64 s.g, .int .u64 s.p, .int .u64 s.q, .int .u64 s.r].toArray, .int .i64 (u : Int)].toArray (fun _ => True) (fun v Bs => ∃ a c, v = .tuple #[.agg [.int .i64 (u : Int), .slice a (labN s u).length c, .int .u64 0, .int .u64 0].toArray, .int .i64 0] ∧ OwnSl 130 18 a (labN s u).length c (itL (labL root s u (labN s u).length)) Bs) := by
 refine givesXM_of Tryz.func19 rfl (bs := [keyV root, .agg [.int .u8 s.k, .int .i64 s.d, .int .i64 s.g, .int .u64 s.p, .int .u64 s.q, .int .u64 s.r].toArray, .int .i64 (u : Int), undef, undef, undef, undef, undef, undef, undef, undef, undef, undef, undef, undef, undef, undef, undef, undef, undef, undef, undef, undef, undef, undef, undef, undef, undef, undef, undef, undef, undef, undef, undef, undef, undef, undef, undef, undef, undef, undef, undef, undef, undef, undef, undef, undef, undef, undef, undef, undef, undef, undef, undef, undef, undef, undef, undef, undef, undef, undef]) rfl ?_
 intro w hP hW
 have hM : MkOk w w w [] := MkOk.nil
 obtain ⟨k1, k3, d0, d6, -⟩ := schB_iff.1 hs
 have hlen := lab_len (u := u) hs
 refine c_seq (c_reg ?_)
 refine xB hW ?_
 intro g1 W hW
 refine xB hW ?_
 intro g2 W hW
 refine l_alloc hW tyZ45 rfl rfl rfl ?_
 intro g3 W hW
 refine bI ?_
 refine l_end (n_then (c_seq (c_reg ?_)))
 refine dA hW 1 tyA26 ?_
 refine l_callR hW (g_enter s none 0 0 [] hs (by simp)) en51 ⟨Sl.Ok.no, rfl, Rd.nil _ _⟩ rfl rfl rfl rfl ?_
 intro W hW
 have he0 : entE s [] = 0 := entE_yes fun i hi => absurd hi (Nat.not_lt_zero i)
 rw [he0, entT_yes he0]
 refine l_val (r_move (v := .tuple _) rfl rfl) rfl rfl ?_
 refine l_val (r_extract (v := .agg _) rfl rfl rfl) rfl rfl ?_
 refine l_val (r_extract (v := .int _ _) rfl rfl rfl) rfl rfl ?_
 refine l_alloc hW tyZ106 rfl rfl rfl ?_
 intro g4 W hW
 refine sA hW 0 tyA106 ?_
 intro W hW
 refine bI ?_
 refine l_end (n_then (c_seq (c_seq (c_reg ?_))))
 refine aI ?_
 refine l_val (r_neq (b := false) rfl rfl rfl (by decide)) rfl rfl ?_
 refine l_end (n_then ?_)
 refine c_false rfl ?_
 refine c_skip (n_then (c_seq (c_seq (c_reg ?_))))
 refine dA hW 0 tyA106 ?_
 refine aI ?_
 refine l_call hW (g_preceiver s u d0 d6) en63 rfl rfl rfl rfl ?_
 intro W hW
 rw [decide_eq_true (show 0 ≤ (u : Int) ∧ (u : Int) < ((p2 s.d.toNat : Nat) : Int) by omega)]
 refine l_val (r_not rfl rfl) rfl rfl ?_
 refine l_end (n_then ?_)
 refine c_false rfl ?_
 refine c_skip (n_then (c_seq (c_reg ?_)))
 refine aI ?_
 refine l_val (r_build (ps := [(0, .int _ _)]) (bld45_0 _) rfl rfl) rfl rfl ?_
 refine l_alloc hW tyZ45 rfl rfl rfl ?_
 intro g5 W hW
 refine sA hW 0 tyA45 ?_
 intro W hW
 refine l_end (n_then (c_seq (c_seq (c_reg ?_))))
 refine dA hW 1 tyA106 ?_
 refine aI ?_
 refine l_callX hW (g_plabels s u) en64 trivial rfl rfl rfl rfl ?_
 rintro _ Bs1 W ⟨ga1, gb1, rfl, rfl⟩ hW
 replace hW := hW.perm List.perm_append_comm
 refine l_end (n_then (c_block ?_))
 refine c_rangeU (u_labels s u ga1 gb1 hs hu) en109 rfl (fun _ => rfl) hM (S := fun _ => none) Sup.none (fun _ => true) (fun i L => ∃ a c Bs, OwnSl 130 18 a i c (itL (labL root s u i)) Bs ∧ L = [⟨g5, [.int .i64 (u : Int), .slice a i c, .int .u64 0, .int .u64 0], 45⟩, ⟨g4, [.int .u8 s.k, .int .i64 s.d, .int .i64 (strideN s.d : Int)], 106⟩, ⟨g3, z45, 45⟩, ⟨g2, [.int .u8 s.k, .int .i64 s.d, .int .i64 s.g, .int .u64 s.p, .int .u64 s.q, .int .u64 s.r], 26⟩, ⟨g1, kc root, 29⟩] ++ Bs) (fun _ => False) ⟨none, 0, [], OwnSl.nil 130 18, rfl⟩ hW (fun (i : Nat) => fr [keyV root, .agg [.int .u8 s.k, .int .i64 s.d, .int .i64 s.g, .int .u64 s.p, .int .u64 s.q, .int .u64 s.r].toArray, .int .i64 (u : Int), .pointer (some ⟨g1, 0, none⟩), .pointer (some ⟨g2, 0, none⟩), undef, .pointer (some ⟨g3, 0, none⟩), .int .i64 0, .pointer (some ⟨g4, 0, none⟩), .int .i64 0, .pointer (some ⟨g5, 0, none⟩), .int .i64 (qn (labN s u) i), .int .i64 (qm (labN s u) i), undef, .tuple #[.agg [.int .u8 s.k, .int .i64 s.d, .int .i64 (strideN s.d : Int)].toArray, .int .i64 0], .agg ([.int .u8 s.k, .int .i64 s.d, .int .i64 s.g, .int .u64 s.p, .int .u64 s.q, .int .u64 s.r]).toArray, .tuple #[.agg [.int .u8 s.k, .int .i64 s.d, .int .i64 (strideN s.d : Int)].toArray, .int .i64 0], .agg [.int .u8 s.k, .int .i64 s.d, .int .i64 (strideN s.d : Int)].toArray, .int .i64 0, .int .i64 0, .bool false, undef, undef, .agg ([.int .u8 s.k, .int .i64 s.d, .int .i64 (strideN s.d : Int)]).toArray, .int .i64 (u : Int), .bool true, .bool false, undef, .int .i64 (u : Int), .agg ([.int .i64 (u : Int), .slice none 0 0, .int .u64 0, .int .u64 0]).toArray, .agg ([.int .u8 s.k, .int .i64 s.d, .int .i64 (strideN s.d : Int)]).toArray, .int .i64 (u : Int), .func (.func 109) #[] #[.pointer (some ⟨ga1, 0, none⟩), .pointer (some ⟨gb1, 0, none⟩)], .int .i64 (qn (labN s u) i), .int .i64 (qm (labN s u) i), undef, undef, undef, undef, undef, undef, undef, undef, undef, undef, undef, undef, undef, undef, undef, undef, undef, undef, undef, undef, undef, undef, undef, undef, undef, undef] [] []) (fun (i : Nat) => [keyV root, .agg [.int .u8 s.k, .int .i64 s.d, .int .i64 s.g, .int .u64 s.p, .int .u64 s.q, .int .u64 s.r].toArray, .int .i64 (u : Int), .pointer (some ⟨g1, 0, none⟩), .pointer (some ⟨g2, 0, none⟩), undef, .pointer (some ⟨g3, 0, none⟩), .int .i64 0, .pointer (some ⟨g4, 0, none⟩), .int .i64 0, .pointer (some ⟨g5, 0, none⟩), undef, undef, undef, .tuple #[.agg [.int .u8 s.k, .int .i64 s.d, .int .i64 (strideN s.d : Int)].toArray, .int .i64 0], .agg ([.int .u8 s.k, .int .i64 s.d, .int .i64 s.g, .int .u64 s.p, .int .u64 s.q, .int .u64 s.r]).toArray, .tuple #[.agg [.int .u8 s.k, .int .i64 s.d, .int .i64 (strideN s.d : Int)].toArray, .int .i64 0], .agg [.int .u8 s.k, .int .i64 s.d, .int .i64 (strideN s.d : Int)].toArray, .int .i64 0, .int .i64 0, .bool false, undef, undef, .agg ([.int .u8 s.k, .int .i64 s.d, .int .i64 (strideN s.d : Int)]).toArray, .int .i64 (u : Int), .bool true, .bool false, undef, .int .i64 (u : Int), .agg ([.int .i64 (u : Int), .slice none 0 0, .int .u64 0, .int .u64 0]).toArray, .agg ([.int .u8 s.k, .int .i64 s.d, .int .i64 (strideN s.d : Int)]).toArray, .int .i64 (u : Int), .func (.func 109) #[] #[.pointer (some ⟨ga1, 0, none⟩), .pointer (some ⟨gb1, 0, none⟩)], .int .i64 (qn (labN s u) i), .int .i64 (qm (labN s u) i), undef, undef, undef, undef, undef, undef, undef, undef, undef, undef, undef, undef, undef, undef, undef, undef, undef, undef, undef, undef, undef, undef, undef, undef, undef, undef]) (fun _ => by kernel_rfl) ?_ ?_ ?_ ?_
 ·intro l i W
  refine c_seq (c_reg ?_)
  refine bI ?_
  refine l_end (n_then (c_reg ?_))
  refine bI ?_
  refine l_end ?_
  refine n_then ⟨?_, rfl⟩
  exact congrArg (fun x => (fr x [] [] : Act)) (by kernel_rfl)
 ·intro lq rq i L Lc W he hi hc hJ hW
  obtain ⟨a0, c0, Bs0, hO, rfl⟩ := hJ
  obtain ⟨n1, m1, e1, e2, f1, f2, f3, f4⟩ := lab_facts hs hu hi
  replace hW := (show Cl _ ((_ ++ (_ ++ _)) ++ _) _ from hW).perm perm_in2
  refine c_block (c_seq (c_reg ?_))
  refine aI ?_
  refine aI ?_
  refine l_val (r_build (ps := [(0, .int _ _), (1, .int _ _)]) (bld130_0_1 _ _) rfl rfl) rfl rfl ?_
  refine l_alloc hW tyZ130 rfl rfl rfl ?_
  intro g6 W hW
  refine sA hW 0 tyA130 ?_
  intro W hW
  refine l_end (n_then (c_seq (c_seq (c_reg ?_))))
  refine aI ?_
  refine l_val (r_eql rfl rfl rfl rfl) rfl rfl ?_
  refine l_split ?_ ?_
  ·intro hc1
   replace hc1 := of_decide_eq_true hc1
   refine l_end (n_then ?_)
   refine c_true rfl ?_
   refine c_reg ?_
   refine dA hW 4 tyA106 ?_
   refine dA hW 7 tyA29 ?_
   refine l_val (r_fieldAddr 0 Tryz.underlying130 rfl tyC3.size rfl rfl rfl) rfl rfl ?_
   refine dC hW 0 tyC3 ?_
   refine l_val (r_build (ps := [(0, .int _ _)]) (bld64_0 _) rfl rfl) rfl rfl ?_
   refine l_call hW (g_labkey s root (qn (labN s u) i) (by omega)) en65 rfl rfl rfl rfl ?_
   intro W hW
   refine l_val (r_fieldAddr 2 Tryz.underlying130 rfl tyA29.size rfl rfl rfl) rfl rfl ?_
   refine l_storeP hW 0 tyA29 (i := 2) (cs := (lb0 (qn (labN s u) i) (qm (labN s u) i))) (vs := kc (labK root s (qn (labN s u) i).toNat 0)) rfl rfl rfl rfl rfl rfl (lb0_len _ _) (kc_len _) (kc_one _) ?_
   intro W hW
   replace hW := (show Cl _ (⟨_, ((lb0 (qn (labN s u) i) (qm (labN s u) i)).take 2 ++ kc (labK root s (qn (labN s u) i).toNat 0)) ++ (lb0 (qn (labN s u) i) (qm (labN s u) i)).drop (2 + 16), _⟩ :: _) _ from hW)
   rw [lb0_put] at hW
   have hK : (⟨qn (labN s u) i, qm (labN s u) i, labK root s (qn (labN s u) i).toNat 0⟩ : It) = labI root s (qn (labN s u) i, qm (labN s u) i) := by rw [labI]; simp only [show (qm (labN s u) i).toNat = 0 by omega]
   rw [hK] at hW
   refine l_end (n_then (c_reg ?_))
   refine l_val (r_fieldAddr 1 Tryz.underlying45 rfl tyC41.size rfl rfl rfl) rfl rfl ?_
   refine dC hW 3 tyC41 ?_
   refine l_loadA hW 0 tyA130 rfl rfl rfl rfl rfl (it1_len _) ?_
   refine l_buildSliceF hW (bsl_lab _) rfl rfl rfl rfl ?_
   intro gs W hW
   refine l_appendB tyE41 (L := [_, _, _, _, _, _, _, _, _] ++ L) hO hW 0 (N := i + 1) rfl rfl rfl rfl rfl rfl rfl (it1_len _) (it1_one _) (by unfold maxLen; omega) (by omega) ?_
   intro a1 c1 Bs1 W hO1 hW
   replace hO1 := hO1.castx rfl (xs' := itL (labL root s u (i + 1))) (by rw [labL_succ hi, itL_append]; simp [itL])
   refine l_val (r_fieldAddr 1 Tryz.underlying45 rfl tyC41.size rfl rfl rfl) rfl rfl ?_
   refine l_storeC hW 4 tyC41 (v := .slice _ _ _) rfl rfl rfl rfl rfl rfl (by first | rfl | omega | (simp; done) | (simp; omega)) rfl ?_
   intro W hW
   refine l_end (n_block ?_)
   exact .inl ⟨rfl, rfl, _, ⟨a1, c1, Bs1, hO1, rfl⟩, (show Cl _ ((([_, _] ++ [_, _, _, _, _]) ++ L) ++ Bs1) _ from hW.drop 2).perm perm_in2.symm⟩
  ·intro hc1
   replace hc1 := of_decide_eq_false hc1
   refine l_end (n_then ?_)
   refine c_false rfl ?_
   refine c_reg ?_
   refine dA hW 7 tyA29 ?_
   refine aI ?_
   refine l_call hW (g_nodeKeyZ root (qn (labN s u) i) (by omega)) en67 rfl rfl rfl rfl ?_
   intro W hW
   refine aI ?_
   refine aI ?_
   refine l_call hW (g_descendZ (derive root 30 (BitVec.ofNat 64 (qn (labN s u) i).toNat)) (qn (labN s u) i) (qm (labN s u) i) (by omega) (by omega) (by omega) (by rw [e1, e2]; exact f4 (by omega))) en66 rfl rfl rfl rfl ?_
   intro W hW
   refine l_val (r_fieldAddr 2 Tryz.underlying130 rfl tyA29.size rfl rfl rfl) rfl rfl ?_
   refine l_storeP hW 0 tyA29 (i := 2) (cs := (lb0 (qn (labN s u) i) (qm (labN s u) i))) (vs := kc (descK (derive root 30 (BitVec.ofNat 64 (qn (labN s u) i).toNat)) (qn (labN s u) i).toNat (qm (labN s u) i).toNat)) rfl rfl rfl rfl rfl rfl (lb0_len _ _) (kc_len _) (kc_one _) ?_
   intro W hW
   replace hW := (show Cl _ (⟨_, ((lb0 (qn (labN s u) i) (qm (labN s u) i)).take 2 ++ kc (descK (derive root 30 (BitVec.ofNat 64 (qn (labN s u) i).toNat)) (qn (labN s u) i).toNat (qm (labN s u) i).toNat)) ++ (lb0 (qn (labN s u) i) (qm (labN s u) i)).drop (2 + 16), _⟩ :: _) _ from hW)
   rw [lb0_put] at hW
   have hK : (⟨qn (labN s u) i, qm (labN s u) i, descK (derive root 30 (BitVec.ofNat 64 (qn (labN s u) i).toNat)) (qn (labN s u) i).toNat (qm (labN s u) i).toNat⟩ : It) = labI root s (qn (labN s u) i, qm (labN s u) i) := by rw [labI]; simp only; rw [labK_n (by omega)]
   rw [hK] at hW
   refine l_end (n_then (c_reg ?_))
   refine l_val (r_fieldAddr 1 Tryz.underlying45 rfl tyC41.size rfl rfl rfl) rfl rfl ?_
   refine dC hW 3 tyC41 ?_
   refine l_loadA hW 0 tyA130 rfl rfl rfl rfl rfl (it1_len _) ?_
   refine l_buildSliceF hW (bsl_lab _) rfl rfl rfl rfl ?_
   intro gs W hW
   refine l_appendB tyE41 (L := [_, _, _, _, _, _, _, _, _] ++ L) hO hW 0 (N := i + 1) rfl rfl rfl rfl rfl rfl rfl (it1_len _) (it1_one _) (by unfold maxLen; omega) (by omega) ?_
   intro a1 c1 Bs1 W hO1 hW
   replace hO1 := hO1.castx rfl (xs' := itL (labL root s u (i + 1))) (by rw [labL_succ hi, itL_append]; simp [itL])
   refine l_val (r_fieldAddr 1 Tryz.underlying45 rfl tyC41.size rfl rfl rfl) rfl rfl ?_
   refine l_storeC hW 4 tyC41 (v := .slice _ _ _) rfl rfl rfl rfl rfl rfl (by first | rfl | omega | (simp; done) | (simp; omega)) rfl ?_
   intro W hW
   refine l_end (n_block ?_)
   exact .inl ⟨rfl, rfl, _, ⟨a1, c1, Bs1, hO1, rfl⟩, (show Cl _ ((([_, _] ++ [_, _, _, _, _]) ++ L) ++ Bs1) _ from hW.drop 2).perm perm_in2.symm⟩
 ·intro ds rq W Lc hc hJ hM he hW
  obtain ⟨a0, c0, Bs0, hO, rfl⟩ := hJ
  refine n_block (n_then (c_seq (c_reg ?_)))
  refine dA hW 2 tyA45 ?_
  refine sA hW 4 tyA45 ?_
  intro W hW
  refine bI ?_
  refine l_end (n_then (c_ret ?_))
  refine ret_marks hM hW fun W hW => ?_
  refine rT hW 4 tyA45 ?_
  exact ⟨_, Bs0, rfl, ⟨a0, c0, rfl, hO⟩, (show Cl _ ([_, _, _, _, _, _, _] ++ Bs0) _ from hW).sub (List.sublist_append_right _ _)⟩
 ·intro ds rq W Lc hc hJ hM hW
  exact hJ.elim

end Go.Proofs.YtoegpalacppllaaGreat

/- What a receiver opens. No function of the program is in sight here. -/
namespace Go.Proofs.YtoegpalacppllaaGreat.Tr
open Hn
def leadI (s : Sc) (v x : Int) (q : It) : Bool := leadB s q.v q.x v x
def useK (s : Sc) (x : Int) (q : It) : Pl.Kw := if s.k = 1 ∨ x = 0 then q.k else Pl.derive (descK q.k q.x.toNat x.toNat) 33 0
/-- the key of the first label that leads to a subset -/
def findV (s : Sc) (ls : List It) (v x : Int) : Option Pl.Kw := (ls.find? (leadI s v x)).map (useK s x)
theorem find_at {α : Type} {p : α → Bool} {ls : List α} {i : Nat} {q : α} (h : ls[i]? = some q) (hb : ∀ z ∈ ls.take i, p z = false) (hp : p q = true) : ls.find? p = some q := by
  obtain ⟨hi, e⟩ := List.getElem?_eq_some_iff.1 h
  have e1 : ls = ls.take i ++ q :: ls.drop (i + 1) := by
    rw [← e, List.getElem_cons_drop, List.take_append_drop]
  rw [e1, List.find?_append, List.find?_eq_none.2 (fun z hz => by rw [hb z hz]; decide), List.find?_cons_of_pos hp]; rfl
theorem find_nil {α : Type} {p : α → Bool} {ls : List α} (hb : ∀ z ∈ ls, p z = false) : ls.find? p = none := List.find?_eq_none.2 fun z hz => by rw [hb z hz]; decide
theorem takeF_all {α : Type} {p : α → Bool} {ls : List α} {i : Nat} {q : α} (h : ls[i]? = some q) (hb : ∀ z ∈ ls.take i, p z = false) (hp : p q = false) : ∀ z ∈ ls.take (i + 1), p z = false := by
  obtain ⟨hi, e⟩ := List.getElem?_eq_some_iff.1 h
  intro z hz
  rw [List.take_succ_eq_append_getElem hi, List.mem_append, List.mem_singleton] at hz
  rcases hz with hz | hz
  · exact hb z hz
  · rw [hz, e]; exact hp
theorem findV_yes {s : Sc} {ls : List It} {v x : Int} {i : Nat} {q : It} (h : ls[i]? = some q) (hb : ∀ z ∈ ls.take i, leadI s v x z = false) (hp : leadI s v x q = true) : findV s ls v x = some (useK s x q) := by rw [findV, find_at h hb hp]; rfl
theorem findV_no {s : Sc} {ls : List It} {v x : Int} (hb : ∀ z ∈ ls, leadI s v x z = false) : findV s ls v x = none := by rw [findV, find_nil hb]; rfl
/-- what an item opens to -/
def tryI (s : Sc) (ls : List It) (ck : Pl.Kw) (t : It) : Option Pl.Kw := match findV s ls t.v t.x with
  | none => none
  | some k => if Pl.derive (Pl.dec k t.k) 53 0 = ck then some (Pl.dec k t.k) else none
def openV (s : Sc) (ls its : List It) (ck : Pl.Kw) : Option Pl.Kw := its.findSome? (tryI s ls ck)
def badI (s : Sc) (its : List It) : Bool := its.any fun t => !subB s t.v t.x
def openE (s : Sc) (ls its : List It) (ck : Pl.Kw) : Int := if 64 < its.length ∨ badI s its = true then 8 else if (openV s ls its ck).isSome then 0 else 6
def openK (s : Sc) (ls its : List It) (ck : Pl.Kw) : Pl.Kw := if 64 < its.length ∨ badI s its = true then (0#64, 0#64) else (openV s ls its ck).getD (0#64, 0#64)
theorem tryI_no {s : Sc} {ls : List It} {ck : Pl.Kw} {t : It} (h : findV s ls t.v t.x = none) : tryI s ls ck t = none := by rw [tryI, h]
theorem tryI_k {s : Sc} {ls : List It} {ck : Pl.Kw} {t : It} {k : Pl.Kw} (h : findV s ls t.v t.x = some k) : tryI s ls ck t = if Pl.derive (Pl.dec k t.k) 53 0 = ck then some (Pl.dec k t.k) else none := by rw [tryI, h]
theorem some_at {α β : Type} {f : α → Option β} {ls : List α} {i : Nat} {q : α} {r : β} (h : ls[i]? = some q) (hb : ∀ z ∈ ls.take i, f z = none) (hp : f q = some r) : ls.findSome? f = some r := by
  obtain ⟨hi, e⟩ := List.getElem?_eq_some_iff.1 h
  have e1 : ls = ls.take i ++ q :: ls.drop (i + 1) := by
    rw [← e, List.getElem_cons_drop, List.take_append_drop]
  rw [e1, List.findSome?_append, List.findSome?_eq_none_iff.2 hb, List.findSome?_cons, hp]; rfl
theorem take_none {α β : Type} {f : α → Option β} {ls : List α} {i : Nat} {q : α} (h : ls[i]? = some q) (hb : ∀ z ∈ ls.take i, f z = none) (hp : f q = none) : ∀ z ∈ ls.take (i + 1), f z = none := by
  obtain ⟨hi, e⟩ := List.getElem?_eq_some_iff.1 h
  intro z hz
  rw [List.take_succ_eq_append_getElem hi, List.mem_append, List.mem_singleton] at hz
  rcases hz with hz | hz
  · exact hb z hz
  · rw [hz, e]; exact hp
end Go.Proofs.YtoegpalacppllaaGreat.Tr
namespace Go.Proofs.YtoegpalacppllaaGreat
open Go.RowKit Pl Tr Hn
theorem RdC.it {w : World} {s : Sl} {n : Nat} {ls : List It} {i : Nat} {q : It} (h : RdC w s n (itL ls)) (hi : ls[i]? = some q) : ∃ b o, s.a = some ⟨b, o, none⟩ ∧ ∀ j v, (it1 q)[j]? = some v → w.cell? ⟨b, o + i * 18 + j, none⟩ = some v := by
  obtain ⟨hl, e⟩ := List.getElem?_eq_some_iff.1 hi
  have h4 := itL_get hi
  have hlen := itL_len ls
  have hm : (i + 1) * 18 ≤ ls.length * 18 := Nat.mul_le_mul_right 18 hl
  have key : ∀ j v, (it1 q)[j]? = some v → (itL ls)[i * 18 + j]? = some v := fun j v hv => by
    rw [← h4, List.getElem?_take] at hv
    split at hv
    · rw [List.getElem?_drop] at hv; exact hv
    · cases hv
  have h0 : ∃ v, (it1 q)[0]? = some v := ⟨_, rfl⟩
  obtain ⟨v0, hv0⟩ := h0
  obtain ⟨b, o, ha, _⟩ := h.rd _ _ (key 0 v0 hv0)
  refine ⟨b, o, ha, fun j v hv => ?_⟩
  obtain ⟨b', o', ha', hc⟩ := h.rd _ _ (key j v hv)
  rw [ha] at ha'
  injection ha' with ha'
  injection ha' with h1 h2 h3
  subst h1; subst h2
  rw [Nat.add_assoc]; exact hc
theorem it1_key (t : It) : ((it1 t).drop 2).take 16 = kc t.k := by
  rw [show (it1 t).drop 2 = kc t.k from rfl, List.take_of_length_le (by rw [kc_len]; decide)]
theorem it1_sub (t : It) : ((it1 t).drop 0).take 2 = [.int .i64 t.v, .int .i64 t.x] := rfl
theorem it1_b2 (t : It) : 2 + 16 ≤ (it1 t).length := by rw [it1_len]; decide
theorem it1_b0 (t : It) : 0 + 2 ≤ (it1 t).length := by rw [it1_len]; decide
theorem isSome_get {s : Sc} {ls : List It} {v x : Int} (h : (findV s ls v x).isSome = true) : findV s ls v x = some ((findV s ls v x).getD (0#64, 0#64)) := by
  cases hf : findV s ls v x with
  | none => rw [hf] at h; cases h
  | some k => rfl
theorem isSome_no {s : Sc} {ls : List It} {v x : Int} (h : (findV s ls v x).isSome = false) : findV s ls v x = none := by
  cases hf : findV s ls v x with
  | none => rfl
  | some k => rw [hf] at h; cases h
def badAt (s : Sc) (its : List It) (k : Nat) : Bool := match its[k]? with
  | none => false
  | some t => !subB s t.v t.x
theorem badAt_get {s : Sc} {its : List It} {k : Nat} {t : It} (h : its[k]? = some t) : badAt s its k = !subB s t.v t.x := by rw [badAt, h]
theorem bad_any {s : Sc} {its : List It} : ((List.range its.length).any fun k => badAt s its k) = badI s its := by
  rw [Bool.eq_iff_iff, badI, List.any_eq_true, List.any_eq_true]
  constructor
  · rintro ⟨k, hk, h⟩
    have hk := List.mem_range.1 hk
    rw [badAt_get (List.getElem?_eq_getElem hk)] at h
    exact ⟨_, List.getElem_mem hk, h⟩
  · rintro ⟨t, ht, h⟩
    obtain ⟨k, hk, rfl⟩ := List.getElem_of_mem ht
    exact ⟨k, List.mem_range.2 hk, by rw [badAt_get (List.getElem?_eq_getElem hk)]; exact h⟩
theorem badI_no {s : Sc} {its : List It} (h : badI s its = false) {t : It} (ht : t ∈ its) : subB s t.v t.x = true := by
  have := List.any_eq_false.1 h t ht
  simpa using this
end Go.Proofs.YtoegpalacppllaaGreat

/- What is sealed opens just for the members. No program is in sight here. -/
namespace Go.Proofs.YtoegpalacppllaaGreat.Tr
open Hn
theorem dk_first (K : Pl.Kw) {m x a b : Nat} (hm : sh x b = m) : ∀ i, i ≤ a → dk K x (a + b) i = dk K m a i
  | 0, _ => rfl
  | i + 1, h => by
    rw [dk, dk, dk_first K hm i (by omega), ← hm, sh_add, show b + (a - (i + 1)) = a + b - (i + 1) by omega]
theorem dk_then (K : Pl.Kw) {x a b : Nat} {K' : Pl.Kw} (hK : K' = dk K x (a + b) a) : ∀ j, j ≤ b → dk K' x b j = dk K x (a + b) (a + j)
  | 0, _ => hK
  | j + 1, h => by
    rw [dk, dk_then K hK j (by omega), show a + (j + 1) = (a + j) + 1 by omega, dk, show a + b - (a + j + 1) = b - (j + 1) by omega]
/-- down in two steps -/
theorem descK_trans (K : Pl.Kw) {n m x : Nat} (h1 : belowN m n = true) (h2 : belowN x m = true) : descK (descK K n m) m x = descK K n x := by
  obtain ⟨l1, e1⟩ := below_iff.1 h1
  obtain ⟨l2, e2⟩ := below_iff.1 h2
  have hs : lev x - lev n = (lev m - lev n) + (lev x - lev m) := by omega
  rw [descK, descK, descK, hs]
  exact dk_then K (dk_first K e2 _ (Nat.le_refl _)).symm _ (Nat.le_refl _)
/-- a label that leads to a subset gives its key -/
theorem use_key {root : Pl.Kw} {s : Sc} {n m : Nat} {v x : Int} (h : leadB s (n : Int) (m : Int) v x = true) (h1 : s.k = 1 → m = 0) (hx : 0 ≤ x) : useK s x (labI root s ((n : Int), (m : Int))) = keyN root s v.toNat x.toNat := by
  unfold leadB at h
  split at h
  · next hc =>
    obtain ⟨rfl, rfl⟩ := of_decide_eq_true h
    rw [useK, if_pos hc, labI]
    simp only [Int.toNat_natCast]
    by_cases hm : m = 0
    · subst hm; rfl
    · have hk : s.k = 1 := by rcases hc with hc | hc; exact hc; omega
      exact absurd (h1 hk) hm
  · next hc =>
    rw [Bool.and_eq_true, Bool.and_eq_true, decide_eq_true_eq, Int.toNat_natCast, Int.toNat_natCast] at h
    obtain ⟨⟨⟨rfl, hm⟩, hb1⟩, hb2⟩ := h
    obtain ⟨y, rfl⟩ : ∃ y : Nat, x = y := ⟨x.toNat, by omega⟩
    rw [useK, if_neg hc, labI]
    simp only [Int.toNat_natCast] at hb2 ⊢
    rw [labK_n (by omega), descK_trans _ hb1 hb2, key_n (by omega) (by omega)]
theorem lab_k1 {s : Sc} {u : Nat} (hk : s.k = 1) {q : Int × Int} (hq : q ∈ labN s u) : q.2 = 0 := by
  rw [labN, if_pos hk] at hq
  obtain ⟨i, -, rfl⟩ := mem_lab1.1 hq
  rfl
/-- the key that is found -/
theorem find_key {root : Pl.Kw} {s : Sc} {u : Nat} {v x : Int} (hs : schB s = true) (hu : u < p2 s.d.toNat) (hsub : subB s v x = true) : findV s (labL root s u (labN s u).length) v x = if memB s v x u = true then some (keyN root s v.toNat x.toNat) else none := by
  obtain ⟨k1, k3, d0, d6, -⟩ := schB_iff.1 hs
  obtain ⟨hx1, hx2, hx3, hx4⟩ := sub_x d6 hsub
  have hkm := known_mem hs hsub hu
  rw [findV, labL, List.take_of_length_le (Nat.le_refl _), List.find?_map, known_iff] at *
  split
  · next hm =>
    obtain ⟨l, hl, hb⟩ := hkm.2 hm
    cases hf : (labN s u).find? (leadI s v x ∘ labI root s) with
    | none => exact absurd hb (List.find?_eq_none.1 hf l hl)
    | some q =>
      have hq := List.mem_of_find?_eq_some hf
      have hp0 := List.find?_some hf
      have hp : leadB s q.1 q.2 v x = true := hp0
      obtain ⟨i, hi, e⟩ := q_mem.1 hq
      obtain ⟨n, m, e1, e2, _⟩ := lab_facts hs hu hi
      have h0 := fun hk => lab_k1 (s := s) (u := u) hk hq
      rw [e, e1, e2] at hp h0
      rw [e, e1, e2]
      show some (useK s x (labI root s ((n : Int), (m : Int)))) = _
      rw [use_key hp (fun hk => by have := h0 hk; simp only at this; omega) hx3]
  · next hm =>
    have : (labN s u).find? (leadI s v x ∘ labI root s) = none := List.find?_eq_none.2 fun q hq hb => hm (hkm.1 ⟨q, hq, hb⟩)
    rw [this]; rfl
/-- what is sealed opens to the session just for the members -/
theorem open_seal {root se : Pl.Kw} {s : Sc} {u : Nat} {l : List (Int × Int)} (hs : schB s = true) (hu : u < p2 s.d.toNat) (hb : ∀ q ∈ l, subB s q.1 q.2 = true) :
    openV s (labL root s u (labN s u).length) (sealL root se s l) (Pl.derive se 53 0) = if (∃ q ∈ l, memB s q.1 q.2 u = true) then some se else none := by
  have ht : ∀ q ∈ l, tryI s (labL root s u (labN s u).length) (Pl.derive se 53 0) (sealI root se s q) = if memB s q.1 q.2 u = true then some se else none := fun q hq => by
    have hf := find_key (root := root) hs hu (hb q hq)
    split
    · next hm =>
      rw [if_pos hm] at hf
      rw [tryI_k (t := sealI root se s q) hf]
      show (if Pl.derive (Pl.dec _ (Pl.enc _ se)) 53 0 = _ then _ else _) = _
      rw [Pl.dec_enc, if_pos rfl]
      show some (Pl.dec _ (Pl.enc _ se)) = _
      rw [Pl.dec_enc]
    · next hm =>
      rw [if_neg hm] at hf
      exact tryI_no (t := sealI root se s q) hf
  induction l with
  | nil => simp [openV, sealL]
  | cons q l ih =>
    have ih := ih (fun z hz => hb z (List.mem_cons_of_mem _ hz)) (fun z hz => ht z (List.mem_cons_of_mem _ hz))
    have h0 := ht q List.mem_cons_self
    rw [openV, sealL, List.map_cons, List.findSome?_cons, h0]
    cases hm : memB s q.1 q.2 u with
    | true => simp [hm]
    | false =>
      rw [if_neg (by decide)]
      refine Eq.trans (show _ = openV s (labL root s u (labN s u).length) (sealL root se s l) (Pl.derive se 53 0) from rfl) (ih.trans ?_)
      have e : (∃ z ∈ q :: l, memB s z.1 z.2 u = true) ↔ ∃ z ∈ l, memB s z.1 z.2 u = true := by
        constructor
        · rintro ⟨z, hz, hzm⟩
          rcases List.mem_cons.1 hz with rfl | hz
          · rw [hm] at hzm; cases hzm
          · exact ⟨z, hz, hzm⟩
        · rintro ⟨z, hz, hzm⟩
          exact ⟨z, List.mem_cons_of_mem _ hz, hzm⟩
      by_cases h : ∃ z ∈ l, memB s z.1 z.2 u = true
      · rw [if_pos h, if_pos (e.2 h)]
      · rw [if_neg h, if_neg fun h' => h (e.1 h')]
theorem bad_seal {root se : Pl.Kw} {s : Sc} {l : List (Int × Int)} (hb : ∀ q ∈ l, subB s q.1 q.2 = true) : badI s (sealL root se s l) = false := by
  rw [badI, List.any_eq_false]
  intro t ht
  obtain ⟨q, hq, rfl⟩ := List.mem_map.1 ht
  have : subB s (sealI root se s q).v (sealI root se s q).x = true := hb q hq
  rw [this]; decide
end Go.Proofs.YtoegpalacppllaaGreat.Tr

/- Covers: what is emitted at each node above a revoked leaf has as members just the receivers that are not revoked. No program is in sight here. -/
namespace Go.Proofs.YtoegpalacppllaaGreat.Tr
open Hn

/-- down, while just one child is marked -/
def downN (T : Nat → Bool) : Nat → Nat → Nat
  | 0, w => w
  | f + 1, w => if T (2 * w) = T (2 * w + 1) then w else downN T f (if T (2 * w) then 2 * w else 2 * w + 1)
/-- the subsets of a node and one below -/
def cutN (s : Sc) (v w : Nat) : List (Int × Int) :=
  if bet s.d w (lev w - lev v - 1) ≠ 0 ∧ s.k = 3 ∧ specN s.d v = false then [((v : Int), ((bet s.d w (lev w - lev v - 1) : Nat) : Int)), (((bet s.d w (lev w - lev v - 1) : Nat) : Int), (w : Int))] else [((v : Int), (w : Int))]
/-- what is emitted at a marked node -/
def emN (s : Sc) (T : Nat → Bool) (v : Nat) : List (Int × Int) :=
  if s.k = 1 then if 1 < v ∧ T (sib v) = false then [(((sib v : Nat) : Int), 0)] else []
  else if 1 < v ∧ T (sib v) = false then [] else if downN T 7 v = v then [] else cutN s v (downN T 7 v)
/-- the marked nodes: those above the leaves of a list -/
structure Mk_ (d : Nat) (R : List Int) (T : Nat → Bool) : Prop where
  iff : ∀ x, T x = true ↔ 0 < x ∧ ∃ r ∈ R, belowN (p2 d + r.toNat) x = true
  d6 : d ≤ 6
  lt : ∀ r ∈ R, 0 ≤ r ∧ r.toNat < p2 d

theorem bet_form (d : Int) (w : Nat) : ∀ m, bet d w m = 0 ∨ ∃ j, 1 ≤ j ∧ j ≤ m ∧ bet d w m = sh w j
  | 0 => .inl rfl
  | m + 1 => by
    rw [bet]
    split
    · exact .inr ⟨m + 1, by omega, Nat.le_refl _, rfl⟩
    · rcases bet_form d w m with h | ⟨j, h1, h2, h3⟩
      · exact .inl h
      · exact .inr ⟨j, h1, by omega, h3⟩
theorem below_sh {w j : Nat} (hw : w < 128) (hj : j ≤ lev w) : belowN w (sh w j) = true := by
  have h := sh_lev hw hj
  exact below_iff.2 ⟨by omega, by rw [h, show lev w - (lev w - j) = j by omega]⟩
theorem below_mid {w v j : Nat} (hw : w < 128) (hb : belowN w v = true) (hj : j ≤ lev w - lev v) : belowN (sh w j) v = true := by
  obtain ⟨h1, h2⟩ := below_iff.1 hb
  have h := sh_lev hw (i := j) (by omega)
  refine below_iff.2 ⟨by omega, ?_⟩
  rw [h, sh_add, show j + (lev w - j - lev v) = lev w - lev v by omega]; exact h2
theorem below_refl (w : Nat) : belowN w w = true := below_iff.2 ⟨Nat.le_refl _, by rw [Nat.sub_self]; rfl⟩
theorem below_le {y x : Nat} (h : belowN y x = true) : x ≤ y := by
  obtain ⟨_, h2⟩ := below_iff.1 h
  rw [← h2]; exact sh_le _ _
/-- two nodes of one level that are above one leaf are one -/
theorem below_one {y a b : Nat} (ha : belowN y a = true) (hb : belowN y b = true) (hl : lev a = lev b) : a = b := by
  rw [← (below_iff.1 ha).2, ← (below_iff.1 hb).2, hl]
/-- the child towards a node below -/
theorem child {y w : Nat} (hy : y < 128) (hb : belowN y w = true) (hl : lev w < lev y) : ∃ c, (c = 2 * w ∨ c = 2 * w + 1) ∧ belowN y c = true ∧ lev c = lev w + 1 ∧ c / 2 = w := by
  obtain ⟨h1, h2⟩ := below_iff.1 hb
  refine ⟨sh y (lev y - lev w - 1), ?_⟩
  have e : sh y (lev y - lev w - 1) / 2 = w := by
    rw [← sh_succ, show lev y - lev w - 1 + 1 = lev y - lev w by omega]; exact h2
  have h3 := sh_lev hy (i := lev y - lev w - 1) (by omega)
  exact ⟨by omega, below_sh hy (by omega), by omega, e⟩
theorem lev_dbl {w c : Nat} (hw : 0 < w) (hc : c < 128) (h : c / 2 = w) : lev c = lev w + 1 := by
  have := lev_step hc (by omega)
  rw [h] at this; omega

section
variable {s : Sc} {R : List Int} {T : Nat → Bool} {d : Nat}
theorem Mk_.leaf (k : Mk_ d R T) {r : Int} (hr : r ∈ R) : p2 d + r.toNat < 128 ∧ lev (p2 d + r.toNat) = d ∧ 0 < p2 d + r.toNat := by
  have h1 := (k.lt r hr).2
  have h2 := p2_le (n := d) k.d6
  have h3 := p2_pos d
  exact ⟨by omega, leaf_lev h1, by omega⟩
theorem Mk_.lt128 (k : Mk_ d R T) {x : Nat} (h : T x = true) : x < 128 ∧ 0 < x ∧ lev x ≤ d := by
  obtain ⟨h0, r, hr, hb⟩ := (k.iff x).1 h
  obtain ⟨h1, h2, h3⟩ := k.leaf hr
  have := below_le hb
  exact ⟨by omega, h0, by rw [← h2]; exact (below_iff.1 hb).1⟩
/-- what is above a marked node is marked -/
theorem Mk_.up (k : Mk_ d R T) {a b : Nat} (h : T a = true) (hb : belowN a b = true) (h0 : 0 < b) : T b = true := by
  obtain ⟨_, r, hr, h1⟩ := (k.iff a).1 h
  exact (k.iff b).2 ⟨h0, r, hr, below_trans h1 hb⟩
/-- a step down goes to a marked child, and holds all marked leaves -/
theorem Mk_.step (k : Mk_ d R T) {w : Nat} (hw : 0 < w) (hne : T (2 * w) ≠ T (2 * w + 1)) : ∃ c, (if T (2 * w) then 2 * w else 2 * w + 1) = c ∧ T c = true ∧ c / 2 = w ∧ T (sib c) = false ∧ c < 128 ∧ lev c = lev w + 1 := by
  refine ⟨_, rfl, ?_⟩
  have hs : ∀ c, c < 128 → sib c = if c % 2 = 0 then c + 1 else c - 1 := fun c hc => (sib_all hc).2.2.2
  cases h : T (2 * w) with
  | true =>
    have h1 : T (2 * w + 1) = false := by
      cases h2 : T (2 * w + 1) with
      | false => rfl
      | true => exact absurd (h.trans h2.symm) hne
    have hc := (k.lt128 h).1
    rw [if_pos rfl]
    exact ⟨h, by omega, by rw [hs _ hc, if_pos (by omega)]; exact h1, hc, lev_dbl hw hc (by omega)⟩
  | false =>
    have h1 : T (2 * w + 1) = true := by
      cases h2 : T (2 * w + 1) with
      | true => rfl
      | false => exact absurd (h.trans h2.symm) hne
    have hc := (k.lt128 h1).1
    rw [if_neg (by decide)]
    exact ⟨h1, by omega, by rw [hs _ hc, if_neg (by omega)]; exact h, hc, lev_dbl hw hc (by omega)⟩
/-- down: the node is below, and above all marked leaves that were below -/
theorem Mk_.down (k : Mk_ d R T) : ∀ (f w : Nat), 0 < w → w < 128 → T w = true → belowN (downN T f w) w = true ∧ T (downN T f w) = true ∧ ∀ r ∈ R, belowN (p2 d + r.toNat) w = true → belowN (p2 d + r.toNat) (downN T f w) = true
  | 0, w, _, _, hT => ⟨below_refl w, hT, fun _ _ h => h⟩
  | f + 1, w, h0, h1, hT => by
    rw [downN]
    split
    · exact ⟨below_refl w, hT, fun _ _ h => h⟩
    · next hne =>
      obtain ⟨c, hc, hTc, hcw, hsb, hc1, hlc⟩ := k.step h0 hne
      rw [hc]
      obtain ⟨i1, i2, i3⟩ := Mk_.down k f c (by omega) hc1 hTc
      have hcb : belowN c w = true := below_iff.2 ⟨by omega, by rw [hlc, show lev w + 1 - lev w = 1 by omega]; exact hcw⟩
      refine ⟨below_trans i1 hcb, i2, fun r hr hb => i3 r hr ?_⟩
      obtain ⟨l1, l2, l3⟩ := k.leaf hr
      have hld := (k.lt128 hTc).2.2
      obtain ⟨c', h2, h3, h4, h5⟩ := child l1 hb (by omega)
      have hTc' : T c' = true := (k.iff c').2 ⟨by omega, r, hr, h3⟩
      have : c' = c := by
        apply Classical.byContradiction
        intro hn
        have := sib_of hc1 (h5.trans hcw.symm) hn
        rw [this, hsb] at hTc'; cases hTc'
      rw [← this]; exact h3
/-- a marked node that is no leaf of the tree has a marked child -/
theorem Mk_.kid (k : Mk_ d R T) {a : Nat} (hT : T a = true) (hl : lev a < d) : ∃ c, T c = true ∧ c / 2 = a ∧ lev c = lev a + 1 := by
  obtain ⟨h0, r, hr, hb⟩ := (k.iff a).1 hT
  obtain ⟨l1, l2, l3⟩ := k.leaf hr
  obtain ⟨c, h2, h3, h4, h5⟩ := child l1 hb (by omega)
  exact ⟨c, (k.iff c).2 ⟨by omega, r, hr, h3⟩, h5, h4⟩
/-- up to where a chain begins -/
theorem Mk_.top (k : Mk_ d R T) : ∀ (n a : Nat), lev a ≤ n → T a = true → T (2 * a) ≠ T (2 * a + 1) → ∃ t f, T t = true ∧ belowN a t = true ∧ ¬ (1 < t ∧ T (sib t) = false) ∧ lev a + f = lev t + 7 ∧ lev t ≤ lev a ∧ downN T 7 t = downN T f a := by
  intro n
  induction n with
  | zero =>
    intro a hl hT hne
    obtain ⟨h1, h2, h3⟩ := k.lt128 hT
    have : ¬ 1 < a := fun h => by have := lev_step h1 h; omega
    exact ⟨a, 7, hT, below_refl a, fun h => this h.1, rfl, Nat.le_refl _, rfl⟩
  | succ n ih =>
    intro a hl hT hne
    obtain ⟨h1, h2, h3⟩ := k.lt128 hT
    by_cases hc : 1 < a ∧ T (sib a) = false
    · have hls := lev_step h1 hc.1
      have hab : belowN a (a / 2) = true := below_iff.2 ⟨by omega, by rw [show lev a - lev (a / 2) = 1 by omega]; rfl⟩
      have hTp := k.up hT hab (by omega)
      have hsb := (sib_all h1).2.2.2
      have hch : T (2 * (a / 2)) ≠ T (2 * (a / 2) + 1) := by
        by_cases hp : a % 2 = 0
        · rw [if_pos hp] at hsb
          rw [show 2 * (a / 2) = a by omega, hT, ← hsb, hc.2]; decide
        · rw [if_neg hp] at hsb
          rw [show 2 * (a / 2) + 1 = a by omega, show 2 * (a / 2) = a - 1 by omega, hT, ← hsb, hc.2]; decide
      obtain ⟨t, f, t1, t2, t3, t4, t5, t6⟩ := ih (a / 2) (by omega) hTp hch
      have ha6 := lev_le h1
      obtain ⟨f', rfl⟩ : ∃ f', f = f' + 1 := ⟨f - 1, by omega⟩
      refine ⟨t, f', t1, below_trans hab t2, t3, by omega, by omega, ?_⟩
      rw [t6, downN, if_neg hch]
      congr 1
      by_cases hp : a % 2 = 0
      · rw [show 2 * (a / 2) = a by omega, hT, if_pos rfl]
      · have hx : T (2 * (a / 2)) = false := by
          rw [if_neg hp] at hsb
          rw [show 2 * (a / 2) = a - 1 by omega, ← hsb]; exact hc.2
        rw [hx, if_neg (by decide)]; omega
    · exact ⟨a, 7, hT, below_refl a, hc, rfl, Nat.le_refl _, rfl⟩
theorem least {p : Nat → Bool} : ∀ {n : Nat}, p n = true → ∃ j, j ≤ n ∧ p j = true ∧ ∀ i, i < j → p i = false
  | 0, h => ⟨0, Nat.le_refl _, h, fun i hi => absurd hi (Nat.not_lt_zero i)⟩
  | n + 1, h => by
    by_cases hx : ∃ i, i ≤ n ∧ p i = true
    · obtain ⟨i, hi, hp⟩ := hx
      obtain ⟨j, h1, h2, h3⟩ := least (n := i) hp
      exact ⟨j, by omega, h2, h3⟩
    · refine ⟨n + 1, Nat.le_refl _, h, fun i hi => ?_⟩
      cases hp : p i with
      | false => rfl
      | true => exact absurd ⟨i, by omega, hp⟩ hx
  termination_by n => n
  decreasing_by omega
theorem mem_of {v w u : Nat} (h1 : belowN (p2 s.d.toNat + u) v = true) (h2 : belowN (p2 s.d.toNat + u) w = false) : memB s (v : Int) (w : Int) u = true := by
  rw [memB, Int.toNat_natCast, Int.toNat_natCast, h1, h2]; simp
theorem mem_un {v w u : Nat} (h : memB s (v : Int) (w : Int) u = true) (hw : w ≠ 0) : belowN (p2 s.d.toNat + u) v = true ∧ belowN (p2 s.d.toNat + u) w = false := by
  rw [memB, Int.toNat_natCast, Int.toNat_natCast, decide_eq_false (show ¬ (w : Int) = 0 by omega), Bool.false_or, Bool.and_eq_true, Bool.not_eq_true'] at h
  exact h
/-- no revoked receiver is a member -/
theorem cover_out (k : Mk_ s.d.toNat R T) {u v : Nat} {q : Int × Int} (hT : T v = true) (hq : q ∈ emN s T v) (hm : memB s q.1 q.2 u = true) : (u : Int) ∉ R := by
  intro hr
  obtain ⟨v1, v0, vd⟩ := k.lt128 hT
  unfold emN at hq
  split at hq
  · split at hq
    · next hc =>
      rw [List.mem_singleton] at hq
      subst hq
      have hs := (sib_all v1).2.2.2
      have hb : belowN (p2 s.d.toNat + u) (sib v) = true := by
        rw [memB, Int.toNat_natCast, Bool.and_eq_true] at hm
        exact hm.1
      have : T (sib v) = true := (k.iff _).2 ⟨by rw [hs]; split <;> omega, _, hr, hb⟩
      rw [hc.2] at this; cases this
    · cases hq
  · split at hq
    · cases hq
    · split at hq
      · cases hq
      · obtain ⟨hb, hTw, hall⟩ := k.down 7 v v0 v1 hT
        have key : belowN (p2 s.d.toNat + u) v = true → belowN (p2 s.d.toNat + u) (downN T 7 v) = true := hall _ hr
        obtain ⟨w1, w0, wd⟩ := k.lt128 hTw
        revert hb hTw key w1 w0 wd hq
        generalize downN T 7 v = w
        intro hq hb hTw key w1 w0 wd
        unfold cutN at hq
        split at hq
        · next hc =>
          rcases bet_form s.d w (lev w - lev v - 1) with h0 | ⟨j, j1, j2, j3⟩
          · exact absurd h0 hc.1
          · have c1 := below_sh w1 (j := j) (by omega)
            have c2 := below_mid w1 hb (j := j) (by omega)
            rw [← j3] at c1 c2
            simp only [List.mem_cons, List.not_mem_nil, or_false] at hq
            rcases hq with rfl | rfl
            · obtain ⟨m1, m2⟩ := mem_un hm hc.1
              rw [below_trans (key m1) c1] at m2; cases m2
            · obtain ⟨m1, m2⟩ := mem_un hm (by omega)
              rw [key (below_trans m1 c2)] at m2; cases m2
        · rw [List.mem_singleton] at hq
          subst hq
          obtain ⟨m1, m2⟩ := mem_un hm (by omega)
          rw [key m1] at m2; cases m2
/-- every receiver that is not revoked is a member -/
theorem cover_in (k : Mk_ s.d.toNat R T) (hne : R ≠ []) {u : Nat} (hu : u < p2 s.d.toNat) (hR : (u : Int) ∉ R) : ∃ v, T v = true ∧ ∃ q ∈ emN s T v, memB s q.1 q.2 u = true := by
  have hp := p2_le (n := s.d.toNat) k.d6
  have hp0 := p2_pos s.d.toNat
  obtain ⟨y, hy⟩ : ∃ y, y = p2 s.d.toNat + u := ⟨_, rfl⟩
  have hly : lev y = s.d.toNat := by rw [hy]; exact leaf_lev hu
  have hy1 : y < 128 := by omega
  have hrt := root_sh (show 0 < y by omega) hy1 hly
  have hT1 : T (sh y s.d.toNat) = true := by
    rw [hrt]
    cases R with
    | nil => exact absurd rfl hne
    | cons r R =>
      obtain ⟨l1, l2, l3⟩ := k.leaf (List.mem_cons_self (a := r) (l := R))
      exact (k.iff 1).2 ⟨by decide, r, List.mem_cons_self, below_top l3 l1⟩
  obtain ⟨j, j1, j2, j3⟩ := least (p := fun j => T (sh y j)) hT1
  have hj0 : j ≠ 0 := fun e => by
    subst e
    obtain ⟨_, r, hr, hb⟩ := (k.iff y).1 j2
    obtain ⟨l1, l2, l3⟩ := k.leaf hr
    have := below_one (below_refl (p2 s.d.toNat + r.toNat)) hb (by omega)
    have h0 := (k.lt r hr).1
    have : r = (u : Int) := by omega
    exact hR (this ▸ hr)
  obtain ⟨i, rfl⟩ : ∃ i, j = i + 1 := ⟨j - 1, by omega⟩
  have hTc := j3 i (by omega)
  have j2 : T (sh y (i + 1)) = true := j2
  have hTc : T (sh y i) = false := hTc
  obtain ⟨a1, a0, ad⟩ := k.lt128 j2
  have hla := sh_lev hy1 (i := i + 1) (by omega)
  have hlc := sh_lev hy1 (i := i) (by omega)
  have hya := below_sh hy1 (j := i + 1) (by omega)
  have hyc := below_sh hy1 (j := i) (by omega)
  have hca : sh y i / 2 = sh y (i + 1) := rfl
  have hc1 : sh y i < 128 := Nat.lt_of_le_of_lt (sh_le y i) hy1
  revert j2 hTc a1 a0 ad hla hlc hya hyc hca hc1
  generalize sh y (i + 1) = a
  generalize sh y i = c
  intro j2 hTc a1 a0 ad hla hlc hya hyc hca hc1
  obtain ⟨c', g1, g2, g3⟩ := k.kid j2 (by omega)
  obtain ⟨c1', c0', _⟩ := k.lt128 g1
  have hne' : c ≠ c' := fun e => by rw [e, g1] at hTc; cases hTc
  have hsc : sib c' = c := (sib_of c1' (hca.trans g2.symm) hne').symm
  rw [hy] at hya hyc
  by_cases hk : s.k = 1
  · refine ⟨c', g1, ((c : Int), 0), ?_, ?_⟩
    · rw [emN, if_pos hk, hsc, if_pos ⟨by omega, hTc⟩]; exact List.mem_singleton.2 rfl
    · rw [memB, Int.toNat_natCast, hyc]; rfl
  · have hch : T (2 * a) ≠ T (2 * a + 1) := by
      have h1 : c = 2 * a ∧ c' = 2 * a + 1 ∨ c' = 2 * a ∧ c = 2 * a + 1 := by omega
      rcases h1 with ⟨e1, e2⟩ | ⟨e1, e2⟩
      · rw [← e2, ← e1, g1, hTc]; decide
      · rw [← e2, ← e1, g1, hTc]; decide
    obtain ⟨t, f, t1, t2, t3, t4, t5, t6⟩ := k.top (lev a) a (Nat.le_refl _) j2 hch
    have ha6 := lev_le a1
    obtain ⟨f', rfl⟩ : ∃ f', f = f' + 1 := ⟨f - 1, by omega⟩
    have e6 : downN T 7 t = downN T f' c' := by
      rw [t6, downN, if_neg hch]
      congr 1
      have h1 : c = 2 * a ∧ c' = 2 * a + 1 ∨ c' = 2 * a ∧ c = 2 * a + 1 := by omega
      rcases h1 with ⟨e1, e2⟩ | ⟨e1, e2⟩
      · rw [← e1, hTc, if_neg (by decide), e1]; exact e2.symm
      · rw [← e1, g1, if_pos rfl]
    obtain ⟨w1, w2, _⟩ := k.down f' c' (by omega) c1' g1
    rw [← e6] at w1 w2
    obtain ⟨x1, x0, xd⟩ := k.lt128 w2
    have hyw : belowN (p2 s.d.toNat + u) (downN T 7 t) = false := by
      cases h : belowN (p2 s.d.toNat + u) (downN T 7 t) with
      | false => rfl
      | true => exact absurd (below_one hyc (below_trans h w1) (by omega)) hne'
    have hyt := below_trans hya t2
    have hlw := (below_iff.1 w1).1
    have hwt : downN T 7 t ≠ t := fun e => by rw [e] at hlw; omega
    have htw : belowN (downN T 7 t) t = true := (k.down 7 t (k.lt128 t1).2.1 (k.lt128 t1).1 t1).1
    have hem : emN s T t = cutN s t (downN T 7 t) := by rw [emN, if_neg hk, if_neg t3, if_neg hwt]
    refine ⟨t, t1, ?_⟩
    rw [hem]
    revert hyw x1 x0 xd hlw hwt htw
    generalize downN T 7 t = w
    intro x1 x0 xd hyw hlw hwt htw
    unfold cutN
    split
    · next hc =>
      rcases bet_form s.d w (lev w - lev t - 1) with h0 | ⟨i', i1, i2, i3⟩
      · exact absurd h0 hc.1
      · cases hcc : belowN (p2 s.d.toNat + u) (bet s.d w (lev w - lev t - 1)) with
        | true => exact ⟨_, List.mem_cons_of_mem _ List.mem_cons_self, mem_of hcc hyw⟩
        | false => exact ⟨_, List.mem_cons_self, mem_of hyt hcc⟩
    · exact ⟨_, List.mem_singleton.2 rfl, mem_of hyt hyw⟩
end
end Go.Proofs.YtoegpalacppllaaGreat.Tr

/- Covers: the marked nodes, as they are marked; what has been emitted so far. No program is in sight here. -/
namespace Go.Proofs.YtoegpalacppllaaGreat.Tr
open Hn
/-- marked by the first of a list -/
def stS (d : Nat) (R : List Int) (i : Nat) (x : Int) : Bool := (List.range i).any fun j => (List.range (d + 1)).any fun k => decide (x = ((sh (p2 d + (at_ R j).toNat) k : Nat) : Int))
/-- and by the first nodes of the next -/
def stJ (d : Nat) (R : List Int) (i y n : Nat) (x : Int) : Bool := stS d R i x || (List.range n).any fun k => decide (x = ((sh y k : Nat) : Int))
theorem stJ_zero (d : Nat) (R : List Int) (i y : Nat) : stJ d R i y 0 = stS d R i := funext fun x => by simp [stJ]
theorem stJ_succ (d : Nat) (R : List Int) (i y n : Nat) : stJ d R i y (n + 1) = fun z => decide (z = ((sh y n : Nat) : Int)) || stJ d R i y n z := funext fun x => by
  simp only [stJ, List.range_succ, List.any_append, List.any_cons, List.any_nil, Bool.or_false]
  rw [← Bool.or_assoc, Bool.or_comm]
theorem stJ_end (d : Nat) (R : List Int) (i : Nat) : stJ d R i (p2 d + (at_ R i).toNat) (d + 1) = stS d R (i + 1) := funext fun x => by
  simp only [stJ, stS, List.range_succ (n := i), List.any_append, List.any_cons, List.any_nil, Bool.or_false]
theorem stS_iff {d : Nat} {R : List Int} {n : Nat} {x : Int} : stS d R n x = true ↔ ∃ j, j < n ∧ ∃ k, k < d + 1 ∧ x = ((sh (p2 d + (at_ R j).toNat) k : Nat) : Int) := by
  simp [stS, List.any_eq_true]
/-- the marked nodes -/
def stT (d : Nat) (R : List Int) (v : Nat) : Bool := stS d R R.length (v : Int)
theorem stT_mk {d : Nat} {R : List Int} (hd : d ≤ 6) (hu : usersB R ((p2 d : Nat) : Int) = true) : Mk_ d R (stT d R) := by
  have hR : ∀ r ∈ R, 0 ≤ r ∧ r.toNat < p2 d := fun r hr => by have := users_mem hu hr; omega
  refine ⟨fun x => ?_, hd, hR⟩
  have hp := p2_le (n := d) hd
  have hp0 := p2_pos d
  rw [stT, stS_iff]
  constructor
  · rintro ⟨j, hj, k, hk, e⟩
    have hr := at_mem hj
    obtain ⟨r0, r1⟩ := hR _ hr
    have hl : lev (p2 d + (at_ R j).toNat) = d := leaf_lev r1
    have e' : x = sh (p2 d + (at_ R j).toNat) k := by omega
    exact ⟨by rw [e']; exact sh_pos (by omega) (by omega) (by omega), _, hr, by rw [e']; exact below_sh (by omega) (by omega)⟩
  · rintro ⟨h0, r, hr, hb⟩
    obtain ⟨j, hj, rfl⟩ := List.getElem_of_mem hr
    have ea : at_ R j = R[j] := by simp [at_, List.getD_eq_getElem?_getD, hj]
    obtain ⟨r0, r1⟩ := hR _ hr
    have hl : lev (p2 d + (R[j]).toNat) = d := leaf_lev r1
    obtain ⟨b1, b2⟩ := below_iff.1 hb
    exact ⟨j, hj, lev (p2 d + (R[j]).toNat) - lev x, by omega, by rw [ea, b2]⟩
/-- a number that is marked is a node -/
theorem stS_nat {d : Nat} {R : List Int} {n : Nat} {x : Int} (h : stS d R n x = true) : ∃ v : Nat, x = (v : Int) := by
  obtain ⟨j, _, k, _, e⟩ := stS_iff.1 h
  exact ⟨_, e⟩
/-- what has been emitted: just what belongs to marked nodes, and all of those that are not left -/
structure Emits (s : Sc) (T : Nat → Bool) (left : Int → Bool) (l : List (Int × Int)) : Prop where
  of : ∀ q ∈ l, ∃ v, T v = true ∧ q ∈ emN s T v
  all : ∀ v, T v = true → left (v : Int) = false → ∀ q ∈ emN s T v, q ∈ l
theorem Emits.nil {s : Sc} {T : Nat → Bool} {left : Int → Bool} (h : ∀ v : Nat, T v = true → left (v : Int) = true) : Emits s T left [] :=
  ⟨fun _ h => absurd h List.not_mem_nil, fun v hT hl => by rw [h v hT] at hl; cases hl⟩
theorem Emits.step {s : Sc} {T : Nat → Bool} {left : Int → Bool} {l m : List (Int × Int)} {v : Nat} (h : Emits s T left l) (hT : T v = true) (hm : m = emN s T v) : Emits s T (fun z => left z && !decide (z = (v : Int))) (l ++ m) := by
  subst hm
  refine ⟨fun q hq => ?_, fun u hu hl q hq => ?_⟩
  · rcases List.mem_append.1 hq with hq | hq
    · exact h.of q hq
    · exact ⟨v, hT, hq⟩
  · by_cases e : u = v
    · subst e; exact List.mem_append_right _ hq
    · rw [decide_eq_false (show ¬ (u : Int) = (v : Int) by omega)] at hl
      exact List.mem_append_left _ (h.all u hu (by simpa using hl) q hq)
/-- the members of what is emitted, all nodes seen -/
theorem Emits.cover {s : Sc} {R : List Int} {T : Nat → Bool} {left : Int → Bool} {l : List (Int × Int)} (h : Emits s T left l) (hn : ∀ v : Nat, T v = true → left (v : Int) = false) (k : Mk_ s.d.toNat R T) (hne : R ≠ []) {u : Nat} (hu : u < p2 s.d.toNat) :
    (∃ q ∈ l, memB s q.1 q.2 u = true) ↔ (u : Int) ∉ R := by
  constructor
  · rintro ⟨q, hq, hm⟩
    obtain ⟨v, hT, he⟩ := h.of q hq
    exact cover_out k hT he hm
  · intro hR
    obtain ⟨v, hT, q, hq, hm⟩ := cover_in k hne hu hR
    exact ⟨q, h.all v hT (hn v hT) q hq, hm⟩
theorem down_end {T : Nat → Bool} {w : Nat} (h : T (2 * w) = T (2 * w + 1)) : ∀ f, downN T f w = w
  | 0 => rfl
  | f + 1 => by rw [downN, if_pos h]
theorem down_next {d : Nat} {R : List Int} {T : Nat → Bool} (k : Mk_ d R T) {v f w c : Nat} (hT : T w = true) (hd : downN T 7 v = downN T f w) (hl : lev w + f = lev v + 7) (hb : belowN w v = true) (hne : T (2 * w) ≠ T (2 * w + 1)) (hc : (if T (2 * w) then 2 * w else 2 * w + 1) = c) :
    T c = true ∧ downN T 7 v = downN T (f - 1) c ∧ lev c + (f - 1) = lev v + 7 ∧ belowN c v = true ∧ 0 < f := by
  obtain ⟨w1, w0, wd⟩ := k.lt128 hT
  obtain ⟨c', h1, h2, h3, h4, h5, h6⟩ := k.step w0 hne
  obtain rfl : c' = c := h1.symm.trans hc
  have h7 := lev_le w1
  have h8 : 0 < f := by omega
  obtain ⟨f', rfl⟩ : ∃ f', f = f' + 1 := ⟨f - 1, by omega⟩
  refine ⟨h2, ?_, by omega, below_trans (below_iff.2 ⟨by omega, by rw [h6, show lev w + 1 - lev w = 1 by omega]; exact h3⟩) hb, h8⟩
  rw [hd, downN, if_neg hne, hc, Nat.add_sub_cancel]
theorem em_1 {s : Sc} {T : Nat → Bool} {v : Nat} (hk : s.k = 1) (h1 : 1 < v) (h2 : T (sib v) = false) : [(((sib v : Nat) : Int), (0 : Int))] = emN s T v := by rw [emN, if_pos hk, if_pos ⟨h1, h2⟩]
theorem em_1n {s : Sc} {T : Nat → Bool} {v : Nat} (hk : s.k = 1) (h : ¬ (1 < v ∧ T (sib v) = false)) : [] = emN s T v := by rw [emN, if_pos hk, if_neg h]
theorem em_top {s : Sc} {T : Nat → Bool} {v : Nat} (hk : ¬ s.k = 1) (h : 1 < v ∧ T (sib v) = false) : [] = emN s T v := by rw [emN, if_neg hk, if_pos h]
theorem em_no {s : Sc} {T : Nat → Bool} {v w : Nat} (hk : ¬ s.k = 1) (h : ¬ (1 < v ∧ T (sib v) = false)) (hw : downN T 7 v = w) (e : w = v) : [] = emN s T v := by rw [emN, if_neg hk, if_neg h, if_pos (hw.trans e)]
theorem em_2 {s : Sc} {T : Nat → Bool} {v w : Nat} (hk : ¬ s.k = 1) (h : ¬ (1 < v ∧ T (sib v) = false)) (hw : downN T 7 v = w) (e : ¬ w = v) (hc : bet s.d w (lev w - lev v - 1) ≠ 0 ∧ s.k = 3 ∧ specN s.d v = false) :
    [((v : Int), ((bet s.d w (lev w - lev v - 1) : Nat) : Int)), (((bet s.d w (lev w - lev v - 1) : Nat) : Int), (w : Int))] = emN s T v := by rw [emN, if_neg hk, if_neg h, hw, if_neg e, cutN, if_pos hc]
theorem em_one {s : Sc} {T : Nat → Bool} {v w : Nat} (hk : ¬ s.k = 1) (h : ¬ (1 < v ∧ T (sib v) = false)) (hw : downN T 7 v = w) (e : ¬ w = v) (hc : ¬ (bet s.d w (lev w - lev v - 1) ≠ 0 ∧ s.k = 3 ∧ specN s.d v = false)) : [((v : Int), (w : Int))] = emN s T v := by rw [emN, if_neg hk, if_neg h, hw, if_neg e, cutN, if_neg hc]
theorem below_lt {w v : Nat} (hb : belowN w v = true) (hn : ¬ w = v) : v < w ∧ lev v < lev w := by
  have h1 := below_le hb
  obtain ⟨h2, h3⟩ := below_iff.1 hb
  refine ⟨by omega, Nat.lt_of_le_of_ne h2 fun e => hn ?_⟩
  rw [e, Nat.sub_self] at h3; exact h3
theorem em_node {s : Sc} {R : List Int} {T : Nat → Bool} (k : Mk_ s.d.toNat R T) {v : Nat} (hT : T v = true) {q : Int × Int} (hq : q ∈ emN s T v) : 0 ≤ q.1 ∧ q.1 < 128 := by
  obtain ⟨v1, v0, vd⟩ := k.lt128 hT
  unfold emN at hq
  split at hq
  · split at hq
    · rw [List.mem_singleton] at hq
      subst hq
      have := (sib_all v1).2.1
      simp only; omega
    · cases hq
  · split at hq
    · cases hq
    · split at hq
      · cases hq
      · obtain ⟨hb, hTw, _⟩ := k.down 7 v v0 v1 hT
        obtain ⟨w1, w0, wd⟩ := k.lt128 hTw
        unfold cutN at hq
        split at hq
        · simp only [List.mem_cons, List.not_mem_nil, or_false] at hq
          rcases hq with rfl | rfl
          · simp only; omega
          · rcases bet_form s.d (downN T 7 v) (lev (downN T 7 v) - lev v - 1) with h0 | ⟨j, j1, j2, j3⟩
            · simp only; omega
            · have := sh_le (downN T 7 v) j
              simp only; omega
        · rw [List.mem_singleton] at hq
          subst hq
          simp only; omega
theorem len1 {α : Type} (l : List α) (a : α) : (l ++ [a]).length = l.length + 1 := by simp
/-- the error of a cover -/
def covE (s : Sc) (l : List Int) : Int := if schB s = false then 30 else if usersB l ((p2 s.d.toNat : Nat) : Int) = false then 2 else 0
/-- what a cover covers -/
def CovOk (s : Sc) (l : List Int) (em : List (Int × Int)) : Prop := ∀ u, u < p2 s.d.toNat → ((∃ q ∈ em, memB s q.1 q.2 u = true) ↔ (u : Int) ∉ l)
theorem cov_nil {s : Sc} (d6 : s.d ≤ 6) : CovOk s [] [(1, 0)] := fun u hu => by
  have hp := p2_le (n := s.d.toNat) (by omega)
  have hp0 := p2_pos s.d.toNat
  refine ⟨fun _ => List.not_mem_nil, fun _ => ⟨(1, 0), List.mem_singleton.2 rfl, ?_⟩⟩
  rw [memB]
  have := below_top (y := p2 s.d.toNat + u) (by omega) (by omega)
  simp [this]
end Go.Proofs.YtoegpalacppllaaGreat.Tr

/- Pirates are shut out: who is revoked or named has no item left, and all others have one. No program is in sight here. -/
namespace Go.Proofs.YtoegpalacppllaaGreat.Tr
open Hn

theorem mem_allm {s : Sc} {l : List (Int × Int)} {u : Nat} (hu : u < p2 s.d.toNat) : (u : Int) ∈ allm s l ↔ ∃ q ∈ l, memB s q.1 q.2 u = true := by
  constructor
  · intro h
    obtain ⟨m, hm, hx⟩ := List.mem_flatten.1 h
    obtain ⟨y, hy, rfl⟩ := List.mem_map.1 hm
    have := (members_lt hx).2.2
    rw [Int.toNat_natCast] at this
    exact ⟨y, hy, this⟩
  · rintro ⟨q, hq, hm⟩
    exact List.mem_flatten.2 ⟨_, List.mem_map.2 ⟨q, hq, rfl⟩, members_mem hu hm⟩
theorem subs_q {s : Sc} {l : List (Int × Int)} (h : ∀ i, i < l.length → subB s (qn l i) (qm l i) = true) : ∀ q ∈ l, subB s q.1 q.2 = true := fun q hq => by
  obtain ⟨i, hi, e⟩ := q_mem.1 hq
  rw [e]; exact h i hi
section
variable {b : Bo} {em : List (Int × Int)} {noise : Int} {r : Ts × Nat} {rv : List Int} {u : Nat}
/-- who is revoked or named has no item -/
theorem top_out (k : TrOk b em noise r) (hc : CovOk b.s rv em) (hu : u < p2 b.s.d.toNat) (h : (u : Int) ∈ rv ∨ (u : Int) ∈ r.1.nm) : ¬ ∃ q ∈ r.1.l, memB b.s q.1 q.2 u = true := by
  intro hm
  have h1 := (mem_allm hu).2 hm
  rcases h with h | h
  · have h2 := k.fin.part.perm.subset (List.mem_append_left _ h1)
    exact (hc u hu).1 ((mem_allm hu).1 h2) h
  · exact (List.nodup_append.1 k.nd2).2.2 _ h1 _ h rfl
/-- all others have one -/
theorem top_in (k : TrOk b em noise r) (hc : CovOk b.s rv em) (hu : u < p2 b.s.d.toNat) (h1 : (u : Int) ∉ rv) (h2 : (u : Int) ∉ r.1.nm) : ∃ q ∈ r.1.l, memB b.s q.1 q.2 u = true := by
  have h3 := k.fin.part.perm.symm.subset ((mem_allm hu).2 ((hc u hu).2 h1))
  rcases List.mem_append.1 h3 with h | h
  · exact (mem_allm hu).1 h
  · exact absurd h h2
/-- and none of them is of the coalition of an immortal box -/
theorem top_pir (k : TrOk b em noise r) (hc : CovOk b.s rv em) (hu : u < p2 b.s.d.toNat) (hv : b.v = 0) (h1 : (u : Int) ∉ rv) (h2 : (u : Int) ∉ r.1.nm) : (u : Int) ∉ b.l := fun h => by
  have h3 := (mem_allm hu).2 ((hc u hu).2 h1)
  exact h2 (k.all hv h (mem_restL.2 ⟨all_64 k.s _ h3, h3⟩))
theorem top_e6 {root se : Pl.Kw} (k : TrOk b em noise r) (hu : u < p2 b.s.d.toNat) (h : ¬ ∃ q ∈ r.1.l, memB b.s q.1 q.2 u = true) : openE b.s (labL root b.s u (labN b.s u).length) (sealL root se b.s r.1.l) (Pl.derive se 53 0) = 6 := by
  have hq := subs_q k.subs'.2
  have h1 := k.subs'.1
  have hb : ¬ (64 < (sealL root se b.s r.1.l).length ∨ badI b.s (sealL root se b.s r.1.l) = true) := by
    rw [sealL_len, bad_seal hq]
    rintro (h | h)
    · omega
    · cases h
  rw [openE, if_neg hb, open_seal k.s hu hq, if_neg h]; rfl
theorem top_e0 {root se : Pl.Kw} (k : TrOk b em noise r) (hu : u < p2 b.s.d.toNat) (h : ∃ q ∈ r.1.l, memB b.s q.1 q.2 u = true) : openE b.s (labL root b.s u (labN b.s u).length) (sealL root se b.s r.1.l) (Pl.derive se 53 0) = 0 ∧ openK b.s (labL root b.s u (labN b.s u).length) (sealL root se b.s r.1.l) (Pl.derive se 53 0) = se := by
  have hq := subs_q k.subs'.2
  have h1 := k.subs'.1
  have hb : ¬ (64 < (sealL root se b.s r.1.l).length ∨ badI b.s (sealL root se b.s r.1.l) = true) := by
    rw [sealL_len, bad_seal hq]
    rintro (h | h)
    · omega
    · cases h
  rw [openE, openK, if_neg hb, if_neg hb, open_seal k.s hu hq, if_pos h]
  exact ⟨rfl, rfl⟩
theorem top_outZ {root se : Pl.Kw} {x : Int} (k : TrOk b em noise r) (hc : CovOk b.s rv em) (h0 : 0 ≤ x) (h1 : x < ((p2 b.s.d.toNat : Nat) : Int)) (h : rv.contains x = true ∨ r.1.nm.contains x = true) : openE b.s (labL root b.s x.toNat (labN b.s x.toNat).length) (sealL root se b.s r.1.l) (Pl.derive se 53 0) = 6 := by
  obtain ⟨n, rfl⟩ : ∃ n : Nat, x = n := ⟨x.toNat, by omega⟩
  rw [Int.toNat_natCast]
  exact top_e6 k (by omega) (top_out k hc (by omega) (h.imp List.contains_iff_mem.1 List.contains_iff_mem.1))
theorem top_not {l : List Int} {x : Int} (h : l.contains x = false) : x ∉ l := fun hm => by rw [List.contains_iff_mem.2 hm] at h; cases h
theorem top_inZ {root se : Pl.Kw} {x : Int} (k : TrOk b em noise r) (hc : CovOk b.s rv em) (h0 : 0 ≤ x) (h1 : x < ((p2 b.s.d.toNat : Nat) : Int)) (h2 : rv.contains x = false) (h3 : r.1.nm.contains x = false) : openE b.s (labL root b.s x.toNat (labN b.s x.toNat).length) (sealL root se b.s r.1.l) (Pl.derive se 53 0) = 0 ∧ openK b.s (labL root b.s x.toNat (labN b.s x.toNat).length) (sealL root se b.s r.1.l) (Pl.derive se 53 0) = se := by
  obtain ⟨n, rfl⟩ : ∃ n : Nat, x = n := ⟨x.toNat, by omega⟩
  rw [Int.toNat_natCast]
  exact top_e0 k (by omega) (top_in k hc (by omega) (top_not h2) (top_not h3))
theorem top_pirZ {x : Int} (k : TrOk b em noise r) (hc : CovOk b.s rv em) (h0 : 0 ≤ x) (h1 : x < ((p2 b.s.d.toNat : Nat) : Int)) (hv : b.v = 0) (h2 : rv.contains x = false) (h3 : r.1.nm.contains x = false) : b.l.contains x = false := by
  obtain ⟨n, rfl⟩ : ∃ n : Nat, x = n := ⟨x.toNat, by omega⟩
  have h := top_pir k hc (u := n) (by omega) hv (top_not h2) (top_not h3)
  cases hb : b.l.contains (n : Int) with
  | false => rfl
  | true => exact absurd (List.contains_iff_mem.1 hb) h
theorem top_seal (k : TrOk b em noise r) : sealE b.s r.1.l = 0 := by
  rw [sealE_l (by rw [chk_yes k.s]; decide)]; exact subsE_all.2 k.subs'
end
theorem labL_x {root : Pl.Kw} {s : Sc} {u n : Nat} (hs : schB s = true) (hu : u < p2 s.d.toNat) : ∀ q ∈ labL root s u n, q.x < 128 := fun q hq => by
  obtain ⟨p, hp, rfl⟩ := List.mem_map.1 hq
  obtain ⟨i, hi, e⟩ := q_mem.1 (List.mem_of_mem_take hp)
  have h := lab_lt hs hu i hi
  rw [e]; exact h
theorem labL_le {root : Pl.Kw} {s : Sc} {u n : Nat} (hs : schB s = true) : (labL root s u n).length ≤ 50 := by
  have := lab_len (u := u) hs
  rw [labL, List.length_map, List.length_take]; omega
end Go.Proofs.YtoegpalacppllaaGreat.Tr
namespace Go.Proofs.YtoegpalacppllaaGreat
open Go.RowKit Pl Tr Hn
/-- items in memory of one's own -/
theorem OwnSl.repIt {e : TypeId} {a : Option Addr} {n c : Nat} {l : List It} {Bs : List Blk} (hO : OwnSl e 18 a n c (itL l) Bs) : Rep Bs fun W => RdC W ⟨a, n, c⟩ l.length (itL l) := fun b W hW => by
  have hn : n = l.length := by have := hO.1; rw [itL_len] at this; omega
  refine ⟨⟨?_, fun h => (hO.nilOf h).2⟩, hn, OwnSl.rdS (L := []) hO (by simpa using hW)⟩
  rcases hO.2 with ⟨_, h1, h2, _⟩ | ⟨g, cur, _, _, h1, _⟩
  · simp [h1]
  · exact h1
end Go.Proofs.YtoegpalacppllaaGreat

/- Parts of slices of subsets, and what is appended from them. No function of the program is in sight here. -/
namespace Go.Proofs.YtoegpalacppllaaGreat
open Go.RowKit Pl Tr Hn

def Sl.fromB (s : Sl) (k : Nat) : Sl := ⟨s.a.map fun ad => if s.c = k then ad else ad.add (k * 2), s.n - k, s.c - k⟩
theorem sl2_takeB : ∀ (l : List (Int × Int)) (k : Nat), sl2 (l.take k) = (sl2 l).take (2 * k)
  | [], k => by simp [sl2]
  | x :: l, 0 => by simp [sl2]
  | x :: l, k + 1 => by
    rw [List.take_succ_cons, show 2 * (k + 1) = 2 * k + 1 + 1 by omega]
    simp only [sl2, List.take_succ_cons, sl2_takeB l k]
theorem sl2_dropB : ∀ (l : List (Int × Int)) (k : Nat), sl2 (l.drop k) = (sl2 l).drop (2 * k)
  | [], k => by simp [sl2]
  | x :: l, 0 => by simp
  | x :: l, k + 1 => by
    rw [List.drop_succ_cons, show 2 * (k + 1) = 2 * k + 1 + 1 by omega]
    simp only [sl2, List.drop_succ_cons, sl2_dropB l k]
theorem RdB.to {w : World} {s : Sl} {l : List (Int × Int)} (h : RdB w s l) {k : Nat} (hk : k ≤ s.n) : RdB w (s.to k) (l.take k) := by
  have hn := h.len
  refine ⟨⟨by have := h.ok.le; show k ≤ s.c; omega, h.ok.nil⟩, by show k = _; simp; omega, fun j u hu => ?_⟩
  rw [sl2_takeB, List.getElem?_take] at hu
  split at hu
  · exact h.rd j u hu
  · cases hu
theorem RdB.from {w : World} {s : Sl} {l : List (Int × Int)} (h : RdB w s l) {k : Nat} (hk : k ≤ s.n) : RdB w (s.fromB k) (l.drop k) := by
  have hn := h.len
  have hle := h.ok.le
  refine ⟨⟨by show s.n - k ≤ s.c - k; omega, fun e => ?_⟩, by show s.n - k = _; simp; omega, fun j u hu => ?_⟩
  · have : s.a = none := by simpa [Sl.fromB] using e
    have := h.ok.nil this
    show s.c - k = 0
    omega
  · rw [sl2_dropB, List.getElem?_drop] at hu
    obtain ⟨b, i, ha, hc⟩ := h.rd (2 * k + j) u hu
    have hlt := (List.getElem?_eq_some_iff.1 hu).1
    rw [sl2_len] at hlt
    have hne : ¬ s.c = k := by omega
    refine ⟨b, i + k * 2, ?_, by rw [← hc]; congr 2; omega⟩
    simp [Sl.fromB, ha, hne, Addr.add_lit]
section
variable {P : Program} {ops : Array Oper} {Q : Exit → Act → World → Prop} {bs : List Value} {us : List (Nat × Value)} {ds : List Deferred} {w0 : Base} {W : World} {rest : List Oper} {o : Oper} {L Bs : List Blk} {d : Nat} {r : Option (Option Nat)} {m : Nat}
end
theorem GivesX.mono {P : Program} {f : FuncId} {args : Array Value} {Pre : World → Prop} {X Y : Value → List Blk → Prop} (h : GivesX P f args Pre X) (hxy : ∀ v Bs, X v Bs → Y v Bs) : GivesX P f args Pre Y := fun w hp => (h w hp).mono fun _ _ ⟨v, Bs, he, hx, hc⟩ => ⟨v, Bs, he, hxy v Bs hx, hc⟩
end Go.Proofs.YtoegpalacppllaaGreat

/- What a receiver is handed; whether a number is in a list. -/
namespace Go.Proofs.YtoegpalacppllaaGreat
open Go.RowKit Pl
open Tr Hn
/-- what a receiver is handed, for every whole number -/
theorem g_Secret (root : Kw) (s : Sc) (u : Int) : GivesX Tryz.prog 19 [keyV root, .agg [.int .u8 s.k, .int .i64 s.d, .int .i64 s.g, .int .u64 s.p, .int .u64 s.q, .int .u64 s.r].toArray, .int .i64 u].toArray (fun _ => True) (fun v Bs => ∃ (h : Sl) (x : Int), v = .tuple #[.agg [.int .i64 x, h.v, .int .u64 0, .int .u64 0].toArray, .int .i64 (secE s u)] ∧ (secE s u = 0 → x = u ∧ h.n = (labN s u.toNat).length ∧ OwnSl 130 18 h.a h.n h.c (itL (labL root s u.toNat (labN s u.toNat).length)) Bs)) := by
 cases hs : schB s with
 | false => exact g_SecretN root s u hs
 | true =>
  by_cases hu : 0 ≤ u ∧ u < ((p2 s.d.toNat : Nat) : Int)
  ·obtain ⟨n, rfl⟩ : ∃ n : Nat, u = n := ⟨u.toNat, by omega⟩
   refine GivesX.mono (g_SecretY root s n hs (by omega)) ?_
   rintro v Bs ⟨a, c, rfl, hO⟩
   have e : secE s n = 0 := by rw [secE, if_neg (by rw [hs]; decide), if_pos hu]
   exact ⟨⟨a, _, c⟩, n, by rw [e], fun _ => ⟨rfl, by rw [Int.toNat_natCast], by rw [Int.toNat_natCast]; exact hO⟩⟩
  ·exact g_SecretR root s u hs hu
theorem sec_ok {s : Sc} {u : Int} (h : secE s u = 0) : schB s = true ∧ 0 ≤ u ∧ u < ((p2 s.d.toNat : Nat) : Int) := by
 unfold secE at h
 split at h
 ·exact absurd h (by decide)
 ·next hs =>
  split at h
  ·next hu => exact ⟨by cases hb : schB s with
    | true => rfl
    | false => exact absurd hb hs, hu⟩
  ·exact absurd h (by decide)
set_option maxRecDepth 10000 in
/-- headend/headendtop.in -/
theorem g_tin (aa : Option Addr) (an ac : Nat) (l : List Int) (x : Int) (hl : l.length ≤ 4294967296) : GivesR Tryz.prog 22 [.slice aa an ac, .int .i64 x].toArray (fun w => RdI w ⟨aa, an, ac⟩ l) (.bool (l.contains x)) := by
 refine givesR_of Tryz.func22 rfl (bs := [.slice aa an ac, .int .i64 x, undef, undef, undef, undef, undef, undef, undef, undef, undef, undef, undef, undef, undef, undef, undef, undef]) rfl ?_
 intro w hP hW
 have hn : an = l.length := hP.len
 refine c_seq (c_reg ?_)
 refine bB ?_
 refine l_end (n_then (c_seq (c_seq (c_reg ?_))))
 refine aS ?_
 refine l_val (r_lenSlice Tryz.underlying27 rfl rfl) rfl rfl ?_
 refine aI ?_
 refine l_end (n_then (c_block ?_))
 refine c_loop (fun (i : Nat) (j : Nat → Value) => [.slice aa an ac, .int .i64 x, j 2, j 3, j 4, j 5, .slice aa an ac, .int .i64 (an : Int), .int .i64 (i : Int), j 9, j 10, j 11, j 12, j 13, j 14, j 15, j 16, j 17]) (fun (i : Nat) => []) (fun (i : Nat) => i ≤ an ∧ ∀ k, k < i → at_ l k ≠ x) (fun (i : Nat) => an - i) 0 (by kernel_rfl) hW ⟨by omega, all_zero⟩ ?_
 intro i j W hx hW
 refine c_seq (c_reg ?_)
 refine l_val (r_lssN rfl rfl rfl rfl) rfl rfl ?_
 refine l_split ?_ ?_
 ·intro hc1
  replace hc1 := of_decide_eq_true hc1
  obtain ⟨b0, o0, ha, hc⟩ := hP.ptr (by omega)
  simp only at ha
  subst ha
  refine l_end (n_then (c_seq ?_))
  refine c_true rfl ?_
  refine c_skip (n_then (c_seq (c_block (c_seq (c_reg ?_)))))
  refine aI ?_
  refine bI ?_
  refine l_end (n_then (c_seq (c_reg ?_)))
  refine aS ?_
  refine aI ?_
  refine l_val (r_indexAddrSl2 (n := i) Tryz.underlying27 tyC3.size rfl rfl rfl (by omega)) rfl rfl ?_
  refine l_loadF hW tyC3 (v := .int .i64 (at_ l (i))) (hc (i) (by omega)) rfl rfl rfl rfl ?_
  refine aI ?_
  refine l_val (r_eql rfl rfl rfl rfl) rfl rfl ?_
  refine l_split ?_ ?_
  ·intro hc2
   replace hc2 := of_decide_eq_true hc2
   refine l_end (n_then ?_)
   refine c_true rfl ?_
   refine c_seq (c_reg ?_)
   refine bB ?_
   refine l_end (n_then (c_ret (r_block (r_then (r_then (r_block (r_then ?_)))))))
   refine ret_tmp (v := .bool (l.contains x)) rfl ?_ ⟨rfl, hW.below⟩
   rw [has_at (by omega) hc2]; rfl
  ·intro hc2
   replace hc2 := of_decide_eq_false hc2
   refine l_end (n_then ?_)
   refine c_false rfl ?_
   refine c_skip (n_block (n_then (c_reg ?_)))
   refine l_val (r_addN (n := 1) rfl rfl rfl (by omega)) rfl rfl ?_
   refine aI ?_
   refine l_end (n_then ?_)
   exact loop_next (i + 1) (by kernel_rfl) hW ⟨by omega, all_step hx.2 hc2⟩ (by omega)
 ·intro hc1
  replace hc1 := of_decide_eq_false hc1
  refine l_end (n_then (c_seq ?_))
  refine c_false rfl ?_
  refine c_exit (x_then (x_then ?_))
  refine x_hit ?_
  refine n_then (c_seq (c_reg ?_))
  refine bB ?_
  refine l_end (n_then (c_ret ?_))
  refine ret_tmp (v := .bool (l.contains x)) rfl ?_ ⟨rfl, hW.below⟩
  rw [has_no hn fun k hk => hx.2 k (by omega)]; rfl

end Go.Proofs.YtoegpalacppllaaGreat

/- What finds a key. -/
namespace Go.Proofs.YtoegpalacppllaaGreat
open Go.RowKit Pl
open Tr Hn
theorem hdC_box (s : Sl) (ck : Kw) : ((hdC s ck).drop 3).take 16 = kc (0#64, 0#64) := by
 rw [show (hdC s ck).drop 3 = kc (0#64, 0#64) ++ kc ck from rfl, List.take_append_of_le_length (by rw [kc_len]; decide), List.take_of_length_le (by rw [kc_len]; decide)]
theorem bld_k0 : ∀ w, (Instr.build 29 ([] : List (Nat × Value)).toArray).run Tryz.prog w = .ok (keyV (0#64, 0#64)) w := fun _ => by kernel_rfl
set_option maxRecDepth 10000 in
/-- (headend/cover.tree).leads -/
theorem g_pleadsK (s : Sc) (q : It) (v x : Int) (hv : 1 ≤ v) (hv2 : v < 128) (hx : 0 ≤ x) (hx2 : x < 128) (hm2 : q.x < 128) : Gives Tryz.prog 92 [.agg [.int .u8 s.k, .int .i64 s.d, .int .i64 (strideN s.d : Int)].toArray, .agg (it1 q).toArray, .agg [.int .i64 v, .int .i64 x].toArray].toArray (.bool (leadB s q.v q.x v x)) := by
 refine gives_of Tryz.func92 rfl (bs := [.agg [.int .u8 s.k, .int .i64 s.d, .int .i64 (strideN s.d : Int)].toArray, .agg (it1 q).toArray, .agg [.int .i64 v, .int .i64 x].toArray, undef, undef, undef, undef, undef, undef, undef, undef, undef, undef, undef, undef, undef, undef, undef, undef, undef, undef, undef, undef, undef, undef, undef, undef, undef, undef, undef, undef, undef, undef, undef, undef, undef, undef, undef]) rfl ?_
 intro w hW
 refine c_seq (c_reg ?_)
 refine xB hW ?_
 intro g1 W hW
 refine xB hW ?_
 intro g2 W hW
 refine xB hW ?_
 intro g3 W hW
 refine bB ?_
 refine l_end (n_then (c_seq (c_seq (c_reg ?_))))
 refine l_val (r_fieldAddr 0 Tryz.underlying130 rfl tyC3.size rfl rfl rfl) rfl rfl ?_
 refine dC hW 1 tyC3 ?_
 refine l_val (r_fieldAddr 0 Tryz.underlying64 rfl tyC3.size rfl rfl rfl) rfl rfl ?_
 refine dC hW 0 tyC3 ?_
 refine l_val (r_neq rfl rfl rfl rfl) rfl rfl ?_
 refine l_split ?_ ?_
 ·intro hc1
  replace hc1 := of_decide_eq_true hc1
  refine l_end (n_then ?_)
  refine c_true rfl ?_
  refine c_seq (c_reg ?_)
  refine bB ?_
  refine l_end (n_then (c_ret (r_then ?_)))
  refine ret_tmp (v := .bool (leadB s q.v q.x v x)) rfl ?_ ⟨rfl, hW.below⟩
  exact congrArg Value.bool (by unfold leadB; split <;> simp [show ¬ q.v = v by omega])
 ·intro hc1
  replace hc1 := of_decide_eq_false hc1
  refine l_end (n_then ?_)
  refine c_false rfl ?_
  refine c_skip (n_then (c_seq (c_seq (c_reg ?_))))
  refine l_val (r_fieldAddr 0 Tryz.underlying106 rfl tyC5.size rfl rfl rfl) rfl rfl ?_
  refine dC hW 2 tyC5 ?_
  refine l_val (r_eql rfl rfl rfl rfl) rfl rfl ?_
  refine l_split ?_ ?_
  ·intro hc2
   replace hc2 := of_decide_eq_true hc2
   refine aB ?_
   refine lN ?_
   refine lN ?_
   refine lN ?_
   refine kB ?_
   refine l_end (n_then ?_)
   refine c_true rfl ?_
   refine c_seq (c_reg ?_)
   refine l_val (r_fieldAddr 1 Tryz.underlying130 rfl tyC3.size rfl rfl rfl) rfl rfl ?_
   refine dC hW 1 tyC3 ?_
   refine l_val (r_fieldAddr 1 Tryz.underlying64 rfl tyC3.size rfl rfl rfl) rfl rfl ?_
   refine dC hW 0 tyC3 ?_
   refine l_val (r_eql rfl rfl rfl rfl) rfl rfl ?_
   refine bB ?_
   refine l_end (n_then (c_ret (r_then ?_)))
   refine ret_tmp (v := .bool (leadB s q.v q.x v x)) rfl ?_ ⟨rfl, hW.below⟩
   exact congrArg Value.bool (by rw [leadB, if_pos (by omega)]; exact decide_eq_decide.2 (by omega))
  ·intro hc2
   replace hc2 := of_decide_eq_false hc2
   refine aB ?_
   refine l_valG (r_fieldAddr 1 Tryz.underlying64 rfl tyC3.size rfl rfl rfl) (by kernel_rfl) rfl ?_
   refine dG hW 0 tyC3 ?_
   refine l_valG (r_eql rfl rfl rfl rfl) (by kernel_rfl) rfl ?_
   refine l_split ?_ ?_
   ·intro hc3
    replace hc3 := of_decide_eq_true hc3
    refine kB ?_
    refine l_end (n_then ?_)
    refine c_true rfl ?_
    refine c_seq (c_reg ?_)
    refine l_val (r_fieldAddr 1 Tryz.underlying130 rfl tyC3.size rfl rfl rfl) rfl rfl ?_
    refine dC hW 1 tyC3 ?_
    refine l_val (r_fieldAddr 1 Tryz.underlying64 rfl tyC3.size rfl rfl rfl) rfl rfl ?_
    refine dC hW 0 tyC3 ?_
    refine l_val (r_eql rfl rfl rfl rfl) rfl rfl ?_
    refine bB ?_
    refine l_end (n_then (c_ret (r_then ?_)))
    refine ret_tmp (v := .bool (leadB s q.v q.x v x)) rfl ?_ ⟨rfl, hW.below⟩
    exact congrArg Value.bool (by rw [leadB, if_pos (by omega)]; exact decide_eq_decide.2 (by omega))
   ·intro hc3
    replace hc3 := of_decide_eq_false hc3
    refine kB ?_
    refine l_end (n_then ?_)
    refine c_false rfl ?_
    refine c_skip (n_then (c_seq (c_reg ?_)))
    refine l_val (r_fieldAddr 1 Tryz.underlying130 rfl tyC3.size rfl rfl rfl) rfl rfl ?_
    refine dC hW 1 tyC3 ?_
    refine bI ?_
    refine l_end (n_then (c_seq (c_reg ?_)))
    refine aI ?_
    refine l_val (r_fieldAddr 0 Tryz.underlying130 rfl tyC3.size rfl rfl rfl) rfl rfl ?_
    refine dC hW 1 tyC3 ?_
    refine l_call hW (g_pbelowX q.x q.v (by omega) (by omega) (by omega)) en114 rfl rfl rfl rfl ?_
    intro W hW
    refine l_split ?_ ?_
    ·intro hc4
     have hm1 : 1 ≤ q.x := of_decide_eq_true (Bool.and_eq_true_iff.1 hc4).1
     refine aB ?_
     refine l_valG (r_fieldAddr 1 Tryz.underlying64 rfl tyC3.size rfl rfl rfl) (by kernel_rfl) rfl ?_
     refine dG hW 0 tyC3 ?_
     refine gI ?_
     refine l_callG hW (g_pbelowZZ x q.x (by omega) (by omega) (by omega) (by omega)) en114 (by kernel_rfl) rfl rfl rfl ?_
     intro W hW
     refine kB ?_
     refine bB ?_
     refine l_end (n_then (c_ret ?_))
     refine ret_tmp (v := .bool (leadB s q.v q.x v x)) rfl ?_ ⟨rfl, hW.below⟩
     exact congrArg Value.bool (by rw [leadB, if_neg (by omega), decide_eq_true (show q.v = v ∧ 1 ≤ q.x by omega), (Bool.and_eq_true_iff.1 hc4).2]; rfl)
    ·intro hc4
     refine aB ?_
     refine lN ?_
     refine lN ?_
     refine lN ?_
     refine lN ?_
     refine kB ?_
     refine bB ?_
     refine l_end (n_then (c_ret ?_))
     refine ret_tmp (v := .bool (leadB s q.v q.x v x)) rfl ?_ ⟨rfl, hW.below⟩
     have e : decide (q.v = v ∧ 1 ≤ q.x) = decide (1 ≤ q.x) := decide_eq_decide.2 (by omega)
     exact congrArg Value.bool (by rw [leadB, if_neg (by omega), e, hc4]; rfl)

set_option maxRecDepth 10000 in
/-- (headend/cover.tree).find -/
theorem g_pfind (s : Sc) (u : Int) (la : Option Addr) (ln lc : Nat) (ls : List It) (v x : Int) (hs : schB s = true) (hsub : subB s v x = true) (hlt : ∀ q ∈ ls, q.x < 128) (hll : ls.length ≤ 100000) : GivesR Tryz.prog 73 [.agg [.int .u8 s.k, .int .i64 s.d, .int .i64 (strideN s.d : Int)].toArray, .agg [.int .i64 u, .slice la ln lc, .int .u64 0, .int .u64 0].toArray, .agg [.int .i64 v, .int .i64 x].toArray].toArray (fun w => RdC w ⟨la, ln, lc⟩ ls.length (itL ls)) (.tuple #[keyV ((findV s ls v x).getD (0#64, 0#64)), .bool (findV s ls v x).isSome]) := by
 refine givesR_of Tryz.func73 rfl (bs := [.agg [.int .u8 s.k, .int .i64 s.d, .int .i64 (strideN s.d : Int)].toArray, .agg [.int .i64 u, .slice la ln lc, .int .u64 0, .int .u64 0].toArray, .agg [.int .i64 v, .int .i64 x].toArray, undef, undef, undef, undef, undef, undef, undef, undef, undef, undef, undef, undef, undef, undef, undef, undef, undef, undef, undef, undef, undef, undef, undef, undef, undef, undef, undef, undef, undef, undef, undef, undef, undef, undef, undef, undef, undef, undef, undef, undef, undef]) rfl ?_
 intro w hP hW
 obtain ⟨k1, k3, d0, d6, -⟩ := schB_iff.1 hs
 obtain ⟨hx1, hx2, hx3, hx4⟩ := sub_x d6 hsub
 have hn : ln = ls.length := hP.n
 refine c_seq (c_reg ?_)
 refine xB hW ?_
 intro g1 W hW
 refine xB hW ?_
 intro g2 W hW
 refine xB hW ?_
 intro g3 W hW
 refine l_alloc hW tyZ29 rfl rfl rfl ?_
 intro g4 W hW
 refine bB ?_
 refine l_end (n_then (c_seq (c_seq (c_reg ?_))))
 refine l_val (r_fieldAddr 1 Tryz.underlying45 rfl tyC41.size rfl rfl rfl) rfl rfl ?_
 refine dC hW 2 tyC41 ?_
 refine l_val (r_lenSlice Tryz.underlying41 rfl rfl) rfl rfl ?_
 refine aI ?_
 refine l_end (n_then (c_block ?_))
 refine c_loop (fun (i : Nat) (j : Nat → Value) => [.agg [.int .u8 s.k, .int .i64 s.d, .int .i64 (strideN s.d : Int)].toArray, .agg [.int .i64 u, .slice la ln lc, .int .u64 0, .int .u64 0].toArray, .agg [.int .i64 v, .int .i64 x].toArray, .pointer (some ⟨g1, 0, none⟩), .pointer (some ⟨g2, 0, none⟩), .pointer (some ⟨g3, 0, none⟩), .pointer (some ⟨g4, 0, none⟩), j 7, j 8, j 9, .pointer (some ⟨g2, 1, none⟩), .slice la ln lc, .int .i64 (ln : Int), .int .i64 (i : Int), j 14, j 15, j 16, j 17, j 18, j 19, j 20, j 21, j 22, j 23, j 24, j 25, j 26, j 27, j 28, j 29, j 30, j 31, j 32, j 33, j 34, j 35, j 36, j 37, j 38, j 39, j 40, j 41, j 42, j 43]) (fun (i : Nat) => [⟨g4, z29, 29⟩, ⟨g3, [.int .i64 v, .int .i64 x], 64⟩, ⟨g2, [.int .i64 u, .slice la ln lc, .int .u64 0, .int .u64 0], 45⟩, ⟨g1, [.int .u8 s.k, .int .i64 s.d, .int .i64 (strideN s.d : Int)], 106⟩]) (fun (i : Nat) => i ≤ ln ∧ ∀ z ∈ ls.take i, leadI s v x z = false) (fun (i : Nat) => ln - i) 0 (by kernel_rfl) hW ⟨Nat.zero_le _, fun z hz => by simp at hz⟩ ?_
 intro i j W hx hW
 refine c_seq (c_reg ?_)
 refine l_val (r_lssN rfl rfl rfl rfl) rfl rfl ?_
 refine l_split ?_ ?_
 ·intro hc1
  replace hc1 := of_decide_eq_true hc1
  obtain ⟨q, hq⟩ : ∃ q, ls[i]? = some q := ⟨_, List.getElem?_eq_getElem (by omega)⟩
  obtain ⟨b0, o0, ha, hc⟩ := hP.it hq
  simp only at ha
  subst ha
  have hq2 := hlt q (List.mem_of_getElem? hq)
  refine l_end (n_then (c_seq ?_))
  refine c_true rfl ?_
  refine c_skip (n_then (c_seq (c_block (c_seq (c_reg ?_)))))
  refine l_val (r_indexAddrSl (n := i) Tryz.underlying41 tyA130.size rfl rfl rfl (by omega)) rfl rfl ?_
  refine l_loadFs hW tyA130 (vs := it1 q) hc (it1_len _) rfl rfl rfl rfl ?_
  refine l_alloc hW tyZ130 rfl rfl rfl ?_
  intro g5 W hW
  refine l_storeA hW 0 tyA130 rfl rfl rfl rfl rfl rfl rfl (it1_len _) (it1_one _) ?_
  intro W hW
  refine l_end (n_then (c_seq (c_block (c_seq (c_reg ?_)))))
  refine dA hW 4 tyA106 ?_
  refine l_loadA hW 0 tyA130 rfl rfl rfl rfl rfl (it1_len _) ?_
  refine dA hW 2 tyA64 ?_
  refine l_call hW (g_pleadsK s q v x hx1 hx2 hx3 hx4 hq2) en92 rfl rfl rfl rfl ?_
  intro W hW
  refine l_split ?_ ?_
  ·intro hc2
   have hld : leadI s v x q = true := hc2
   refine l_val (r_not rfl rfl) rfl rfl ?_
   refine bB ?_
   refine l_end (n_then ?_)
   refine c_false rfl ?_
   refine c_seq (c_reg ?_)
   refine l_val (r_fieldAddr 0 Tryz.underlying106 rfl tyC5.size rfl rfl rfl) rfl rfl ?_
   refine dC hW 4 tyC5 ?_
   refine l_val (r_eql rfl rfl rfl rfl) rfl rfl ?_
   refine l_split ?_ ?_
   ·intro hc3
    replace hc3 := of_decide_eq_true hc3
    refine aB ?_
    refine lN ?_
    refine lN ?_
    refine lN ?_
    refine kB ?_
    refine bB ?_
    refine l_end (n_then ?_)
    refine c_true rfl ?_
    refine c_seq (c_reg ?_)
    refine l_val (r_fieldAddr 2 Tryz.underlying130 rfl tyA29.size rfl rfl rfl) rfl rfl ?_
    refine l_loadP hW 0 tyA29 rfl rfl rfl rfl rfl (it1_b2 _) (it1_key _) ?_
    refine sA hW 1 tyA29 ?_
    intro W hW
    refine bB ?_
    refine l_end (n_then (c_ret (r_block (r_then (r_block (r_then (r_then (r_block (r_then ?_)))))))))
    refine rT hW 1 tyA29 ?_
    have e := findV_yes hq hx.2 hld
    have e2 : useK s x q = q.k := if_pos (by omega)
    rw [e2] at e
    exact ⟨by rw [e]; rfl, hW.below⟩
   ·intro hc3
    replace hc3 := of_decide_eq_false hc3
    refine aB ?_
    refine l_valG (r_fieldAddr 1 Tryz.underlying64 rfl tyC3.size rfl rfl rfl) (by kernel_rfl) rfl ?_
    refine dG hW 2 tyC3 ?_
    refine l_valG (r_eql rfl rfl rfl rfl) (by kernel_rfl) rfl ?_
    refine l_split ?_ ?_
    ·intro hc4
     replace hc4 := of_decide_eq_true hc4
     refine kB ?_
     refine bB ?_
     refine l_end (n_then ?_)
     refine c_true rfl ?_
     refine c_seq (c_reg ?_)
     refine l_val (r_fieldAddr 2 Tryz.underlying130 rfl tyA29.size rfl rfl rfl) rfl rfl ?_
     refine l_loadP hW 0 tyA29 rfl rfl rfl rfl rfl (it1_b2 _) (it1_key _) ?_
     refine sA hW 1 tyA29 ?_
     intro W hW
     refine bB ?_
     refine l_end (n_then (c_ret (r_block (r_then (r_block (r_then (r_then (r_block (r_then ?_)))))))))
     refine rT hW 1 tyA29 ?_
     have e := findV_yes hq hx.2 hld
     have e2 : useK s x q = q.k := if_pos (by omega)
     rw [e2] at e
     exact ⟨by rw [e]; rfl, hW.below⟩
    ·intro hc4
     replace hc4 := of_decide_eq_false hc4
     have hl1 : leadB s q.v q.x v x = true := hld
     rw [leadB, if_neg (by omega)] at hl1
     simp only [Bool.and_eq_true, decide_eq_true_eq] at hl1
     obtain ⟨⟨⟨hl1, hl2⟩, hl3⟩, hl4⟩ := hl1
     refine kB ?_
     refine bB ?_
     refine l_end (n_then ?_)
     refine c_false rfl ?_
     refine c_skip (n_block (n_then (c_seq (c_reg ?_))))
     refine l_val (r_fieldAddr 2 Tryz.underlying130 rfl tyA29.size rfl rfl rfl) rfl rfl ?_
     refine l_loadP hW 0 tyA29 rfl rfl rfl rfl rfl (it1_b2 _) (it1_key _) ?_
     refine l_val (r_fieldAddr 1 Tryz.underlying130 rfl tyC3.size rfl rfl rfl) rfl rfl ?_
     refine dC hW 0 tyC3 ?_
     refine l_val (r_fieldAddr 1 Tryz.underlying64 rfl tyC3.size rfl rfl rfl) rfl rfl ?_
     refine dC hW 2 tyC3 ?_
     refine l_call hW (g_descendZ q.k q.x x (by omega) (by omega) (by omega) hl4) en66 rfl rfl rfl rfl ?_
     intro W hW
     refine l_call hW (g_middle (descK q.k q.x.toNat x.toNat)) en111 rfl rfl rfl rfl ?_
     intro W hW
     refine sA hW 1 tyA29 ?_
     intro W hW
     refine bB ?_
     refine l_end (n_then (c_ret (r_block (r_then (r_then (r_block (r_then ?_)))))))
     refine rT hW 1 tyA29 ?_
     have e := findV_yes hq hx.2 hld
     have e2 : useK s x q = derive (descK q.k q.x.toNat x.toNat) 33 0 := if_neg (by omega)
     rw [e2] at e
     exact ⟨by rw [e]; rfl, hW.below⟩
  ·intro hc2
   have hld : leadI s v x q = false := hc2
   refine l_val (r_not rfl rfl) rfl rfl ?_
   refine bB ?_
   refine l_end (n_then ?_)
   refine c_true rfl ?_
   refine c_exit ?_
   refine x_miss (by decide) ?_
   refine x_then ?_
   refine x_hit ?_
   refine n_then (c_reg ?_)
   refine l_val (r_addN (n := 1) rfl rfl rfl (by omega)) rfl rfl ?_
   refine aI ?_
   refine l_end (n_then ?_)
   exact loop_next (i + 1) (by kernel_rfl) (hW.drop 1) ⟨by omega, takeF_all hq hx.2 hld⟩ (by omega)
 ·intro hc1
  replace hc1 := of_decide_eq_false hc1
  refine l_end (n_then (c_seq ?_))
  refine c_false rfl ?_
  refine c_exit (x_then (x_then ?_))
  refine x_hit ?_
  refine n_then (c_seq (c_reg ?_))
  refine l_val (r_build (ps := []) bld_k0 rfl rfl) rfl rfl ?_
  refine sA hW 0 tyA29 ?_
  intro W hW
  refine bB ?_
  refine l_end (n_then (c_ret ?_))
  refine rT hW 0 tyA29 ?_
  have e := findV_no (s := s) (ls := ls) (v := v) (x := x) fun z hz => hx.2 z (by rwa [List.take_of_length_le (by omega)])
  exact ⟨by rw [e]; rfl, hW.below⟩

set_option maxRecDepth 10000 in
/-- headend/cover.Open$1 -/
theorem g_Open1 (s : Sc) (q : It) (ga_ : Nat) (hs : schB s = true) : GivesR Tryz.prog 70 [.agg (it1 q).toArray, .pointer (some ⟨ga_, 0, none⟩)].toArray (fun w => w.heap[ga_]? = some (.cells [.int .u8 s.k, .int .i64 s.d, .int .i64 (strideN s.d : Int)].toArray 106 (0, 0))) (.bool (!subB s q.v q.x)) := by
 refine givesR_of Tryz.func70 rfl (bs := [.agg (it1 q).toArray, .pointer (some ⟨ga_, 0, none⟩), undef, undef, undef, undef, undef, undef, undef]) rfl ?_
 intro w hP hW
 obtain ⟨k1, k3, d0, d6, -⟩ := schB_iff.1 hs
 refine c_seq (c_reg ?_)
 refine xB hW ?_
 intro g1 W hW
 refine bB ?_
 refine l_end (n_then (c_seq (c_reg ?_)))
 refine l_loadFA hW tyA106 (cs := [.int .u8 s.k, .int .i64 s.d, .int .i64 (strideN s.d : Int)]) hP rfl rfl rfl rfl rfl ?_
 refine l_val (r_fieldAddr 0 Tryz.underlying100 rfl tyA64.size rfl rfl rfl) rfl rfl ?_
 refine l_loadP hW 0 tyA64 rfl rfl rfl rfl rfl (it1_b0 _) (it1_sub _) ?_
 refine l_call hW (g_psubset s _ _ d0 d6) en71 rfl rfl rfl rfl ?_
 intro W hW
 refine l_val (r_not rfl rfl) rfl rfl ?_
 refine bB ?_
 refine l_end (n_then (c_ret ?_))
 refine ret_tmp (v := .bool (!subB s q.v q.x)) rfl ?_ ⟨rfl, hW.below⟩
 rfl

set_option maxRecDepth 10000 in
/-- slices.IndexFunc[[]headend/api.Item,headend/api.Item] -/
theorem g_IndexI (s : Sc) (ga_ : Nat) (hs : schB s = true) (aa : Option Addr) (an ac : Nat) (its : List It) (hil : its.length ≤ 100000) : GivesR Tryz.prog 115 [.slice aa an ac, .func (.func 70) #[] #[.pointer (some ⟨ga_, 0, none⟩)]].toArray (fun w => (w.heap[ga_]? = some (.cells [.int .u8 s.k, .int .i64 s.d, .int .i64 (strideN s.d : Int)].toArray 106 (0, 0))) ∧ RdC w ⟨aa, an, ac⟩ its.length (itL its)) (.int .i64 (findI its.length (badAt s its))) := by
 refine givesR_of Tryz.func115 rfl (bs := [.slice aa an ac, .func (.func 70) #[] #[.pointer (some ⟨ga_, 0, none⟩)], undef, undef, undef, undef, undef, undef, undef, undef, undef, undef, undef, undef, undef, undef, undef, undef, undef]) rfl ?_
 intro w hP hW
 have hn : an = its.length := hP.2.n
 refine c_seq (c_reg ?_)
 refine bI ?_
 refine l_end (n_then (c_seq (c_seq (c_reg ?_))))
 refine aS ?_
 refine l_val (r_lenSlice Tryz.underlying48 rfl rfl) rfl rfl ?_
 refine aI ?_
 refine l_end (n_then (c_block ?_))
 refine c_loop (fun (i : Nat) (j : Nat → Value) => [.slice aa an ac, .func (.func 70) #[] #[.pointer (some ⟨ga_, 0, none⟩)], j 2, j 3, j 4, j 5, .slice aa an ac, .int .i64 (an : Int), .int .i64 (i : Int), j 9, j 10, j 11, j 12, j 13, j 14, j 15, j 16, j 17, j 18]) (fun (i : Nat) => []) (fun (i : Nat) => i ≤ an ∧ ∀ k, k < i → badAt s its k = false) (fun (i : Nat) => an - i) 0 (by kernel_rfl) hW ⟨by omega, all_zero⟩ ?_
 intro i j W hx hW
 obtain ⟨hi0, hib⟩ := hx
 refine c_seq (c_reg ?_)
 refine l_val (r_lssN rfl rfl rfl rfl) rfl rfl ?_
 refine l_split ?_ ?_
 ·intro hc1
  replace hc1 := of_decide_eq_true hc1
  obtain ⟨q, hq⟩ : ∃ q, its[i]? = some q := ⟨_, List.getElem?_eq_getElem (by omega)⟩
  obtain ⟨b0, o0, ha, hc⟩ := hP.2.it hq
  simp only at ha
  subst ha
  refine l_end (n_then (c_seq ?_))
  refine c_true rfl ?_
  refine c_skip (n_then (c_seq (c_block (c_seq (c_reg ?_)))))
  refine aI ?_
  refine bI ?_
  refine l_end (n_then (c_seq (c_reg ?_)))
  refine l_val (r_move (v := .func _ _ _) rfl rfl) rfl rfl ?_
  refine aS ?_
  refine aI ?_
  refine l_val (r_indexAddrSl (n := i) Tryz.underlying48 tyA100.size rfl rfl rfl (by omega)) rfl rfl ?_
  refine l_loadFs hW tyA100 (vs := it1 q) hc (it1_len _) rfl rfl rfl rfl ?_
  refine l_callVR hW (args := [.agg (it1 q).toArray]) (cap := [.pointer (some ⟨ga_, 0, none⟩)]) (g_Open1 s q ga_ hs) en70 (heap_past hW.below hP.1) rfl rfl rfl rfl rfl ?_
  intro W hW
  refine l_split ?_ ?_
  ·intro hc2
   refine l_end (n_then ?_)
   refine c_true rfl ?_
   refine c_seq (c_reg ?_)
   refine aI ?_
   refine bI ?_
   refine l_end (n_then (c_ret (r_block (r_then (r_then (r_block (r_then ?_)))))))
   refine ret_tmp (v := .int .i64 (findI its.length (badAt s its))) rfl ?_ ⟨rfl, hW.below⟩
   exact congrArg (Value.int .i64) (find_yes (p := badAt s its) (by omega) (by rw [badAt_get hq]; exact hc2) hib).symm
  ·intro hc2
   refine l_end (n_then ?_)
   refine c_false rfl ?_
   refine c_skip (n_block (n_then (c_reg ?_)))
   refine l_val (r_addN (n := 1) rfl rfl rfl (by omega)) rfl rfl ?_
   refine aI ?_
   refine l_end (n_then ?_)
   exact loop_next (i + 1) (by kernel_rfl) hW ⟨by omega, all_upto hib (by rw [badAt_get hq]; exact hc2)⟩ (by omega)
 ·intro hc1
  replace hc1 := of_decide_eq_false hc1
  refine l_end (n_then (c_seq ?_))
  refine c_false rfl ?_
  refine c_exit (x_then (x_then ?_))
  refine x_hit ?_
  refine n_then (c_seq (c_reg ?_))
  refine bI ?_
  refine l_end (n_then (c_ret ?_))
  refine ret_tmp (v := .int .i64 (findI its.length (badAt s its))) rfl ?_ ⟨rfl, hW.below⟩
  exact congrArg (Value.int .i64) (find_no fun k hk => hib k (by omega)).symm

set_option maxRecDepth 10000 in
/-- slices.ContainsFunc[[]headend/api.Item,headend/api.Item] -/
theorem g_ContainsI (s : Sc) (ga_ : Nat) (hs : schB s = true) (aa : Option Addr) (an ac : Nat) (its : List It) (hil : its.length ≤ 100000) : GivesR Tryz.prog 72 [.slice aa an ac, .func (.func 70) #[] #[.pointer (some ⟨ga_, 0, none⟩)]].toArray (fun w => (w.heap[ga_]? = some (.cells [.int .u8 s.k, .int .i64 s.d, .int .i64 (strideN s.d : Int)].toArray 106 (0, 0))) ∧ RdC w ⟨aa, an, ac⟩ its.length (itL its)) (.bool (badI s its)) := by
 refine givesR_of Tryz.func72 rfl (bs := [.slice aa an ac, .func (.func 70) #[] #[.pointer (some ⟨ga_, 0, none⟩)], undef, undef, undef, undef, undef, undef, undef]) rfl ?_
 intro w hP hW
 refine c_seq (c_reg ?_)
 refine bB ?_
 refine l_end (n_then (c_seq (c_reg ?_)))
 refine aS ?_
 refine l_val (r_move (v := .func _ _ _) rfl rfl) rfl rfl ?_
 refine l_callR hW (g_IndexI s ga_ hs aa an ac its hil) en115 ⟨heap_past hW.below hP.1, hP.2.past hW.below⟩ rfl rfl rfl rfl ?_
 intro W hW
 refine l_val (r_geq rfl rfl rfl rfl) rfl rfl ?_
 refine bB ?_
 refine l_end (n_then (c_ret ?_))
 refine ret_tmp (v := .bool (badI s its)) rfl ?_ ⟨rfl, hW.below⟩
 exact congrArg Value.bool ((find_any _ _).trans bad_any)

end Go.Proofs.YtoegpalacppllaaGreat

/- What a receiver opens. -/
namespace Go.Proofs.YtoegpalacppllaaGreat
open Go.RowKit Pl
open Tr Hn
set_option maxRecDepth 10000 in
/-- headend/cover.Open -/
theorem g_Open (s : Sc) (u : Int) (la : Option Addr) (ln lc : Nat) (ls : List It) (hh : Sl) (its : List It) (ck : Kw) (hs : schB s = true) (hlt : ∀ q ∈ ls, q.x < 128) (hll : ls.length ≤ 100000) (hil : its.length ≤ 100000) : GivesR Tryz.prog 21 [.agg [.int .u8 s.k, .int .i64 s.d, .int .i64 s.g, .int .u64 s.p, .int .u64 s.q, .int .u64 s.r].toArray, .agg [.int .i64 u, .slice la ln lc, .int .u64 0, .int .u64 0].toArray, .agg (hdC hh ck).toArray].toArray (fun w => RdC w ⟨la, ln, lc⟩ ls.length (itL ls) ∧ RdC w hh its.length (itL its)) (.tuple #[keyV (openK s ls its ck), .int .i64 (openE s ls its ck)]) := by
 refine givesR_of Tryz.func21 rfl (bs := [.agg [.int .u8 s.k, .int .i64 s.d, .int .i64 s.g, .int .u64 s.p, .int .u64 s.q, .int .u64 s.r].toArray, .agg [.int .i64 u, .slice la ln lc, .int .u64 0, .int .u64 0].toArray, .agg (hdC hh ck).toArray, undef, undef, undef, undef, undef, undef, undef, undef, undef, undef, undef, undef, undef, undef, undef, undef, undef, undef, undef, undef, undef, undef, undef, undef, undef, undef, undef, undef, undef, undef, undef, undef, undef, undef, undef, undef, undef, undef, undef, undef, undef, undef, undef, undef, undef, undef, undef, undef, undef, undef, undef, undef, undef, undef, undef, undef, undef, undef, undef, undef, undef, undef, undef, undef, undef, undef, undef, undef, undef, undef, undef, undef, undef, undef, undef, undef, undef, undef, undef]) rfl ?_
 intro w hP hW
 obtain ⟨k1, k3, d0, d6, -⟩ := schB_iff.1 hs
 have hn : hh.n = its.length := hP.2.n
 refine c_seq (c_reg ?_)
 refine xB hW ?_
 intro g1 W hW
 refine xB hW ?_
 intro g2 W hW
 refine xB hW ?_
 intro g3 W hW
 refine l_alloc hW tyZ29 rfl rfl rfl ?_
 intro g4 W hW
 refine bI ?_
 refine l_end (n_then (c_seq (c_reg ?_)))
 refine dA hW 3 tyA26 ?_
 refine l_callR hW (g_enter s none 0 0 [] hs (by simp)) en51 ⟨Sl.Ok.no, rfl, Rd.nil _ _⟩ rfl rfl rfl rfl ?_
 intro W hW
 have he0 : entE s [] = 0 := entE_yes fun i hi => absurd hi (Nat.not_lt_zero i)
 rw [he0, entT_yes he0]
 refine l_val (r_move (v := .tuple _) rfl rfl) rfl rfl ?_
 refine l_val (r_extract (v := .agg _) rfl rfl rfl) rfl rfl ?_
 refine l_val (r_extract (v := .int _ _) rfl rfl rfl) rfl rfl ?_
 refine l_alloc hW tyZ106 rfl rfl rfl ?_
 intro g5 W hW
 refine sA hW 0 tyA106 ?_
 intro W hW
 refine bI ?_
 refine l_end (n_then (c_seq (c_seq (c_reg ?_))))
 refine aI ?_
 refine l_val (r_neq (b := false) rfl rfl rfl (by decide)) rfl rfl ?_
 refine l_end (n_then ?_)
 refine c_false rfl ?_
 refine c_skip (n_then (c_seq (c_reg ?_)))
 refine l_val (r_closure (vs := [.pointer (some ⟨g5, 0, none⟩)]) rfl rfl) rfl rfl ?_
 refine l_val (r_assign (v := .func _ _ _) rfl rfl) rfl rfl ?_
 refine l_end (n_then (c_seq (c_seq (c_reg ?_))))
 refine l_val (r_fieldAddr 0 Tryz.underlying51 rfl tyC48.size rfl rfl rfl) rfl rfl ?_
 refine dC hW 2 tyC48 ?_
 refine l_val (r_lenSlice Tryz.underlying48 rfl rfl) rfl rfl ?_
 refine l_val (r_gtrN (n := 64) rfl rfl rfl rfl) rfl rfl ?_
 refine l_split ?_ ?_
 ·intro hc1
  replace hc1 := of_decide_eq_true hc1
  refine aB ?_
  refine lN ?_
  refine lN ?_
  refine lN ?_
  refine kB ?_
  refine aB ?_
  refine lN ?_
  refine lN ?_
  refine lN ?_
  refine lN ?_
  refine kB ?_
  refine aB ?_
  refine lN ?_
  refine lN ?_
  refine lN ?_
  refine lN ?_
  refine kB ?_
  refine aB ?_
  refine lN ?_
  refine lN ?_
  refine lN ?_
  refine lN ?_
  refine kB ?_
  refine l_end (n_then ?_)
  refine c_true rfl ?_
  refine c_seq (c_reg ?_)
  refine l_val (r_build (ps := []) bld_k0 rfl rfl) rfl rfl ?_
  refine sA hW 1 tyA29 ?_
  intro W hW
  refine bI ?_
  refine l_end (n_then (c_ret (r_then ?_)))
  refine rT hW 1 tyA29 ?_
  have hbd : 64 < its.length ∨ badI s its = true := .inl (by omega)
  exact ⟨by rw [openK, openE, if_pos hbd, if_pos hbd]; rfl, hW.below⟩
 ·intro hc1
  replace hc1 := of_decide_eq_false hc1
  refine aB ?_
  refine l_valG (r_fieldAddr 1 Tryz.underlying51 rfl tyC22.size rfl rfl rfl) (by kernel_rfl) rfl ?_
  refine dG hW 2 tyC22 ?_
  refine l_valG (r_neqN (n := 0) rfl rfl rfl rfl) (by kernel_rfl) rfl ?_
  refine l_split ?_ ?_
  ·intro hc2
   replace hc2 := of_decide_eq_true hc2
   first | exact absurd rfl hc2 | omega | simp at hc2
  ·intro hc2
   replace hc2 := of_decide_eq_false hc2
   refine kB ?_
   refine aB ?_
   refine l_valG (r_fieldAddr 2 Tryz.underlying51 rfl tyC49.size rfl rfl rfl) (by kernel_rfl) rfl ?_
   refine dG hW 2 tyC49 ?_
   refine l_valG (r_lenSlice Tryz.underlying49 rfl rfl) (by kernel_rfl) rfl ?_
   refine l_valG (r_gtr (b := false) rfl rfl rfl (by decide)) (by kernel_rfl) rfl ?_
   refine kB ?_
   refine aB ?_
   refine l_valG (r_fieldAddr 3 Tryz.underlying51 rfl tyA29.size rfl rfl rfl) (by kernel_rfl) rfl ?_
   refine l_loadPG hW 2 tyA29 (by kernel_rfl) rfl rfl rfl rfl (by rw [hdC_len]; decide) (hdC_box _ _) ?_
   refine l_valG (r_build (ps := []) bld_k0 rfl rfl) (by kernel_rfl) rfl ?_
   refine l_valG (r_neqK tyK29 _ _ (c := false) rfl rfl rfl (by simp)) (by kernel_rfl) rfl ?_
   refine kB ?_
   refine aB ?_
   refine l_valG (r_fieldAddr 0 Tryz.underlying51 rfl tyC48.size rfl rfl rfl) (by kernel_rfl) rfl ?_
   refine dG hW 2 tyC48 ?_
   refine l_valG (r_move (v := .func _ _ _) rfl rfl) (by kernel_rfl) rfl ?_
   refine l_callRG hW (g_ContainsI s g5 hs hh.a hh.n hh.c its hil) en72 ⟨hW.at 0 rfl, hP.2.past hW.below⟩ (by kernel_rfl) rfl rfl rfl ?_
   intro W hW
   refine l_split ?_ ?_
   ·intro hc3
    refine kB ?_
    refine l_end (n_then ?_)
    refine c_true rfl ?_
    refine c_seq (c_reg ?_)
    refine l_val (r_build (ps := []) bld_k0 rfl rfl) rfl rfl ?_
    refine sA hW 1 tyA29 ?_
    intro W hW
    refine bI ?_
    refine l_end (n_then (c_ret (r_then ?_)))
    refine rT hW 1 tyA29 ?_
    have hbd : 64 < its.length ∨ badI s its = true := .inr hc3
    exact ⟨by rw [openK, openE, if_pos hbd, if_pos hbd]; rfl, hW.below⟩
   ·intro hc3
    have hbad : badI s its = false := hc3
    refine kB ?_
    refine l_end (n_then ?_)
    refine c_false rfl ?_
    refine c_skip (n_then (c_seq (c_seq (c_reg ?_))))
    refine l_val (r_fieldAddr 0 Tryz.underlying51 rfl tyC48.size rfl rfl rfl) rfl rfl ?_
    refine dC hW 2 tyC48 ?_
    refine l_val (r_lenSlice Tryz.underlying48 rfl rfl) rfl rfl ?_
    refine aI ?_
    refine l_end (n_then (c_block ?_))
    refine c_loop (fun (i : Nat) (j : Nat → Value) => [.agg [.int .u8 s.k, .int .i64 s.d, .int .i64 s.g, .int .u64 s.p, .int .u64 s.q, .int .u64 s.r].toArray, .agg [.int .i64 u, .slice la ln lc, .int .u64 0, .int .u64 0].toArray, .agg (hdC hh ck).toArray, .pointer (some ⟨g1, 0, none⟩), .pointer (some ⟨g2, 0, none⟩), .pointer (some ⟨g3, 0, none⟩), .pointer (some ⟨g4, 0, none⟩), j 7, .pointer (some ⟨g5, 0, none⟩), .int .i64 0, j 10, j 11, j 12, j 13, j 14, j 15, .tuple #[.agg [.int .u8 s.k, .int .i64 s.d, .int .i64 (strideN s.d : Int)].toArray, .int .i64 0], .agg ([.int .u8 s.k, .int .i64 s.d, .int .i64 s.g, .int .u64 s.p, .int .u64 s.q, .int .u64 s.r]).toArray, .tuple #[.agg [.int .u8 s.k, .int .i64 s.d, .int .i64 (strideN s.d : Int)].toArray, .int .i64 0], .agg [.int .u8 s.k, .int .i64 s.d, .int .i64 (strideN s.d : Int)].toArray, .int .i64 0, .int .i64 0, .bool false, j 23, j 24, j 25, .pointer (some ⟨g3, 0, none⟩), j 27, .int .i64 (hh.n : Int), .bool false, .bool false, .pointer (some ⟨g3, 1, none⟩), j 32, .bool false, .bool false, .bool false, .pointer (some ⟨g3, 2, none⟩), j 37, .int .i64 0, .bool false, .bool false, .bool false, .pointer (some ⟨g3, 3, none⟩), keyV (0#64, 0#64), keyV (0#64, 0#64), .bool false, .bool false, .bool false, .pointer (some ⟨g3, 0, none⟩), j 49, j 50, .bool false, .bool false, j 53, .pointer (some ⟨g3, 0, none⟩), .slice hh.a hh.n hh.c, .int .i64 (hh.n : Int), .int .i64 (i : Int), j 58, j 59, j 60, j 61, j 62, j 63, j 64, j 65, j 66, j 67, j 68, j 69, j 70, j 71, j 72, j 73, j 74, j 75, j 76, j 77, j 78, j 79, j 80, j 81]) (fun (i : Nat) => [⟨g5, [.int .u8 s.k, .int .i64 s.d, .int .i64 (strideN s.d : Int)], 106⟩, ⟨g4, z29, 29⟩, ⟨g3, (hdC hh ck), 51⟩, ⟨g2, [.int .i64 u, .slice la ln lc, .int .u64 0, .int .u64 0], 45⟩, ⟨g1, [.int .u8 s.k, .int .i64 s.d, .int .i64 s.g, .int .u64 s.p, .int .u64 s.q, .int .u64 s.r], 26⟩]) (fun (i : Nat) => i ≤ hh.n ∧ ∀ z ∈ its.take i, tryI s ls ck z = none) (fun (i : Nat) => hh.n - i) 0 (by kernel_rfl) hW ⟨Nat.zero_le _, fun z hz => by simp at hz⟩ ?_
    intro i j W hx hW
    refine c_seq (c_reg ?_)
    refine l_val (r_lssN rfl rfl rfl rfl) rfl rfl ?_
    refine l_split ?_ ?_
    ·intro hc4
     replace hc4 := of_decide_eq_true hc4
     obtain ⟨q, hq⟩ : ∃ q, its[i]? = some q := ⟨_, List.getElem?_eq_getElem (by omega)⟩
     obtain ⟨b0, o0, ha, hc⟩ := hP.2.it hq
     refine l_end (n_then (c_seq ?_))
     refine c_true rfl ?_
     refine c_skip (n_then (c_seq (c_block (c_seq (c_reg ?_)))))
     refine l_val (r_indexAddrSl (n := i) Tryz.underlying48 tyA100.size rfl (congrArg (fun a => Value.slice a hh.n hh.c) ha) rfl (by omega)) rfl rfl ?_
     refine l_loadFs hW tyA100 (vs := it1 q) hc (it1_len _) rfl rfl rfl rfl ?_
     refine l_alloc hW tyZ100 rfl rfl rfl ?_
     intro g6 W hW
     refine l_storeA hW 0 tyA100 rfl rfl rfl rfl rfl rfl rfl (it1_len _) (it1_one _) ?_
     intro W hW
     refine l_end (n_then (c_seq (c_reg ?_)))
     refine dA hW 1 tyA106 ?_
     refine dA hW 4 tyA45 ?_
     refine l_val (r_fieldAddr 0 Tryz.underlying100 rfl tyA64.size rfl rfl rfl) rfl rfl ?_
     refine l_loadP hW 0 tyA64 rfl rfl rfl rfl rfl (it1_b0 _) (it1_sub _) ?_
     refine l_callR hW (g_pfind s u la ln lc ls q.v q.x hs (badI_no hbad (List.mem_of_getElem? hq)) hlt hll) en73 (hP.1.past hW.below) rfl rfl rfl rfl ?_
     intro W hW
     refine l_val (r_move (v := .tuple _) rfl rfl) rfl rfl ?_
     refine l_val (r_extract (v := .agg _) rfl rfl rfl) rfl rfl ?_
     refine l_val (r_extract (v := .bool _) rfl rfl rfl) rfl rfl ?_
     refine l_split ?_ ?_
     ·intro hc5
      have hf := isSome_get hc5
      have ht := tryI_k (ck := ck) (t := q) hf
      refine l_alloc hW tyZ29 rfl rfl rfl ?_
      intro g7 W hW
      refine sA hW 0 tyA29 ?_
      intro W hW
      refine bB ?_
      refine l_end (n_then (c_seq (c_reg ?_)))
      refine aB ?_
      refine l_end (n_then ?_)
      refine c_true rfl ?_
      refine c_seq (c_reg ?_)
      refine dA hW 0 tyA29 ?_
      refine l_val (r_fieldAddr 2 Tryz.underlying100 rfl tyA29.size rfl rfl rfl) rfl rfl ?_
      refine l_loadP hW 1 tyA29 rfl rfl rfl rfl rfl (it1_b2 _) (it1_key _) ?_
      refine l_call hW (g_Decrypt ((findV s ls q.v q.x).getD (0#64, 0#64)) q.k) en49 rfl rfl rfl rfl ?_
      intro W hW
      refine l_alloc hW tyZ29 rfl rfl rfl ?_
      intro g8 W hW
      refine sA hW 0 tyA29 ?_
      intro W hW
      refine l_end (n_then (c_seq ?_))
      refine c_regY hW [] [.q, .q, .q, .q, .q] [0, 1, 0, 4, 15] (by kernel_rfl) (by kernel_rfl) ?_
      refine y_loadA 0 tyA29 rfl rfl rfl rfl rfl (by first | rfl | exact kc_len _ | exact kcf_len _ | exact boC_len _ _ | (simp; done)) (by decide) ?_
      refine y_call (g_Derive (dec ((findV s ls q.v q.x).getD (0#64, 0#64)) q.k) 53 0) en50 rfl rfl rfl rfl ?_
      refine y_val (r_fieldAddr 19 Tryz.underlying51 rfl tyA29.size rfl rfl rfl) rfl rfl ?_
      refine y_loadP 5 tyA29 (vs := kc ck) (by kernel_rfl) rfl rfl rfl rfl (by rw [hdC_len]; decide) (hdC_key _ _) (by decide) ?_
      refine y_val (r_eqlK tyK29 _ _ rfl rfl rfl rfl) rfl rfl ?_
      refine y_split ?_ ?_
      ·intro hc6
       replace hc6 := of_decide_eq_true hc6
       refine y_end ?_
       intro W hW
       refine n_then ?_
       refine c_true rfl ?_
       refine c_seq (c_reg ?_)
       refine dA hW 0 tyA29 ?_
       refine sA hW 4 tyA29 ?_
       intro W hW
       refine bI ?_
       refine l_end (n_then (c_ret (r_block (r_then (r_then (r_block (r_then ?_)))))))
       refine rT hW 4 tyA29 ?_
       have hbd : ¬ (64 < its.length ∨ badI s its = true) := by
        rintro (h | h)
        ·omega
        ·rw [hbad] at h; cases h
       have e : openV s ls its ck = _ := some_at hq hx.2 (ht.trans (if_pos hc6))
       exact ⟨by rw [openK, openE, if_neg hbd, if_neg hbd, e]; rfl, hW.below⟩
      ·intro hc6
       replace hc6 := of_decide_eq_false hc6
       refine y_end ?_
       intro W hW
       refine n_then ?_
       refine c_false rfl ?_
       refine c_skip (n_block (n_then (c_reg ?_)))
       refine l_val (r_addN (n := 1) rfl rfl rfl (by omega)) rfl rfl ?_
       refine aI ?_
       refine l_end (n_then ?_)
       exact loop_next (i + 1) (by kernel_rfl) (hW.drop 3) ⟨by omega, take_none hq hx.2 (ht.trans (if_neg hc6))⟩ (by omega)
     ·intro hc5
      have ht : tryI s ls ck q = none := tryI_no (isSome_no hc5)
      refine l_alloc hW tyZ29 rfl rfl rfl ?_
      intro g9 W hW
      refine sA hW 0 tyA29 ?_
      intro W hW
      refine bB ?_
      refine l_end (n_then (c_seq (c_reg ?_)))
      refine aB ?_
      refine l_end (n_then ?_)
      refine c_false rfl ?_
      refine c_skip (n_block (n_then (c_reg ?_)))
      refine l_val (r_addN (n := 1) rfl rfl rfl (by omega)) rfl rfl ?_
      refine aI ?_
      refine l_end (n_then ?_)
      exact loop_next (i + 1) (by kernel_rfl) (hW.drop 2) ⟨by omega, take_none hq hx.2 ht⟩ (by omega)
    ·intro hc4
     replace hc4 := of_decide_eq_false hc4
     refine l_end (n_then (c_seq ?_))
     refine c_false rfl ?_
     refine c_exit (x_then (x_then ?_))
     refine x_hit ?_
     refine n_then (c_seq (c_reg ?_))
     refine l_val (r_build (ps := []) bld_k0 rfl rfl) rfl rfl ?_
     refine sA hW 1 tyA29 ?_
     intro W hW
     refine bI ?_
     refine l_end (n_then (c_ret ?_))
     refine rT hW 1 tyA29 ?_
     have hbd : ¬ (64 < its.length ∨ badI s its = true) := by
      rintro (h | h)
      ·omega
      ·rw [hbad] at h; cases h
     have e : openV s ls its ck = none := List.findSome?_eq_none_iff.2 fun z hz => hx.2 z (by rwa [List.take_of_length_le (by omega)])
     exact ⟨by rw [openK, openE, if_neg hbd, if_neg hbd, e]; rfl, hW.below⟩

end Go.Proofs.YtoegpalacppllaaGreat

/- The example of the law holds. -/
namespace Go.Proofs.YtoegpalacppllaaGreat
open Go.RowKit Pl
open Tr Hn
/-- the box of the example -/
def tbB : Bo := ⟨⟨2, 1, 0, 0, 0, 0⟩, [0], 2, 0, 0, noBo.k, 0, 0⟩
/-- the partition of the example -/
def tbL : List (Int × Int) := [(1, 0)]
theorem al_e : traceE tbB tbL 0 = 0 := by kernel_rfl
theorem al_n : (traceT tbB tbL 0).1.nm = [0] := by kernel_rfl
theorem al_0 : ((traceT tbB tbL 0).1.l.any fun q => memB tbB.s q.1 q.2 0) = false := by kernel_rfl
theorem al_1 : ((traceT tbB tbL 0).1.l.any fun q => memB tbB.s q.1 q.2 1) = true := by kernel_rfl
theorem al_k : TrOk tbB tbL 0 (traceT tbB tbL 0) := trace_ok al_e (by decide)
theorem any_no {s : Sc} {l : List (Int × Int)} {u : Nat} (h : (l.any fun q => memB s q.1 q.2 u) = false) : ¬ ∃ q ∈ l, memB s q.1 q.2 u = true := fun ⟨q, hq, hm⟩ => by
 have := List.any_eq_false.1 h q hq
 exact this hm
theorem any_yes {s : Sc} {l : List (Int × Int)} {u : Nat} (h : (l.any fun q => memB s q.1 q.2 u) = true) : ∃ q ∈ l, memB s q.1 q.2 u = true := List.any_eq_true.1 h
theorem rd_sub {b : Base} {L : List Blk} {W : World} {g : Nat} {e : TypeId} (p : Nat) (hW : Cl b L W) (hp : L[p]? = some ⟨g, [.int .i64 1, .int .i64 0], e⟩) : RdB W ⟨some ⟨g, 0, none⟩, 1, 1⟩ tbL :=
 (OwnSl.full (e := e) (sz := 2) (n := 1) (vs := sl2 tbL) rfl (by decide)).repB.at hW (List.singleton_sublist.2 (List.mem_of_getElem? hp))
theorem rd_blkT {b : Base} {L : List Blk} {W : World} {g k : Nat} {l : List Int} {e : TypeId} (p : Nat) (hW : Cl b L W) (hp : L[p]? = some ⟨g, il l, e⟩) (hl : l.length = k) (hm : k ≤ maxLen) : RdI W ⟨some ⟨g, 0, none⟩, k, k⟩ l :=
 (OwnSl.full (e := e) (sz := 1) (n := k) (by rw [il, List.length_map, hl, Nat.mul_one]) hm).rep.at hW (List.singleton_sublist.2 (List.mem_of_getElem? hp))
/-- a key whose first byte is b -/
def kb (b : Nat) : Kw := (BitVec.ofNat 64 b <<< 56, 0#64)
theorem bld_k7 : ∀ w, (Instr.build 29 [(0, .int .u8 7)].toArray).run Tryz.prog w = .ok (keyV (kb 7)) w := fun _ => by kernel_rfl
theorem bld_k8 : ∀ w, (Instr.build 29 [(0, .int .u8 8)].toArray).run Tryz.prog w = .ok (keyV (kb 8)) w := fun _ => by kernel_rfl
theorem bld_al (a : Option Addr) (n c : Nat) : ∀ w, (Instr.build 31 [(0, .agg [.int .u8 2, .int .i64 1, .int .i64 0, .int .u64 0, .int .u64 0, .int .u64 0].toArray), (1, .slice a n c), (2, .int .u8 2)].toArray).run Tryz.prog w = .ok (.agg (boC tbB ⟨a, n, c⟩).toArray) w := fun _ => by kernel_rfl
theorem RdC_eta {w : World} {s : Sl} {n : Nat} {xs : List Value} (h : RdC w ⟨s.a, s.n, s.c⟩ n xs) : RdC w s n xs := h
set_option maxRecDepth 10000 in
set_option maxHeartbeats 2000000 in
/-- headend/headendtop.alive08 -/
theorem g_alive08  : Gives Tryz.prog 16 [].toArray (.bool true) := by
 refine gives_of Tryz.func16 rfl (bs := [undef, undef, undef, undef, undef, undef, undef, undef, undef, undef, undef, undef, undef, undef, undef, undef, undef, undef, undef, undef, undef, undef, undef, undef, undef, undef, undef, undef, undef, undef, undef, undef, undef, undef, undef, undef, undef, undef, undef, undef, undef, undef, undef, undef, undef, undef, undef, undef, undef, undef, undef, undef, undef, undef, undef, undef, undef, undef, undef, undef, undef, undef, undef, undef, undef, undef, undef, undef, undef, undef, undef, undef, undef, undef, undef, undef, undef, undef, undef, undef, undef, undef, undef, undef, undef, undef, undef, undef, undef, undef, undef, undef, undef, undef]) rfl ?_
 intro w hW
 refine c_seq (c_reg ?_)
 refine bB ?_
 refine l_end (n_then (c_seq (c_reg ?_)))
 refine l_val (r_build (ps := [(0, .int _ _), (1, .int _ _)]) (bld26_0_1 _ _) rfl rfl) rfl rfl ?_
 refine l_alloc hW tyZ26 rfl rfl rfl ?_
 intro g1 W hW
 refine sA hW 0 tyA26 ?_
 intro W hW
 refine l_end (n_then (c_seq (c_reg ?_)))
 refine dA hW 0 tyA26 ?_
 refine l_buildSliceF hW (bsl27_1_0 _) rfl rfl rfl rfl ?_
 intro gl W hW
 refine l_val (r_build (ps := [(0, .agg _), (1, .slice _ _ _), (2, .int _ _)]) (bld_al _ _ _) rfl rfl) rfl rfl ?_
 refine l_val (r_build (ps := [(0, .int _ _)]) (bld64_0 _) rfl rfl) rfl rfl ?_
 refine l_buildSliceF hW (bsl33_1_0 _ _) rfl rfl rfl rfl ?_
 intro gb W hW
 refine l_callX hW (g_Trace tbB ⟨some ⟨gl, 0, none⟩, 1, 1⟩ (some ⟨gb, 0, none⟩) 1 1 tbL 0 (by decide) (by decide)) en18 ⟨rd_blkT 1 hW rfl rfl (by decide), rd_sub 0 hW rfl⟩ rfl rfl rfl rfl ?_
 rintro _ _ W ⟨_, _, rfl, n1, la1, lc1, s1, BN1, BL1, BB1, rfl, rfl, rfl, h11, h21, h31⟩ hW
 have k := al_k
 have an := al_n
 have a0 := al_0
 have a1 := al_1
 obtain ⟨R, hR⟩ : ∃ tr_, tr_ = traceT tbB tbL 0 := ⟨_, rfl⟩
 obtain ⟨e1, he1⟩ : ∃ e : Int, e = (R.2 : Int) := ⟨_, rfl⟩
 rw [← hR] at h11 h21 h31 k an a0 a1 ⊢
 rw [al_e]
 rw [show fiC n1 ⟨la1, R.1.l.length, lc1⟩ R.1.a R.2 = [.slice n1.a n1.n n1.c, .slice la1 R.1.l.length lc1, .int .i64 (R.1.a : Int), .int .u8 e1] from by rw [he1]]
 have hq64 := k.subs'.1
 have hn1 : n1.n = 1 := by rw [h11.n, an]; rfl
 refine l_val (r_move (v := .tuple _) rfl rfl) rfl rfl ?_
 refine l_val (r_extract (v := .agg _) rfl rfl rfl) rfl rfl ?_
 refine l_val (r_extract (v := .agg _) rfl rfl rfl) rfl rfl ?_
 refine l_val (r_extract (v := .int _ _) rfl rfl rfl) rfl rfl ?_
 refine l_alloc hW tyZ38 rfl rfl rfl ?_
 intro g2 W hW
 refine l_alloc hW tyZ31 rfl rfl rfl ?_
 intro g3 W hW
 refine sA hW 1 tyA38 ?_
 intro W hW
 refine sA hW 0 tyA31 ?_
 intro W hW
 refine bI ?_
 refine l_end (n_then (c_seq (c_reg ?_)))
 refine l_val (r_build (ps := [(0, .int _ _)]) bld_k7 rfl rfl) rfl rfl ?_
 refine dA hW 4 tyA26 ?_
 refine l_val (r_fieldAddr 1 Tryz.underlying38 rfl tyC33.size rfl rfl rfl) rfl rfl ?_
 refine dC hW 1 tyC33 ?_
 refine l_val (r_build (ps := [(0, .int _ _)]) bld_k8 rfl rfl) rfl rfl ?_
 refine l_callX hW (g_Seal (kb 7) tbB.s la1 R.1.l.length lc1 R.1.l (kb 8) (by omega)) en20 ((h21.repB.at (show Cl _ ([_, _, _, _, _] ++ ((BN1 ++ BL1) ++ BB1)) _ from hW) (((List.sublist_append_right BN1 BL1).trans (List.sublist_append_left _ BB1)).trans ((List.sublist_append_right _ ((BN1 ++ BL1) ++ BB1)))))) rfl rfl rfl rfl ?_
 rintro _ BS W ⟨hh, ck, rfl, -, hok⟩ hW
 have hsl := top_seal k
 obtain ⟨rfl, hhn, hO0⟩ := hok hsl
 rw [hsl]
 refine l_val (r_move (v := .tuple _) rfl rfl) rfl rfl ?_
 refine l_val (r_extract (v := .agg _) rfl rfl rfl) rfl rfl ?_
 refine l_val (r_extract (v := .int _ _) rfl rfl rfl) rfl rfl ?_
 refine l_alloc hW tyZ51 rfl rfl rfl ?_
 intro g4 W hW
 refine l_storeA hW 0 tyA51 rfl rfl rfl rfl rfl rfl rfl (hdC_len _ _) (hdC_one _ _) ?_
 intro W hW
 refine bI ?_
 refine l_end (n_then (c_seq (c_reg ?_)))
 refine l_val (r_build (ps := [(0, .int _ _)]) bld_k7 rfl rfl) rfl rfl ?_
 refine dA hW 5 tyA26 ?_
 refine l_callX hW (g_SecretY (kb 7) tbB.s 0 rfl (by decide)) en19 trivial rfl rfl rfl rfl ?_
 rintro _ BQ0 W ⟨aq0, cq0, rfl, hOq0⟩ hW
 refine l_val (r_move (v := .tuple _) rfl rfl) rfl rfl ?_
 refine l_val (r_extract (v := .agg _) rfl rfl rfl) rfl rfl ?_
 refine l_val (r_extract (v := .int _ _) rfl rfl rfl) rfl rfl ?_
 refine l_alloc hW tyZ45 rfl rfl rfl ?_
 intro g5 W hW
 refine sA hW 0 tyA45 ?_
 intro W hW
 refine bI ?_
 refine l_end (n_then (c_seq (c_reg ?_)))
 refine l_val (r_build (ps := [(0, .int _ _)]) bld_k7 rfl rfl) rfl rfl ?_
 refine dA hW 6 tyA26 ?_
 refine l_callX hW (g_SecretY (kb 7) tbB.s 1 rfl (by decide)) en19 trivial rfl rfl rfl rfl ?_
 rintro _ BQ1 W ⟨aq1, cq1, rfl, hOq1⟩ hW
 refine l_val (r_move (v := .tuple _) rfl rfl) rfl rfl ?_
 refine l_val (r_extract (v := .agg _) rfl rfl rfl) rfl rfl ?_
 refine l_val (r_extract (v := .int _ _) rfl rfl rfl) rfl rfl ?_
 refine l_alloc hW tyZ45 rfl rfl rfl ?_
 intro g6 W hW
 refine sA hW 0 tyA45 ?_
 intro W hW
 refine bI ?_
 refine l_end (n_then (c_seq (c_reg ?_)))
 refine dA hW 7 tyA26 ?_
 refine dA hW 1 tyA45 ?_
 refine l_loadA hW 2 tyA51 rfl rfl rfl rfl rfl (hdC_len _ _) ?_
 refine l_callR hW (g_Open tbB.s ((0 : Nat) : Int) aq0 (labN tbB.s 0).length cq0 (labL (kb 7) tbB.s 0 (labN tbB.s 0).length) hh (sealL (kb 7) (kb 8) tbB.s R.1.l) (derive (kb 8) 53 0) rfl (labL_x rfl (by decide)) (Nat.le_trans (labL_le rfl) (by decide)) (by rw [sealL_len]; omega)) en21 ⟨(hOq0.repIt.at (show Cl _ (((([_, _, _, _, _, _, _, _] ++ ((BN1 ++ BL1) ++ BB1)) ++ BS) ++ BQ0) ++ BQ1) _ from hW) (((List.sublist_append_right _ BQ0).trans (List.sublist_append_left _ BQ1)))), RdC_eta ((hO0.repIt.at (show Cl _ (((([_, _, _, _, _, _, _, _] ++ ((BN1 ++ BL1) ++ BB1)) ++ BS) ++ BQ0) ++ BQ1) _ from hW) ((((List.sublist_append_right _ BS).trans (List.sublist_append_left _ BQ0)).trans (List.sublist_append_left _ BQ1)))))⟩ rfl rfl rfl rfl ?_
 intro W hW
 rw [top_e6 k (u := 0) (by decide) (any_no a0)]
 obtain ⟨ok0, hok0⟩ : ∃ x, x = openK tbB.s (labL (kb 7) tbB.s 0 (labN tbB.s 0).length) (sealL (kb 7) (kb 8) tbB.s R.1.l) (derive (kb 8) 53 0) := ⟨_, rfl⟩
 rw [← hok0]
 refine l_val (r_move (v := .tuple _) rfl rfl) rfl rfl ?_
 refine l_val (r_extract (v := .agg _) rfl rfl rfl) rfl rfl ?_
 refine l_val (r_extract (v := .int _ _) rfl rfl rfl) rfl rfl ?_
 refine l_alloc hW tyZ29 rfl rfl rfl ?_
 intro g7 W hW
 refine sA hW 0 tyA29 ?_
 intro W hW
 refine bI ?_
 refine l_end (n_then (c_seq (c_reg ?_)))
 refine dA hW 8 tyA26 ?_
 refine dA hW 1 tyA45 ?_
 refine l_loadA hW 3 tyA51 rfl rfl rfl rfl rfl (hdC_len _ _) ?_
 refine l_callR hW (g_Open tbB.s ((1 : Nat) : Int) aq1 (labN tbB.s 1).length cq1 (labL (kb 7) tbB.s 1 (labN tbB.s 1).length) hh (sealL (kb 7) (kb 8) tbB.s R.1.l) (derive (kb 8) 53 0) rfl (labL_x rfl (by decide)) (Nat.le_trans (labL_le rfl) (by decide)) (by rw [sealL_len]; omega)) en21 ⟨(hOq1.repIt.at (show Cl _ (((([_, _, _, _, _, _, _, _, _] ++ ((BN1 ++ BL1) ++ BB1)) ++ BS) ++ BQ0) ++ BQ1) _ from hW) ((List.sublist_append_right _ BQ1))), RdC_eta ((hO0.repIt.at (show Cl _ (((([_, _, _, _, _, _, _, _, _] ++ ((BN1 ++ BL1) ++ BB1)) ++ BS) ++ BQ0) ++ BQ1) _ from hW) ((((List.sublist_append_right _ BS).trans (List.sublist_append_left _ BQ0)).trans (List.sublist_append_left _ BQ1)))))⟩ rfl rfl rfl rfl ?_
 intro W hW
 rw [(top_e0 k (u := 1) (by decide) (any_yes a1)).1, (top_e0 k (u := 1) (by decide) (any_yes a1)).2]
 refine l_val (r_move (v := .tuple _) rfl rfl) rfl rfl ?_
 refine l_val (r_extract (v := .agg _) rfl rfl rfl) rfl rfl ?_
 refine l_val (r_extract (v := .int _ _) rfl rfl rfl) rfl rfl ?_
 refine l_alloc hW tyZ29 rfl rfl rfl ?_
 intro g8 W hW
 refine sA hW 0 tyA29 ?_
 intro W hW
 refine bI ?_
 refine l_end (n_then (c_seq (c_reg ?_)))
 refine aI ?_
 refine l_val (r_eql (b := true) rfl rfl rfl (by decide)) rfl rfl ?_
 refine aB ?_
 refine l_valG (r_fieldAddr 0 Tryz.underlying38 rfl tyC27.size rfl rfl rfl) (by kernel_rfl) rfl ?_
 refine dG hW 6 tyC27 ?_
 refine l_valG (r_lenSlice Tryz.underlying27 rfl rfl) (by kernel_rfl) rfl ?_
 refine l_valG (r_eqlN (b := true) (n := 1) rfl rfl rfl (decide_eq_true (by omega))) (by kernel_rfl) rfl ?_
 refine kB ?_
 refine aB ?_
 refine gI ?_
 refine l_valG (r_eql (b := true) rfl rfl rfl (by decide)) (by kernel_rfl) rfl ?_
 refine kB ?_
 refine aB ?_
 refine gI ?_
 refine l_valG (r_eql (b := true) rfl rfl rfl (by decide)) (by kernel_rfl) rfl ?_
 refine kB ?_
 refine aB ?_
 refine gI ?_
 refine l_valG (r_eql (b := true) rfl rfl rfl (by decide)) (by kernel_rfl) rfl ?_
 refine kB ?_
 refine aB ?_
 refine gI ?_
 refine l_valG (r_eql (b := true) rfl rfl rfl (by decide)) (by kernel_rfl) rfl ?_
 refine kB ?_
 refine aB ?_
 refine gI ?_
 refine l_valG (r_eql (b := true) rfl rfl rfl (by decide)) (by kernel_rfl) rfl ?_
 refine kB ?_
 refine aB ?_
 refine l_loadAG hW 0 tyA29 (by kernel_rfl) rfl rfl rfl rfl (by first | rfl | exact kc_len _ | exact kcf_len _ | exact boC_len _ _ | (simp; done)) ?_
 refine l_valG (r_build (ps := [(0, .int _ _)]) bld_k8 rfl rfl) (by kernel_rfl) rfl ?_
 refine l_valG (r_eqlK tyK29 _ _ (c := true) rfl rfl rfl (decide_eq_true rfl)) (by kernel_rfl) rfl ?_
 refine kB ?_
 refine bB ?_
 refine l_end (n_then (c_ret ?_))
 refine ret_tmp (v := .bool true) rfl ?_ ⟨rfl, hW.below⟩
 rfl

end Go.Proofs.YtoegpalacppllaaGreat

/- A map of numbers to true that the call makes, writes and ranges over. No function of the program is in sight here. -/
namespace Go.Proofs.YtoegpalacppllaaGreat
open Go.RowKit Go.Maps

/-- what a map's reading says of numbers -/
def Says (D : DataW Unit) (S : Int → Bool) : Prop := IsMap D ∧ ∀ x : Int, (Lit.int .i64 x).wf = true → D.atKey (.int .i64 x) (.lit (.bool false)) = .lit (.bool (S x)) ∧ has D (.int .i64 x) = S x
/-- block b is a map of at most n entries in which S is true -/
def NMap (P : Program) (k e : TypeId) (W : World) (b n : Nat) (S : Int → Bool) : Prop := ∃ D : DataW Unit, W.ownsMap P k (plainElem P e) b n D ∧ Says D S
/-- it is ranged over by the iterator it -/
def NRan (P : Program) (k e : TypeId) (W : World) (b it n : Nat) (S left : Int → Bool) (cnt : Nat) : Prop :=
  ∃ (D : DataW Unit) (lf : Lit → Bool), W.ranges P k (plainElem P e) b it n D lf cnt ∧ Says D S ∧ (∀ x : Int, (Lit.int .i64 x).wf = true → lf (.int .i64 x) = left x) ∧ (∀ x, left x = true → S x = true)

theorem plainElem_bool_inv {P : Program} {e : TypeId} (he : P.underlying e = some .bool) {v : Value} {x : Bool} {ps : List MemPlace} (h : plainElem (H := Unit) P e v = some (.lit (.bool x), ps)) : v = .bool x := by
  unfold plainElem at h
  rw [he] at h
  cases v <;> simp at h
  rw [h.1]

section
variable {P : Program} {ops : Array Oper} {Q : Exit → Act → World → Prop} {bs : List Value} {us : List (Nat × Value)} {ds : List Deferred} {W W' w r r' : World} {rest : List Oper} {o : Oper} {L : List Blk} {d : Nat} {v : Value} {m : Nat} {rk : Option (Option Nat)} {k e t : TypeId} {b it n cnt : Nat} {S left : Int → Bool}
theorem NMap.lt (h : NMap P k e W b n S) : b < W.heap.size := by
  obtain ⟨D, h, _⟩ := h
  exact h.lt
theorem NMap.of (h : NMap P k e W b n S) (hb : W'.heap[b]? = W.heap[b]?) : NMap P k e W' b n S := by
  obtain ⟨D, ⟨es, clock, hb0, F, hs, hD⟩, hS⟩ := h
  exact ⟨D, ⟨es, clock, hb.trans hb0, F, hs, hD⟩, hS⟩
theorem NMap.obj (h : NMap P k e W b n S) : ∃ o, W.heap[b]? = some o ∧ o.isCells = false := by
  obtain ⟨D, ⟨es, clock, hb0, F, hs, hD⟩, hS⟩ := h
  exact ⟨_, hb0, rfl⟩
theorem NMap.to (h : NMap P k e r b n S) (hW : Cl ⟨w, r⟩ L W) : NMap P k e W b n S := by
  obtain ⟨o, ho, hc⟩ := h.obj
  exact h.of ((hW.oth _ _ ho hc).trans ho.symm)
theorem NMap.made : NMap P k e (W.alloc (.map #[] 0)) W.heap.size 0 fun _ => false := ⟨.map [], World.ownsMap_made W P k _, isMap_empty, fun _ _ => ⟨rfl, rfl⟩⟩
theorem NMap.mono (h : NMap P k e W b n S) {n' : Nat} (hn : n ≤ n') : NMap P k e W b n' S := by
  obtain ⟨D, h, hS⟩ := h
  exact ⟨D, h.mono hn, hS⟩
theorem NRan.of (h : NRan P k e W b it n S left cnt) (hb : W'.heap[b]? = W.heap[b]?) (hi : W'.heap[it]? = W.heap[it]?) : NRan P k e W' b it n S left cnt := by
  obtain ⟨D, lf, ⟨es, clock, since, seen, c0, h1, h2, h3, h4, h5, h6⟩, hS⟩ := h
  exact ⟨D, lf, ⟨es, clock, since, seen, c0, hb.trans h1, h2, h3, h4, hi.trans h5, h6⟩, hS⟩
theorem NRan.objs (h : NRan P k e W b it n S left cnt) : (∃ o, W.heap[b]? = some o ∧ o.isCells = false) ∧ ∃ o, W.heap[it]? = some o ∧ o.isCells = false := by
  obtain ⟨D, lf, ⟨es, clock, since, seen, c0, h1, h2, h3, h4, h5, h6⟩, hS⟩ := h
  exact ⟨⟨_, h1, rfl⟩, _, h5, rfl⟩
theorem NRan.to (h : NRan P k e r b it n S left cnt) (hW : Cl ⟨w, r⟩ L W) : NRan P k e W b it n S left cnt := by
  obtain ⟨⟨o1, h1, c1⟩, o2, h2, c2⟩ := h.objs
  exact h.of ((hW.oth _ _ h1 c1).trans h1.symm) ((hW.oth _ _ h2 c2).trans h2.symm)
theorem NRan.map (h : NRan P k e W b it n S left cnt) : NMap P k e W b n S := by
  obtain ⟨D, lf, h, hS, _⟩ := h
  exact ⟨D, h.owns, hS⟩

/-- a world in which one object that is no cells has changed -/
theorem Cl.mgrown {row : Nat} {o' : Obj} (hW : Cl ⟨w, r⟩ L W) (hg : W.grownBy W' (some row)) (ho : W.heap[row]? = some o') (hc : o'.isCells = false) (hb : w.heap.size ≤ row) : Cl ⟨w, W'⟩ L W' := by
  have hne : ∀ y ∈ L, y.id ≠ row := fun y hy e => by
    have h1 := hW.holds y hy
    rw [e, ho] at h1
    injection h1 with h1
    subst h1; cases hc
  refine ⟨⟨hg.os.trans hW.below.os, hg.tape.trans hW.below.tape, hg.output.trans hW.below.output, Nat.le_trans hW.below.size hg.size, fun i hi => ?_⟩, fun y hy => ?_, hW.own, hW.apart, fun _ _ h _ => h⟩
  · have hi : i < w.heap.size := hi
    have hsz : w.heap.size ≤ W.heap.size := hW.below.size
    exact (hg.block i (by omega) (fun e => by injection e with e; omega)).trans (hW.below.block i hi)
  · exact (hg.block y.id (hW.lt hy) (fun e => by injection e with e; exact hne y hy e)).trans (hW.holds y hy)
theorem Cl.mgrownN (hW : Cl ⟨w, r⟩ L W) (hg : W.grownBy W' none) : Cl ⟨w, W'⟩ L W' := by
  refine ⟨⟨hg.os.trans hW.below.os, hg.tape.trans hW.below.tape, hg.output.trans hW.below.output, Nat.le_trans hW.below.size hg.size, fun i hi => ?_⟩, fun y hy => ?_, hW.own, hW.apart, fun _ _ h _ => h⟩
  · have hi : i < w.heap.size := hi
    have hsz : w.heap.size ≤ W.heap.size := hW.below.size
    exact (hg.block i (by omega) (by simp)).trans (hW.below.block i hi)
  · exact (hg.block y.id (hW.lt hy) (by simp)).trans (hW.holds y hy)

theorem l_makeMapN (hW : Cl ⟨w, r⟩ L W) (hg : o.guard = none) (ho : o.op = .makeMap t none) (hd : o.dst = some d)
    (h : ∀ b W', w.heap.size ≤ b → NMap P k e W' b 0 (fun _ => false) → Cl ⟨w, W'⟩ L W' → LW rk m P ops Q rest (fr bs ((d, .map (some b)) :: us) ds) W') : LW rk m P ops Q (o :: rest) (fr bs us ds) W := by
  refine l_run (W' := W.alloc (.map #[] 0)) (v := .map (some W.heap.size)) hg ?_ hd (h _ _ hW.below.size NMap.made (hW.past ((Below.refl _ W).alloc (Nat.le_refl _) _)).self)
  unfold execOp
  simp only [ho, Option.map, run_makeMap, Sem.run_bind, Sem.run_pure, Result.andThen_ok]
theorem l_lookupN {x : Int} (hW : Cl ⟨w, r⟩ L W) (hN : NMap P k e r b n S) (hk : P.underlying k = some (.int .i64)) (he : P.underlying e = some .bool) (ht : P.underlying t = some (.map k e)) (hz : ∀ w, (zeroValue e).run P w = .ok (.bool false) w)
    {mo ko : Operand} (hg : Region.wanted o (yielded ops (fr bs us ds).tmps) = true) (ho : o.op = .lookup t mo ko false) (hm : ev bs us mo = .map (some b)) (hx : ev bs us ko = .int .i64 x) (hd : o.dst = some d) (hwf : (Lit.int .i64 x).wf = true)
    (h : LW rk m P ops Q rest (fr bs ((d, .bool (S x)) :: us) ds) W) : LW rk m P ops Q (o :: rest) (fr bs us ds) W := by
  obtain ⟨D, hD, _, hS⟩ := hN.to hW
  obtain ⟨v, ps, hrun, hv⟩ := hD.lookup (int_keyed hk) ht (hz W) (plainElem_bool he false) (keyOf_int_mk hk hwf)
  rw [(hS x hwf).1] at hv
  obtain rfl := plainElem_bool_inv he hv
  refine l_runG hg ?_ hd h
  unfold execOp
  simp only [ho, hm, hx, hrun, Sem.run_bind, Sem.run_pure, Result.andThen_ok]
theorem l_updateN {x : Int} (hW : Cl ⟨w, r⟩ L W) (hN : NMap P k e r b n S) (hk : P.underlying k = some (.int .i64)) (he : P.underlying e = some .bool) (ht : P.underlying t = some (.map k e)) (hb : w.heap.size ≤ b) (hn : n < maxLen)
    {mo ko vo : Operand} (hg : o.guard = none) (ho : o.op = .mapUpdate t mo ko vo) (hm : ev bs us mo = .map (some b)) (hx : ev bs us ko = .int .i64 x) (hv : ev bs us vo = .bool true) (hd : o.dst = none) (hwf : (Lit.int .i64 x).wf = true)
    (h : ∀ W', NMap P k e W' b (n + 1) (fun y => decide (y = x) || S y) → Cl ⟨w, W'⟩ L W' → LW rk m P ops Q rest (fr bs us ds) W') : LW rk m P ops Q (o :: rest) (fr bs us ds) W := by
  have hN' := hN.to hW
  obtain ⟨o', hob, hoc⟩ := hN'.obj
  obtain ⟨D, hD, hI, hS⟩ := hN'
  have hkey : keyOf P k (.int .i64 x) = some (.int .i64 x) := keyOf_int_mk hk hwf
  obtain ⟨W', hrun, hown, hgrow⟩ := hD.update (int_keyed hk) ht hn hkey (plainElem_bool he true)
  have hkl : WideAt.IsKeyLit (.int .i64 x) := (int_keyed hk).key hkey
  have hN2 : NMap P k e W' b (n + 1) (fun y => decide (y = x) || S y) := by
    refine ⟨_, hown, hI.put _ _, fun y hy => ?_⟩
    by_cases hyx : y = x
    · subst hyx
      rw [atKey_put_same hI hkl, has_put_same hI hkl]; simp
    · have hne : (Lit.int .i64 y) ≠ .int .i64 x := fun e => hyx (by injection e)
      rw [atKey_put_other hne, has_put_other hne, (hS y hy).1, (hS y hy).2]; simp [hyx]
  refine LW.skip (W' := W') (wanted_none hg) ?_ (by rw [hd, put_none]; exact h W' hN2 (hW.mgrown hgrow hob hoc hb))
  rw [eval_ev]
  unfold execOp
  simp only [ho, hm, hx, hv, hrun, Sem.run_bind, Sem.run_pure, Result.andThen_ok]
theorem l_rangeN (hW : Cl ⟨w, r⟩ L W) (hN : NMap P k e r b n S) (hk : P.underlying k = some (.int .i64)) (ht : P.underlying t = some (.map k e))
    {mo : Operand} (hg : o.guard = none) (ho : o.op = .range t mo) (hm : ev bs us mo = .map (some b)) (hd : o.dst = some d)
    (h : ∀ it c W', w.heap.size ≤ it → c ≤ n → NRan P k e W' b it n S S c → Cl ⟨w, W'⟩ L W' → LW rk m P ops Q rest (fr bs ((d, .pointer (some ⟨it, 0, none⟩)) :: us) ds) W') : LW rk m P ops Q (o :: rest) (fr bs us ds) W := by
  obtain ⟨D, hD, hI, hS⟩ := hN.to hW
  have hsz : Maps.size D ≤ n := by
    obtain ⟨es, clock, _, _, hs, rfl⟩ := hD
    rw [size_eq, length_sorted]; simpa using hs
  obtain ⟨W', hrun, hR, hgrow, -⟩ := hD.range (int_keyed hk) ht
  refine l_run (W' := W') hg ?_ hd (h _ _ W' hW.below.size hsz ⟨D, _, hR, ⟨hI, hS⟩, fun x hx => (hS x hx).2, fun _ h => h⟩ (hW.mgrownN hgrow))
  unfold execOp
  simp only [ho, hm, hrun, Sem.run_bind, Sem.run_pure, Result.andThen_ok]
theorem l_nextN (hW : Cl ⟨w, r⟩ L W) (hR : NRan P k e r b it n S left cnt) (hk : P.underlying k = some (.int .i64)) (he : P.underlying e = some .bool) (hit : w.heap.size ≤ it)
    {io : Operand} (hg : o.guard = none) (ho : o.op = .next io false) (hx : ev bs us io = .pointer (some ⟨it, 0, none⟩)) (hd : o.dst = some d)
    (hdone : (∀ x : Int, (Lit.int .i64 x).wf = true → left x = false) → LW rk m P ops Q rest (fr bs ((d, .tuple #[.bool false]) :: us) ds) W)
    (hmore : ∀ (x : Int) (cnt' : Nat) (W' : World), (Lit.int .i64 x).wf = true → left x = true → S x = true → NRan P k e W' b it n S (fun y => left y && !decide (y = x)) cnt' → cnt' < cnt → Cl ⟨w, W'⟩ L W' → (Instr.entry (.pointer (some ⟨it, 0, none⟩))).run P W' = .ok (.tuple #[.int .i64 x, .bool true]) W' →
      LW rk m P ops Q rest (fr bs ((d, .tuple #[.bool true, .int .i64 x, .bool true]) :: us) ds) W') : LW rk m P ops Q (o :: rest) (fr bs us ds) W := by
  have hR' := hR.to hW
  obtain ⟨_, o2, ho2, hc2⟩ := hR'.objs
  obtain ⟨D, lf, hD, ⟨hI, hS⟩, hlf, hls⟩ := hR'
  rcases hD.next (int_keyed hk) o.type with ⟨h0, hl, hrun⟩ | ⟨key, v, kl, y, W', cnt', hkey, hlk, hv, hat, hrun, hrg, hlt, hgr, hsz, hen⟩
  · refine l_run hg ?_ hd (hdone fun x hx => by rw [← hlf x hx]; exact hl _)
    unfold execOp
    simp only [ho, hx, hrun, Sem.run_bind, Sem.run_pure, Result.andThen_ok]
  · obtain ⟨x, rfl, rfl, hwf⟩ := Maps.keyOf_int_inv hk hkey
    have hl1 : left x = true := by rw [← hlf x hwf]; exact hlk
    have hs1 := hls x hl1
    have hy1 : y.1 = .lit (.bool true) := by rw [← hat (.lit (.bool false)), (hS x hwf).1, hs1]
    obtain ⟨y1, y2⟩ := y
    subst hy1
    obtain rfl := plainElem_bool_inv he hv
    refine l_run hg ?_ hd (hmore x cnt' W' hwf hl1 hs1 ⟨D, _, hrg, ⟨hI, hS⟩, fun z hz => ?_, fun z hz => hls z (by simp at hz; exact hz.1)⟩ hlt (hW.mgrown hgr ho2 hc2 hit) hen)
    · unfold execOp
      simp only [ho, hx, hrun, Sem.run_bind, Sem.run_pure, Result.andThen_ok]
    · simp only
      rw [hlf z hz]
      by_cases hzx : z = x
      · subst hzx
        rw [WideAt.sameKey_self ((int_keyed hk).key hkey), decide_eq_true rfl]
      · have : (Lit.int .i64 z).sameKey (.int .i64 x) = false := by
          cases h : (Lit.int .i64 z).sameKey (.int .i64 x) with
          | false => rfl
          | true => have := WideAt.sameKey_eq h; injection this with _ h2; exact absurd h2 hzx
        rw [this, decide_eq_false hzx]
theorem l_entryN {io : Operand} (hen : (Instr.entry (.pointer (some ⟨it, 0, none⟩))).run P W = .ok v W) (hg : o.guard = none) (ho : o.op = .entry io) (hx : ev bs us io = .pointer (some ⟨it, 0, none⟩)) (hd : o.dst = some d)
    (h : LW rk m P ops Q rest (fr bs ((d, v) :: us) ds) W) : LW rk m P ops Q (o :: rest) (fr bs us ds) W := by
  refine l_run hg ?_ hd h
  unfold execOp
  simp only [ho, hx, hen, Sem.run_bind, Sem.run_pure, Result.andThen_ok]

theorem r_neqB {p q : Operand} {t' : Nat} {a b : Bool} (ht : P.underlying t = some .bool) (ho : o.op = .binOp .neq t p q t') (hx : ev bs us p = .bool a) (hy : ev bs us q = .bool b) : Runs P bs us o (.bool (!(a == b))) := fun w => by
  have h : (Op.equal t (.bool a) (.bool b)).run P w = .ok (a == b) w := run_equalBool 9999 ht a b w
  unfold execOp
  simp [ho, hx, hy, eqGuard, binOp, h]
theorem perm_es {A B C : List Blk} : ((A ++ B) ++ C).Perm ((A ++ C) ++ B) := by
  rw [List.append_assoc, List.append_assoc]
  exact List.Perm.append_left _ List.perm_append_comm
/-- a loop in which objects that are no cells change -/
theorem c_loopM {c : Code} {α : Type} (F : α → (Nat → Value) → List Value) (B : α → List Blk) (I : α → World → Prop) (μ : α → Nat) (x0 : α) (hl : toL bs us = F x0 (look bs us)) (h0 : I x0 r) (hW : Cl ⟨w, r⟩ (B x0) W)
    (round : ∀ x j r W, I x r → Cl ⟨w, r⟩ (B x) W → CW rk m P c (Exit.then (fun a' W' => ∃ x' j' r', a' = fr (F x' j') [] ds ∧ I x' r' ∧ Cl ⟨w, r'⟩ (B x') W' ∧ μ x' < μ x) Q) (fr (F x j) [] ds) W) : CW rk m P (Code.loop c) Q (fr bs us ds) W := by
  refine CW.loop (fun n a W => ∃ x j r, a = fr (F x j) [] ds ∧ I x r ∧ Cl ⟨w, r⟩ (B x) W ∧ μ x = n) (μ x0) ⟨x0, look bs us, r, by rw [← hl]; rfl, h0, hW, rfl⟩ ?_
  rintro n a W ⟨x, j, r, rfl, hI, hB, rfl⟩
  refine CW.mono (round x j r W hI hB) ?_
  intro e a W h
  cases e with
  | normal =>
    obtain ⟨x', j', r', ha, hI', hB', hm⟩ := h
    exact ⟨μ x', hm, x', j', r', ha, hI', hB', rfl⟩
  | exit id => exact h
  | goto t => exact h
  | ret => exact h
  | panic ch => exact h
  | outgrown => exact h
theorem loop_nextM {α : Type} {F : α → (Nat → Value) → List Value} {B : α → List Blk} {I : α → World → Prop} {μ : α → Nat} {mm : Nat} (x' : α) (hl : toL bs us = F x' (look bs us)) (hI : I x' r) (hW : Cl ⟨w, r⟩ (B x') W) (hm : μ x' < mm) :
    ∃ x' j' r', fr bs us ds = fr (F x' j') [] ds ∧ I x' r' ∧ Cl ⟨w, r'⟩ (B x') W ∧ μ x' < mm := ⟨x', look bs us, r, by rw [← hl]; rfl, hI, hW, hm⟩
end
end Go.Proofs.YtoegpalacppllaaGreat

/- Covers, by the program. -/
namespace Go.Proofs.YtoegpalacppllaaGreat
open Go.RowKit Pl
open Tr Hn
set_option maxRecDepth 10000 in
/-- headend/cover.Cover$1 -/
theorem g_emit (gt : Nat) (a : Option Addr) (c : Nat) (l : List (Int × Int)) (BL : List Blk) (hO : OwnSl 64 2 a l.length c (sl2 l) BL) (v x : Int) (hl : l.length ≤ 5000) : GivesS Tryz.prog 54 [.int .i64 v, .int .i64 x, .pointer (some ⟨gt, 0, none⟩)].toArray (fun _ _ => True) ([⟨gt, [.slice a l.length c], 33⟩] ++ BL) (fun _ B => ∃ a2 c2 BL2, B = [⟨gt, [.slice a2 (l ++ [(v, x)]).length c2], 33⟩] ++ BL2 ∧ OwnSl 64 2 a2 (l ++ [(v, x)]).length c2 (sl2 (l ++ [(v, x)])) BL2) := by
 refine givesS_of Tryz.func54 rfl (bs := [.int .i64 v, .int .i64 x, .pointer (some ⟨gt, 0, none⟩), undef, undef, undef, undef, undef, undef, undef, undef]) rfl ?_
 intro b L w hP hW
 replace hW := hW.perm perm_es
 refine c_reg ?_
 refine dC hW 0 tyC33 ?_
 refine aI ?_
 refine aI ?_
 refine l_val (r_build (ps := [(0, .int _ _), (1, .int _ _)]) (bld64_0_1 _ _) rfl rfl) rfl rfl ?_
 refine l_buildSliceF hW (bsl33_1_0 _ _) rfl rfl rfl rfl ?_
 intro gb W hW
 refine l_appendB tyE33 (L := [_, _] ++ L) hO hW 0 (N := l.length + 1) rfl rfl rfl rfl rfl rfl rfl rfl (by simp [Value.oneCell']) (by unfold maxLen; omega) (by omega) ?_
 intro a1 c1 Bs1 W hO1 hW
 replace hO1 := hO1.castx rfl (xs' := sl2 (l ++ [(v, x)])) (by rw [sl2_append]; rfl)
 refine l_storeC hW 1 tyC33 (v := .slice _ _ _) rfl rfl rfl rfl rfl rfl (by first | rfl | omega | (simp; done) | (simp; omega)) rfl ?_
 intro W hW
 refine l_end ?_
 refine end_none rfl ?_
 have e9 : (l ++ [(v, x)]).length = l.length + 1 := by simp
 exact ⟨_, _, rfl, ⟨a1, c1, Bs1, rfl, by rw [e9]; exact hO1⟩, by rw [e9]; exact (show Cl _ (([_] ++ L) ++ Bs1) _ from hW.drop 1).perm perm_es⟩

end Go.Proofs.YtoegpalacppllaaGreat

/-
  DERIVED: THE SHELF's CONTRACTS AT THIS DUMP, IN PLAIN WORDS (tools/lay-plain.mjs out of 'TryzShelfS.lean', which tools/lay-shelf.mjs wrote): THE SAME DECLARATIONS UNDER THE SAME NAMES: 'import', 'namespace', 'open', 'def', 'theorem' AND NOTHING ELSE: no command of the shelf's: FOR A HAND-IN. Each laying: the table of numbers ('.._ren') and one theorem, a field a fact of the dump's own or the kernel's comparison; each contract: ONE APPLICATION.
-/
namespace Go.Proofs
open Go.Shelf
def Tryz.lays58_ren : Go.Shelf.Ren := ⟨fun | 6 => 58 | 15 => 104 | 14 => 103 | 28 => 146 | 29 => 147 | 20 => 138 | 21 => 139 | 22 => 140 | 23 => 141 | 24 => 142 | 25 => 143 | 26 => 144 | 27 => 145 | 46 => 171 | 47 => 172 | 48 => 173 | 49 => 174 | 50 => 175 | 57 => 187 | n => n, fun | 22 => 33 | 24 => 64 | 25 => 119 | 3 => 3 | 39 => 113 | 0 => 0 | 53 => 223 | 55 => 22 | 4 => 4 | 46 => 217 | 45 => 216 | 50 => 209 | 5 => 5 | 9 => 9 | 66 => 242 | 70 => 246 | 76 => 254 | 77 => 255 | n => n, fun | n => n⟩
theorem Tryz.lays58 : Go.Proofs.SlLaysF0.n6 Tryz.prog Tryz.lays58_ren := {
  mixed := by kernel_rfl
  f6 := ⟨Tryz.f58.name, by decide, Tryz.func58.trans (congrArg some (by kernel_rfl))⟩
  f14 := ⟨Tryz.f103.name, by decide, Tryz.func103.trans (congrArg some (by kernel_rfl))⟩
  f15 := Tryz.func104.trans (congrArg some (by kernel_rfl))
  f20 := ⟨Tryz.f138.name, by decide, Tryz.func138.trans (congrArg some (by kernel_rfl))⟩
  f21 := ⟨Tryz.f139.name, by decide, Tryz.func139.trans (congrArg some (by kernel_rfl))⟩
  f22 := ⟨Tryz.f140.name, by decide, Tryz.func140.trans (congrArg some (by kernel_rfl))⟩
  f23 := ⟨Tryz.f141.name, by decide, Tryz.func141.trans (congrArg some (by kernel_rfl))⟩
  f24 := ⟨Tryz.f142.name, by decide, Tryz.func142.trans (congrArg some (by kernel_rfl))⟩
  f25 := ⟨Tryz.f143.name, by decide, Tryz.func143.trans (congrArg some (by kernel_rfl))⟩
  f26 := ⟨Tryz.f144.name, by decide, Tryz.func144.trans (congrArg some (by kernel_rfl))⟩
  f27 := ⟨Tryz.f145.name, by decide, Tryz.func145.trans (congrArg some (by kernel_rfl))⟩
  f28 := Tryz.func146.trans (congrArg some (by kernel_rfl))
  f29 := Tryz.func147.trans (congrArg some (by kernel_rfl))
  f46 := ⟨Tryz.f171.name, by decide, Tryz.func171.trans (congrArg some (by kernel_rfl))⟩
  f47 := Tryz.func172.trans (congrArg some (by kernel_rfl))
  f48 := Tryz.func173.trans (congrArg some (by kernel_rfl))
  f49 := ⟨Tryz.f174.name, by decide, Tryz.func174.trans (congrArg some (by kernel_rfl))⟩
  f50 := ⟨Tryz.f175.name, by decide, Tryz.func175.trans (congrArg some (by kernel_rfl))⟩
  f57 := ⟨Tryz.f187.name, by decide, Tryz.func187.trans (congrArg some (by kernel_rfl))⟩
  t0 := Tryz.underlying0
  a0 := Tryz.isAgg0
  z0 := Tryz.sizeOf0
  v0 := Tryz.zeroValue0
  t3 := Tryz.underlying3
  a3 := Tryz.isAgg3
  z3 := Tryz.sizeOf3
  v3 := Tryz.zeroValue3
  t4 := Tryz.underlying4
  a4 := Tryz.isAgg4
  z4 := Tryz.sizeOf4
  v4 := Tryz.zeroValue4
  t5 := Tryz.underlying5
  a5 := Tryz.isAgg5
  z5 := Tryz.sizeOf5
  v5 := Tryz.zeroValue5
  t9 := Tryz.underlying9
  a9 := Tryz.isAgg9
  z9 := Tryz.sizeOf9
  v9 := Tryz.zeroValue9
  t22 := Tryz.underlying33
  a22 := Tryz.isAgg33
  z22 := Tryz.sizeOf33
  v22 := Tryz.zeroValue33
  t25 := Tryz.underlying119
  a25 := Tryz.isAgg119
  z25 := Tryz.sizeOf119
  v25 := Tryz.zeroValue119
  t39 := Tryz.underlying113
  a39 := Tryz.isAgg113
  z39 := Tryz.sizeOf113
  v39 := Tryz.zeroValue113
  t45 := Tryz.underlying216
  a45 := Tryz.isAgg216
  z45 := Tryz.sizeOf216
  v45 := Tryz.zeroValue216
  t46 := Tryz.underlying217
  a46 := Tryz.isAgg217
  z46 := Tryz.sizeOf217
  v46 := Tryz.zeroValue217
  t50 := Tryz.underlying209
  a50 := Tryz.isAgg209
  z50 := Tryz.sizeOf209
  v50 := Tryz.zeroValue209
  t53 := Tryz.underlying223
  a53 := Tryz.isAgg223
  z53 := Tryz.sizeOf223
  v53 := Tryz.zeroValue223
  t55 := Tryz.underlying22
  a55 := Tryz.isAgg22
  z55 := Tryz.sizeOf22
  v55 := Tryz.zeroValue22
  t66 := Tryz.underlying242
  a66 := Tryz.isAgg242
  z66 := Tryz.sizeOf242
  v66 := Tryz.zeroValue242
  t70 := Tryz.underlying246
  a70 := Tryz.isAgg246
  z70 := Tryz.sizeOf246
  v70 := Tryz.zeroValue246
  t76 := Tryz.underlying254
  a76 := Tryz.isAgg254
  z76 := Tryz.sizeOf254
  v76 := Tryz.zeroValue254
  t77 := Tryz.underlying255
  a77 := Tryz.isAgg255
  z77 := Tryz.sizeOf255
  v77 := Tryz.zeroValue255 }
open Go.RowKit Go.Lib Go.Sort in
/-- slices.SortFunc at structs of k cells (LAID: no walk: one application.) -/
theorem Tryz.slices_SortFunc {α : Type} [Inhabited α] (k : Nat) (aE : ∀ w, (isAgg 64).run Tryz.prog w = .ok true w) (zE : ∀ w, (Go.sizeOf 64).run Tryz.prog w = .ok k w) (enc : α → List Value) (hk : ∀ x, (enc x).length = k) (h1 : ∀ x, ∀ v ∈ enc x, v.oneCell' = true) (cf : α → α → Int) (hO : SWO (ltOf cf)) (g : Nat) (cb : Array Value) (blk off cap : Nat) (d : Array α) (w : World)
    (eg : ∀ args w, (callFunc g args).run Tryz.prog w = .ok (.enter g args) w) (hcmp : CmpLays Tryz.prog g cb enc k cf blk off d.size w) (hH : HoldsK enc k w blk off d) (hblk : blk < w.heap.size) (hsz : d.size < 4611686018427387904) :
    Calls Tryz.prog 58 #[.slice (some ⟨blk, off, none⟩) d.size cap, .func (.func g) #[] cb] w fun e w' =>
      e = .returned (.tuple #[]) ∧ ∃ d' n os, PermIn 0 d.size d d' ∧ SortedIn (ltOf cf) 0 d.size d' ∧ w' = sortWorldK enc k w blk off n d' os :=
  AnyQ.slices_SortFunc Tryz.lays58 k aE zE enc hk h1 cf hO g cb blk off cap d w eg hcmp hH hblk hsz
open Go.RowKit Go.Lib Go.Sort in
/-- slices.SortFunc at no element (LAID: no walk: one application.) -/
theorem Tryz.slices_SortFunc_none (p : Option Addr) (cap : Nat) (fv : Value) (w : World) :
    Calls Tryz.prog 58 #[.slice p 0 cap, fv] w fun e w' => e = .returned (.tuple #[]) ∧ w' = w :=
  AnyF.slices_SortFunc_none Tryz.lays58 p cap fv w
end Go.Proofs

/- The comparator of Cover: what it gives, and the world it leaves (great seat: f59). -/
namespace Go.Proofs
open Go.Shelf Go.RowKit Go.Lib Go.Sort
def Tryz.encS (x : Fin 128 × Int) : List Value := [.int .i64 (x.1.val : Int), .int .i64 x.2]
set_option maxHeartbeats 1000000 in
theorem Tryz.closure59 (x y : Fin 128 × Int) (W : World) : Calls Tryz.prog 59 #[.agg #[.int .i64 (x.1.val : Int), .int .i64 x.2], .agg #[.int .i64 (y.1.val : Int), .int .i64 y.2]] W fun e w' => e = .returned (.int .i64 ((x.1.val : Int) - (y.1.val : Int))) ∧ ∃ q os', w' = grow (W.drewN q) os' := by
  have h1 := x.1.isLt
  have h2 := y.1.isLt
  go_enter Tryz.func59, Tryz.ntmps59
  go_wp2
  go_ret
  exact ⟨rfl, 0, _, by rw [alloc_eq_grow, alloc_eq_grow, grow_grow]; rfl⟩
end Go.Proofs

/- Sorting subsets in memory of one's own, by the library's sort with a comparator. (great seat: Tryz, f58, f59, type 64) -/
namespace Go.Proofs.YtoegpalacppllaaGreat
open Go.RowKit Go.Sort Go.Lib Pl Tr Hn
/-- a subset whose node is small -/
def toF (q : Int × Int) : Fin 128 × Int := (⟨q.1.toNat % 128, Nat.mod_lt _ (by decide)⟩, q.2)
def unF (x : Fin 128 × Int) : Int × Int := ((x.1.val : Int), x.2)
theorem unF_toF {q : Int × Int} (h0 : 0 ≤ q.1) (h1 : q.1 < 128) : unF (toF q) = q := by
  obtain ⟨v, x⟩ := q
  simp only [toF, unF] at *
  have : ((v.toNat % 128 : Nat) : Int) = v := by omega
  rw [this]
theorem swoF : SWO (ltOf fun x y : Fin 128 × Int => (x.1.val : Int) - (y.1.val : Int)) where
  irrefl x := by simp [ltOf]
  trans x y z h1 h2 := by simp [ltOf] at *; omega
  ntrans x y z h1 h2 := by simp [ltOf] at *; omega
theorem flat_sl2 (d : Array (Fin 128 × Int)) : (flatK Tryz.encS 2 d).toList = sl2 (d.toList.map unF) := by
  apply List.ext_getElem?
  intro j
  by_cases hj : j < d.size * 2
  · have h0 : j / 2 < d.size := by omega
    have e1 : (flatK Tryz.encS 2 d).toList[j]? = some ((Tryz.encS d[j / 2]!)[j % 2]!) := by
      rw [Array.getElem?_toList, Array.getElem?_eq_getElem (by simpa using hj)]
      have := get_flatK Tryz.encS 2 d j hj
      rw [getElem!_pos (flatK Tryz.encS 2 d) j (by simpa using hj)] at this
      rw [this]
    have hl : j / 2 < (d.toList.map unF).length := by simpa using h0
    have eq : (d.toList.map unF).getD (j / 2) (0, 0) = unF d[j / 2]! := by
      rw [List.getD_eq_getElem?_getD, List.getElem?_map, Array.getElem?_toList, getElem!_pos d (j / 2) h0, Array.getElem?_eq_getElem h0]; rfl
    rw [e1]
    have hm : j % 2 = 0 ∨ j % 2 = 1 := by omega
    rcases hm with hm | hm
    · have := sl2_get0 (d.toList.map unF) (j / 2) hl
      rw [show 2 * (j / 2) = j by omega] at this
      rw [this, hm, qn, eq]; rfl
    · have := sl2_get1 (d.toList.map unF) (j / 2) hl
      rw [show 2 * (j / 2) + 1 = j by omega] at this
      rw [this, hm, qm, eq]; rfl
  · rw [List.getElem?_eq_none (by simpa using hj), List.getElem?_eq_none (by rw [sl2_len]; simp; omega)]
section
variable {w0 : Base} {W : World} {L Bs : List Blk}
theorem heap_sortedS {w : World} {g n : Nat} {os : Array Obj} {cur : Array Value} {e : TypeId} {fr : Nat × Nat} (d : Array Value) (hb : w.heap[g]? = some (.cells cur e fr)) :
    (grow (putRow id (Sort.ahead w n) g 0 d) os).heap[g]? = some (.cells (putCells id 0 d cur) e fr) := by
  have hg : g < w.heap.size := (Array.getElem?_eq_some_iff.1 hb).1
  rw [heap_grow_old _ _ (by simpa using hg)]
  simp [putRow, mapBlock, Sort.ahead, Array.getElem?_modify, hb, onCells]
theorem grownBy_sortedS {w : World} {g n : Nat} {os : Array Obj} (d : Array Value) : w.grownBy (grow (putRow id (Sort.ahead w n) g 0 d) os) (some g) := by
  refine ⟨rfl, rfl, rfl, by simp, fun k hk hne => ?_⟩
  rw [heap_grow_old _ _ (by simpa using hk)]
  have : g ≠ k := fun e => hne (by rw [e])
  simp [putRow, mapBlock, Sort.ahead, Array.getElem?_modify, this]
theorem take_putS (cur ts : Array Value) (h : ts.size ≤ cur.size) : (putCells id 0 ts cur).toList.take ts.size = ts.toList := by
  apply List.ext_getElem?
  intro j
  by_cases hj : j < ts.size
  · rw [List.getElem?_take_of_lt hj, Array.getElem?_toList]
    simp [putCells, hj, show j < cur.size by omega]
  · rw [List.getElem?_take_eq_none (by omega), List.getElem?_eq_none (by simpa using hj)]
/-- the subsets of a slice of one's own are put into another order -/
theorem sort_ownS {a : Option Addr} {n c : Nat} {l : List (Int × Int)} (hO : OwnSl 64 2 a n c (sl2 l) Bs) (hW : Cl w0 (L ++ Bs) W) (hn : n < 4611686018427387904) (hl : ∀ q ∈ l, 0 ≤ q.1 ∧ q.1 < 128) :
    Calls Tryz.prog 58 #[.slice a n c, .func (.func 59) #[] #[]] W fun e' w' => e' = .returned (.tuple #[]) ∧ ∃ l' Bs', l'.Perm l ∧ OwnSl 64 2 a n c (sl2 l') Bs' ∧ Cl w0 (L ++ Bs') w' := by
  have hl1 := hO.1
  rw [sl2_len] at hl1
  rcases hO.2 with ⟨rfl, rfl, rfl, rfl⟩ | ⟨g, cur, rfl, rfl, h3, h4, h5, h6⟩
  · refine (Tryz.slices_SortFunc_none none 0 _ W).mono ?_
    rintro e' w' ⟨rfl, rfl⟩
    exact ⟨rfl, l, [], List.Perm.refl _, hO, hW⟩
  · have hg : W.heap[g]? = some (.cells cur.toArray 64 (0, 0)) := hW.holds ⟨g, cur, 64⟩ (by simp)
    obtain ⟨d, hd⟩ : ∃ d, d = (l.map toF).toArray := ⟨_, rfl⟩
    have hds : d.size = n := by rw [hd]; simp; omega
    have hback : d.toList.map unF = l := by
      rw [hd, List.toList_toArray, List.map_map]
      exact (List.map_congr_left fun q hq => unF_toF (hl q hq).1 (hl q hq).2).trans (List.map_id l)
    have hH : HoldsK Tryz.encS 2 W g 0 d := by
      intro j hj
      refine ⟨?_, by simp [World.frozen?, hg]⟩
      have hj' : j < d.size * 2 := by simpa using hj
      rw [Nat.zero_add, cell_at hg]
      have e1 : (flatK Tryz.encS 2 d).toList[j]? = some (flatK Tryz.encS 2 d)[j]! := by
        rw [Array.getElem?_toList, Array.getElem?_eq_getElem hj, getElem!_pos (flatK Tryz.encS 2 d) j hj]
      rw [flat_sl2, hback] at e1
      exact take_get h6 e1
    have := Tryz.slices_SortFunc 2 (fun _ => by kernel_rfl) (fun _ => by kernel_rfl) Tryz.encS (fun _ => rfl) (fun x v hv => by simp [Tryz.encS] at hv; rcases hv with rfl | rfl <;> rfl) (fun x y => (x.1.val : Int) - (y.1.val : Int)) swoF 59 #[] g 0 c d W (fun args w => en59 args w) (fun _ _ _ _ x y => Tryz.closure59 x y _) hH (Array.getElem?_eq_some_iff.1 hg).1 (by omega)
    rw [hds] at this
    refine this.mono ?_
    rintro e' w' ⟨rfl, d', k, os, ⟨p1, p2, p3⟩, -, rfl⟩
    have hd's : d'.size = n := by rw [p1, hds]
    have hperm : d'.toList.Perm d.toList := by
      have e1 : d'.extract 0 n = d' := by rw [← hd's]; simp
      have e2 : d.extract 0 n = d := by rw [← hds]; simp
      rwa [e1, e2] at p3
    have hW' := hW.perm List.perm_append_comm
    have hr : Cl w0 (⟨g, (putCells id 0 (flatK Tryz.encS 2 d') cur.toArray).toList, 64⟩ :: L) _ := Cl.regrown (cs := (putCells id 0 (flatK Tryz.encS 2 d') cur.toArray).toList) hW' (grownBy_sortedS (n := k) (os := os) (flatK Tryz.encS 2 d')) (by simpa using heap_sortedS (n := k) (os := os) (flatK Tryz.encS 2 d') hg)
    have hlen : (flatK Tryz.encS 2 d').size = n * 2 := by rw [size_flatK, hd's]
    refine ⟨rfl, d'.toList.map unF, _, hback ▸ hperm.map unF, ⟨by rw [sl2_len]; simp; omega, .inr ⟨g, _, rfl, rfl, h3, h4, by simpa [putCells] using h5, ?_⟩⟩, hr.perm (List.perm_append_singleton _ _).symm⟩
    rw [← flat_sl2, ← hlen]
    exact take_putS _ _ (by rw [hlen]; simp; omega)
theorem l_sortS {ops : Array Oper} {Q : Exit → Act → World → Prop} {bs : List Value} {us : List (Nat × Value)} {ds : List Deferred} {rest : List Oper} {o : Oper} {d m : Nat} {r : Option (Option Nat)} {a : Option Addr} {n c : Nat} {l : List (Int × Int)} {xs : Array Operand} {ts : Array TypeId} (hO : OwnSl 64 2 a n c (sl2 l) Bs) (hW : Cl w0 (L ++ Bs) W) (hn : n < 4611686018427387904) (hl : ∀ q ∈ l, 0 ≤ q.1 ∧ q.1 < 128) (he : Enters Tryz.prog 58) (hg : o.guard = none) (ho : o.op = .call { callee := .value (.func 58), args := xs, argTypes := ts }) (ha : xs.toList.map (ev bs us) = [.slice a n c, .func (.func 59) #[] #[]]) (hd : o.dst = some d)
    (h : ∀ l' Bs' W', l'.Perm l → OwnSl 64 2 a n c (sl2 l') Bs' → Cl w0 (L ++ Bs') W' → LW r m Tryz.prog ops Q rest (fr bs ((d, .tuple #[]) :: us) ds) W') : LW r m Tryz.prog ops Q (o :: rest) (fr bs us ds) W :=
  LW.call (wanted_none hg) (by rw [eval_ev]; exact run_call he ho ha W) ((sort_ownS hO hW hn hl).mono fun _ w ⟨he, l', Bs', hp, hO', hc⟩ => ⟨_, he, by show LW r m Tryz.prog ops Q rest ((fr bs us ds).put o.dst _) w; rw [hd, put_st]; exact h l' Bs' w hp hO' hc⟩)
theorem Cl.toBase {w r : World} (h : Cl ⟨w, r⟩ L W) : Cl (base w) L W := ⟨h.below, h.holds, h.own, h.apart, fun k _ hk _ => (h.below.block k (Array.getElem?_eq_some_iff.1 hk).1).trans hk⟩
end
end Go.Proofs.YtoegpalacppllaaGreat

/- Covers, by the program. -/
namespace Go.Proofs.YtoegpalacppllaaGreat
open Go.RowKit Pl
open Tr Hn
/-- the leaf of a receiver, a whole number -/
theorem g_pleafZ (s : Sc) (u : Int) (h0 : 0 ≤ s.d) (h6 : s.d ≤ 6) (hu0 : 0 ≤ u) (hu : u < ((p2 s.d.toNat : Nat) : Int)) : Gives Tryz.prog 53 [.agg [.int .u8 s.k, .int .i64 s.d, .int .i64 (strideN s.d : Int)].toArray, .int .i64 u].toArray (.int .i64 ((p2 s.d.toNat + u.toNat : Nat) : Int)) := by
 obtain ⟨n, rfl⟩ : ∃ n : Nat, u = n := ⟨u.toNat, by omega⟩
 exact g_pleaf s n h0 h6 (by omega)
set_option maxRecDepth 10000 in
/-- headend/cover.Cover -/
theorem g_CoverY (s : Sc) (aa : Option Addr) (an ac : Nat) (l : List Int) (hl : l.length ≤ 100) (hs : schB s = true) : GivesX Tryz.prog 17 [.agg [.int .u8 s.k, .int .i64 s.d, .int .i64 s.g, .int .u64 s.p, .int .u64 s.q, .int .u64 s.r].toArray, .slice aa an ac].toArray (fun w => RdI w ⟨aa, an, ac⟩ l) (fun v Bs => ∃ (a2 : Option Addr) (c2 : Nat) (em : List (Int × Int)), v = .tuple #[.slice a2 em.length c2, .int .i64 (covE s l)] ∧ (covE s l = 0 → CovOk s l em) ∧ em.length ≤ 1400 ∧ OwnSl 64 2 a2 em.length c2 (sl2 em) Bs) := by
 refine givesX_of Tryz.func17 rfl (bs := [.agg [.int .u8 s.k, .int .i64 s.d, .int .i64 s.g, .int .u64 s.p, .int .u64 s.q, .int .u64 s.r].toArray, .slice aa an ac, undef, undef, undef, undef, undef, undef, undef, undef, undef, undef, undef, undef, undef, undef, undef, undef, undef, undef, undef, undef, undef, undef, undef, undef, undef, undef, undef, undef, undef, undef, undef, undef, undef, undef, undef, undef, undef, undef, undef, undef, undef, undef, undef, undef, undef, undef, undef, undef, undef, undef, undef, undef, undef, undef, undef, undef, undef, undef, undef, undef, undef, undef, undef, undef, undef, undef, undef, undef, undef, undef, undef, undef, undef, undef, undef, undef, undef, undef, undef, undef, undef, undef, undef, undef, undef, undef, undef, undef, undef, undef, undef, undef, undef, undef, undef, undef, undef, undef, undef, undef, undef, undef, undef, undef, undef, undef, undef, undef, undef, undef, undef, undef, undef, undef, undef, undef, undef, undef, undef, undef, undef, undef, undef, undef, undef, undef, undef, undef, undef, undef, undef, undef]) rfl ?_
 intro w hP hW
 obtain ⟨k1, k3, d0, d6, -⟩ := schB_iff.1 hs
 have hn : an = l.length := hP.len
 have hp := p2_le (n := s.d.toNat) (by omega)
 have hp0 := p2_pos s.d.toNat
 refine c_seq (c_reg ?_)
 refine xB hW ?_
 intro g1 W hW
 refine bS ?_
 refine bI ?_
 refine l_end (n_then (c_seq (c_reg ?_)))
 refine dA hW 0 tyA26 ?_
 refine l_callR hW (g_enter s none 0 0 [] hs (by simp)) en51 ⟨Sl.Ok.no, rfl, Rd.nil _ _⟩ rfl rfl rfl rfl ?_
 intro W hW
 have he0 : entE s [] = 0 := entE_yes fun i hi => absurd hi (Nat.not_lt_zero i)
 rw [he0, entT_yes he0]
 refine l_val (r_move (v := .tuple _) rfl rfl) rfl rfl ?_
 refine l_val (r_extract (v := .agg _) rfl rfl rfl) rfl rfl ?_
 refine l_val (r_extract (v := .int _ _) rfl rfl rfl) rfl rfl ?_
 refine l_alloc hW tyZ106 rfl rfl rfl ?_
 intro g2 W hW
 refine sA hW 0 tyA106 ?_
 intro W hW
 refine bI ?_
 refine l_end (n_then (c_seq (c_seq (c_reg ?_))))
 refine aI ?_
 refine l_val (r_neq (b := false) rfl rfl rfl (by decide)) rfl rfl ?_
 refine l_end (n_then ?_)
 refine c_false rfl ?_
 refine c_skip (n_then (c_seq (c_seq (c_reg ?_))))
 refine dA hW 0 tyA106 ?_
 refine aS ?_
 refine l_callR hW (g_plist s d0 d6 aa an ac l (by omega)) en52 (hP.past hW.below) rfl rfl rfl rfl ?_
 intro W hW
 refine l_split ?_ ?_
 ·intro hc1
  have husl : usersB l ((p2 s.d.toNat : Nat) : Int) = true := hc1
  refine l_val (r_not rfl rfl) rfl rfl ?_
  refine l_end (n_then ?_)
  refine c_false rfl ?_
  refine c_skip (n_then (c_seq (c_seq (c_reg ?_))))
  refine aS ?_
  refine l_val (r_lenSlice Tryz.underlying27 rfl rfl) rfl rfl ?_
  refine l_val (r_eqlN (n := 0) rfl rfl rfl rfl) rfl rfl ?_
  refine l_split ?_ ?_
  ·intro hc2
   replace hc2 := of_decide_eq_true hc2
   refine l_end (n_then ?_)
   refine c_true rfl ?_
   refine c_seq (c_reg ?_)
   refine l_val (r_build (ps := [(0, .int _ _)]) (bld64_0 _) rfl rfl) rfl rfl ?_
   refine l_buildSliceF hW (bsl33_1_0 _ _) rfl rfl rfl rfl ?_
   intro gb W hW
   refine bS ?_
   refine bI ?_
   refine l_end (n_then (c_ret (r_then ?_)))
   refine ret_tmp2 rfl rfl rfl ?_
   have e : covE s l = 0 := by rw [covE, if_neg (by rw [hs]; decide), if_neg (by rw [hc1]; decide)]
   obtain rfl : l = [] := List.eq_nil_of_length_eq_zero (by omega)
   exact ⟨_, [⟨gb, [.int .i64 1, .int .i64 0], 64⟩], rfl, ⟨some ⟨gb, 0, none⟩, 1, [(1, 0)], by rw [e]; rfl, fun _ => cov_nil d6, by decide, OwnSl.full rfl (by show 1 ≤ maxLen; decide)⟩, hW.sub (.cons_cons _ (List.nil_sublist _))⟩
  ·intro hc2
   replace hc2 := of_decide_eq_false hc2
   have hmk : Mk_ s.d.toNat l (stT s.d.toNat l) := stT_mk (by omega) husl
   refine l_end (n_then ?_)
   refine c_false rfl ?_
   refine c_skip (n_then (c_seq (c_reg ?_)))
   refine l_makeMapN (k := 111) (e := 4) hW rfl rfl rfl ?_
   intro mb W hmb hN hW
   refine l_val (r_assign (v := .map _) rfl rfl) rfl rfl ?_
   refine l_end (n_then (c_seq (c_seq (c_reg ?_))))
   refine aS ?_
   refine l_val (r_lenSlice Tryz.underlying27 rfl rfl) rfl rfl ?_
   refine aI ?_
   refine l_end (n_then (c_block ?_))
   refine c_loopM (fun (i : Nat) (j : Nat → Value) => [.agg [.int .u8 s.k, .int .i64 s.d, .int .i64 s.g, .int .u64 s.p, .int .u64 s.q, .int .u64 s.r].toArray, .slice aa an ac, .pointer (some ⟨g1, 0, none⟩), j 3, j 4, .int .i64 0, .pointer (some ⟨g2, 0, none⟩), .int .i64 0, .map (some mb), j 9, j 10, j 11, j 12, j 13, j 14, j 15, j 16, .tuple #[.agg [.int .u8 s.k, .int .i64 s.d, .int .i64 (strideN s.d : Int)].toArray, .int .i64 0], .agg ([.int .u8 s.k, .int .i64 s.d, .int .i64 s.g, .int .u64 s.p, .int .u64 s.q, .int .u64 s.r]).toArray, .tuple #[.agg [.int .u8 s.k, .int .i64 s.d, .int .i64 (strideN s.d : Int)].toArray, .int .i64 0], .agg [.int .u8 s.k, .int .i64 s.d, .int .i64 (strideN s.d : Int)].toArray, .int .i64 0, .int .i64 0, .bool false, j 24, .agg ([.int .u8 s.k, .int .i64 s.d, .int .i64 (strideN s.d : Int)]).toArray, .slice aa an ac, .bool true, .bool false, .slice aa an ac, j 30, .bool false, j 32, j 33, .map (some mb), .slice aa an ac, .int .i64 (an : Int), .int .i64 (i : Int), j 38, j 39, j 40, j 41, j 42, j 43, j 44, j 45, j 46, j 47, j 48, j 49, j 50, j 51, j 52, j 53, j 54, j 55, j 56, j 57, j 58, j 59, j 60, j 61, j 62, j 63, j 64, j 65, j 66, j 67, j 68, j 69, j 70, j 71, j 72, j 73, j 74, j 75, j 76, j 77, j 78, j 79, j 80, j 81, j 82, j 83, j 84, j 85, j 86, j 87, j 88, j 89, j 90, j 91, j 92, j 93, j 94, j 95, j 96, j 97, j 98, j 99, j 100, j 101, j 102, j 103, j 104, j 105, j 106, j 107, j 108, j 109, j 110, j 111, j 112, j 113, j 114, j 115, j 116, j 117, j 118, j 119, j 120, j 121, j 122, j 123, j 124, j 125, j 126, j 127, j 128, j 129, j 130, j 131, j 132, j 133]) (fun (i : Nat) => [⟨g2, [.int .u8 s.k, .int .i64 s.d, .int .i64 (strideN s.d : Int)], 106⟩, ⟨g1, [.int .u8 s.k, .int .i64 s.d, .int .i64 s.g, .int .u64 s.p, .int .u64 s.q, .int .u64 s.r], 26⟩]) (fun (i : Nat) r => i ≤ an ∧ NMap Tryz.prog 111 4 r mb (7 * i) (stS s.d.toNat l i)) (fun (i : Nat) => an - i) 0 (by kernel_rfl) ⟨Nat.zero_le _, hN⟩ hW ?_
   intro i j r1 W hx hW
   obtain ⟨hi0, hN⟩ := hx
   refine c_seq (c_reg ?_)
   refine l_val (r_lssN rfl rfl rfl rfl) rfl rfl ?_
   refine l_split ?_ ?_
   ·intro hc3
    replace hc3 := of_decide_eq_true hc3
    obtain ⟨b0, o0, ha, hc⟩ := hP.ptr (by omega)
    have hus := users_at husl (i := i) (by omega)
    have hly : lev (p2 s.d.toNat + (at_ l i).toNat) = s.d.toNat := leaf_lev (by omega)
    have hrt := root_sh (y := (p2 s.d.toNat + (at_ l i).toNat)) (by omega) (by omega) hly
    refine l_end (n_then (c_seq ?_))
    refine c_true rfl ?_
    refine c_skip (n_then (c_seq (c_block (c_seq (c_reg ?_)))))
    refine l_val (r_indexAddrSl2 (n := i) Tryz.underlying27 tyC3.size rfl (congrArg (fun a => Value.slice a an ac) ha) rfl (by omega)) rfl rfl ?_
    refine l_loadF hW tyC3 (v := .int .i64 (at_ l (i))) (hc (i) (by omega)) rfl rfl rfl rfl ?_
    refine bI ?_
    refine l_end (n_then (c_seq (c_reg ?_)))
    refine dA hW 0 tyA106 ?_
    refine aI ?_
    refine l_call hW (g_pleafZ s (at_ l i) (by omega) (by omega) hus.1 hus.2) en53 rfl rfl rfl rfl ?_
    intro W hW
    refine bI ?_
    refine l_end (n_then (c_block ?_))
    refine c_loopM (fun (k : Nat) (j : Nat → Value) => [.agg [.int .u8 s.k, .int .i64 s.d, .int .i64 s.g, .int .u64 s.p, .int .u64 s.q, .int .u64 s.r].toArray, .slice aa an ac, .pointer (some ⟨g1, 0, none⟩), j 3, j 4, .int .i64 0, .pointer (some ⟨g2, 0, none⟩), .int .i64 0, .map (some mb), j 9, .int .i64 (at_ l (i)), .int .i64 ((sh (p2 s.d.toNat + (at_ l i).toNat) k : Nat) : Int), j 12, j 13, j 14, j 15, j 16, .tuple #[.agg [.int .u8 s.k, .int .i64 s.d, .int .i64 (strideN s.d : Int)].toArray, .int .i64 0], .agg ([.int .u8 s.k, .int .i64 s.d, .int .i64 s.g, .int .u64 s.p, .int .u64 s.q, .int .u64 s.r]).toArray, .tuple #[.agg [.int .u8 s.k, .int .i64 s.d, .int .i64 (strideN s.d : Int)].toArray, .int .i64 0], .agg [.int .u8 s.k, .int .i64 s.d, .int .i64 (strideN s.d : Int)].toArray, .int .i64 0, .int .i64 0, .bool false, j 24, .agg ([.int .u8 s.k, .int .i64 s.d, .int .i64 (strideN s.d : Int)]).toArray, .slice aa an ac, .bool true, .bool false, .slice aa an ac, j 30, .bool false, j 32, j 33, .map (some mb), .slice aa an ac, .int .i64 (an : Int), .int .i64 (i : Int), .bool true, j 39, .int .i64 (at_ l (i)), .agg ([.int .u8 s.k, .int .i64 s.d, .int .i64 (strideN s.d : Int)]).toArray, .int .i64 (at_ l (i)), .int .i64 (((p2 s.d.toNat + (at_ l i).toNat) : Nat) : Int), j 44, j 45, j 46, j 47, j 48, j 49, j 50, j 51, j 52, j 53, j 54, j 55, j 56, j 57, j 58, j 59, j 60, j 61, j 62, j 63, j 64, j 65, j 66, j 67, j 68, j 69, j 70, j 71, j 72, j 73, j 74, j 75, j 76, j 77, j 78, j 79, j 80, j 81, j 82, j 83, j 84, j 85, j 86, j 87, j 88, j 89, j 90, j 91, j 92, j 93, j 94, j 95, j 96, j 97, j 98, j 99, j 100, j 101, j 102, j 103, j 104, j 105, j 106, j 107, j 108, j 109, j 110, j 111, j 112, j 113, j 114, j 115, j 116, j 117, j 118, j 119, j 120, j 121, j 122, j 123, j 124, j 125, j 126, j 127, j 128, j 129, j 130, j 131, j 132, j 133]) (fun (k : Nat) => [⟨g2, [.int .u8 s.k, .int .i64 s.d, .int .i64 (strideN s.d : Int)], 106⟩, ⟨g1, [.int .u8 s.k, .int .i64 s.d, .int .i64 s.g, .int .u64 s.p, .int .u64 s.q, .int .u64 s.r], 26⟩]) (fun (k : Nat) r => k ≤ s.d.toNat + 1 ∧ NMap Tryz.prog 111 4 r mb (7 * i + k) (stJ s.d.toNat l i (p2 s.d.toNat + (at_ l i).toNat) k)) (fun (k : Nat) => s.d.toNat + 1 - k) 0 (by kernel_rfl) ⟨Nat.zero_le _, by rw [stJ_zero]; exact hN⟩ hW ?_
    intro k j r1 W hx hW
    obtain ⟨hk0, hN⟩ := hx
    have hle := sh_le (p2 s.d.toNat + (at_ l i).toNat) k
    refine c_seq (c_seq (c_reg ?_))
    refine aI ?_
    refine l_val (r_gtrN (n := 0) rfl rfl rfl rfl) rfl rfl ?_
    refine l_split ?_ ?_
    ·intro hc4
     replace hc4 := of_decide_eq_true hc4
     have hkd : k ≤ s.d.toNat := Nat.le_of_not_lt fun h => by rw [show k = s.d.toNat + 1 by omega, sh_succ, hrt] at hc4; omega
     refine l_end (n_then ?_)
     refine c_true rfl ?_
     refine c_skip (n_then (c_seq (c_block (c_reg ?_))))
     refine l_val (r_move (v := .map _) rfl rfl) rfl rfl ?_
     refine aI ?_
     refine l_updateN hW hN Tryz.underlying111 Tryz.underlying4 Tryz.underlying110 hmb (by unfold maxLen; omega) rfl rfl rfl rfl rfl rfl (WalkArith.wf_i64 (by omega)) ?_
     intro W hN hW
     refine l_end (n_block (n_then (c_reg ?_)))
     refine aI ?_
     refine l_val (r_shr_i64N (n := sh (p2 s.d.toNat + (at_ l i).toNat) k) (s := 1) rfl rfl rfl (by omega)) rfl rfl ?_
     refine bI ?_
     refine l_end (n_then ?_)
     exact loop_nextM (k + 1) (by kernel_rfl) ⟨by omega, by rw [stJ_succ]; exact hN⟩ hW (by omega)
    ·intro hc4
     replace hc4 := of_decide_eq_false hc4
     have hkd : k = s.d.toNat + 1 := Classical.byContradiction fun h => by have := sh_pos (y := (p2 s.d.toNat + (at_ l i).toNat)) (by omega) (by omega) (i := k) (by omega); omega
     refine l_end (n_then ?_)
     refine c_false rfl ?_
     refine c_exit (x_then (x_then ?_))
     refine x_hit ?_
     refine n_block (n_then (c_reg ?_))
     refine l_val (r_addN (n := 1) rfl rfl rfl (by omega)) rfl rfl ?_
     refine aI ?_
     refine l_end (n_then ?_)
     exact loop_nextM (i + 1) (by kernel_rfl) ⟨by omega, by have h := hN; rw [hkd, stJ_end] at h; exact h.mono (by omega)⟩ hW (by omega)
   ·intro hc3
    replace hc3 := of_decide_eq_false hc3
    have hin : i = l.length := by omega
    rw [hin] at hN
    refine l_end (n_then (c_seq ?_))
    refine c_false rfl ?_
    refine c_exit (x_then (x_then ?_))
    refine x_hit ?_
    refine n_then (c_seq (c_reg ?_))
    refine l_allocC hW tyZ33 rfl rfl rfl rfl ?_
    intro g3 W hW
    refine l_end (n_then (c_seq (c_reg ?_)))
    refine l_val (r_closure (vs := [.pointer (some ⟨g3, 0, none⟩)]) rfl rfl) rfl rfl ?_
    refine l_val (r_assign (v := .func _ _ _) rfl rfl) rfl rfl ?_
    refine l_end (n_then (c_seq (c_seq (c_reg ?_))))
    refine l_val (r_move (v := .map _) rfl rfl) rfl rfl ?_
    refine l_rangeN hW hN Tryz.underlying111 Tryz.underlying110 rfl rfl rfl rfl ?_
    intro it cn W hit hcn hR hW
    refine l_end (n_then (c_block ?_))
    refine c_loopM (fun (z : (Int → Bool) × Nat × List (Int × Int) × Option Addr × Nat × List Blk) (j : Nat → Value) => [.agg [.int .u8 s.k, .int .i64 s.d, .int .i64 s.g, .int .u64 s.p, .int .u64 s.q, .int .u64 s.r].toArray, .slice aa an ac, .pointer (some ⟨g1, 0, none⟩), j 3, j 4, .int .i64 0, .pointer (some ⟨g2, 0, none⟩), .int .i64 0, .map (some mb), j 9, j 10, j 11, .pointer (some ⟨g3, 0, none⟩), .func (.func 54) #[] #[.pointer (some ⟨g3, 0, none⟩)], j 14, j 15, j 16, .tuple #[.agg [.int .u8 s.k, .int .i64 s.d, .int .i64 (strideN s.d : Int)].toArray, .int .i64 0], .agg ([.int .u8 s.k, .int .i64 s.d, .int .i64 s.g, .int .u64 s.p, .int .u64 s.q, .int .u64 s.r]).toArray, .tuple #[.agg [.int .u8 s.k, .int .i64 s.d, .int .i64 (strideN s.d : Int)].toArray, .int .i64 0], .agg [.int .u8 s.k, .int .i64 s.d, .int .i64 (strideN s.d : Int)].toArray, .int .i64 0, .int .i64 0, .bool false, j 24, .agg ([.int .u8 s.k, .int .i64 s.d, .int .i64 (strideN s.d : Int)]).toArray, .slice aa an ac, .bool true, .bool false, .slice aa an ac, j 30, .bool false, j 32, j 33, .map (some mb), .slice aa an ac, .int .i64 (an : Int), j 37, .bool false, j 39, j 40, j 41, j 42, j 43, j 44, j 45, j 46, j 47, j 48, j 49, j 50, j 51, .map (some mb), .pointer (some ⟨it, 0, none⟩), j 54, j 55, j 56, j 57, j 58, j 59, j 60, j 61, j 62, j 63, j 64, j 65, j 66, j 67, j 68, j 69, j 70, j 71, j 72, j 73, j 74, j 75, j 76, j 77, j 78, j 79, j 80, j 81, j 82, j 83, j 84, j 85, j 86, j 87, j 88, j 89, j 90, j 91, j 92, j 93, j 94, j 95, j 96, j 97, j 98, j 99, j 100, j 101, j 102, j 103, j 104, j 105, j 106, j 107, j 108, j 109, j 110, j 111, j 112, j 113, j 114, j 115, j 116, j 117, j 118, j 119, j 120, j 121, j 122, j 123, j 124, j 125, j 126, j 127, j 128, j 129, j 130, j 131, j 132, j 133]) (fun (z : (Int → Bool) × Nat × List (Int × Int) × Option Addr × Nat × List Blk) => [⟨g3, [.slice z.2.2.2.1 z.2.2.1.length z.2.2.2.2.1], 33⟩, ⟨g2, [.int .u8 s.k, .int .i64 s.d, .int .i64 (strideN s.d : Int)], 106⟩, ⟨g1, [.int .u8 s.k, .int .i64 s.d, .int .i64 s.g, .int .u64 s.p, .int .u64 s.q, .int .u64 s.r], 26⟩] ++ z.2.2.2.2.2) (fun (z : (Int → Bool) × Nat × List (Int × Int) × Option Addr × Nat × List Blk) r => NRan Tryz.prog 111 4 r mb it (7 * l.length) (stS s.d.toNat l l.length) z.1 z.2.1 ∧ OwnSl 64 2 z.2.2.2.1 z.2.2.1.length z.2.2.2.2.1 (sl2 z.2.2.1) z.2.2.2.2.2 ∧ Emits s (stT s.d.toNat l) z.1 z.2.2.1 ∧ z.2.2.1.length + 2 * z.2.1 ≤ 1400) (fun (z : (Int → Bool) × Nat × List (Int × Int) × Option Addr × Nat × List Blk) => z.2.1) (stS s.d.toNat l l.length, cn, [], none, 0, []) (by kernel_rfl) ⟨hR, OwnSl.nil 64 2, Emits.nil fun v h => h, by show 0 + 2 * cn ≤ 1400; omega⟩ (show Cl _ ([_, _, _] ++ []) _ from hW) ?_
    intro z j r1 W hx hW
    obtain ⟨hR, hO, hE, hlen⟩ := hx
    refine c_seq (c_reg ?_)
    refine l_nextN hW hR Tryz.underlying111 Tryz.underlying4 hit rfl rfl rfl rfl ?_ ?_
    ·intro hdn
     refine l_val (r_extract (v := .bool _) rfl rfl rfl) rfl rfl ?_
     refine l_end (n_then (c_seq ?_))
     refine c_false rfl ?_
     refine c_exit (x_then (x_then ?_))
     refine x_hit ?_
     refine n_then (c_seq (c_reg ?_))
     refine dC hW 0 tyC33 ?_
     have hne : l ≠ [] := fun e => by rw [e] at hn; simp only [List.length_nil] at hn; omega
     have hnode : ∀ q ∈ z.2.2.1, 0 ≤ q.1 ∧ q.1 < 128 := fun q hq => by obtain ⟨v, hv, he⟩ := hE.of q hq; exact em_node hmk hv he
     refine l_sortS hO (show Cl _ ([_, _, _] ++ z.2.2.2.2.2) _ from hW) (by omega) hnode en58 rfl rfl rfl rfl ?_
     intro emS BS W hpS hOS hW
     have hleS := hpS.length_eq
     have hcov : CovOk s l emS := fun u hu => by
      have h := hE.cover (fun v hv => hdn _ (WalkArith.wf_i64 (by have := (hmk.lt128 hv).1; omega))) hmk hne hu
      rw [← h]
      exact ⟨fun ⟨q, hq, hm⟩ => ⟨q, hpS.mem_iff.1 hq, hm⟩, fun ⟨q, hq, hm⟩ => ⟨q, hpS.mem_iff.2 hq, hm⟩⟩
     refine l_end (n_then (c_seq (c_reg ?_)))
     refine dC hW 0 tyC33 ?_
     refine bS ?_
     refine bI ?_
     refine l_end (n_then (c_ret ?_))
     refine ret_tmp2 rfl rfl rfl ?_
     have e : covE s l = 0 := by rw [covE, if_neg (by rw [hs]; decide), if_neg (by rw [hc1]; decide)]
     exact ⟨_, BS, rfl, ⟨z.2.2.2.1, z.2.2.2.2.1, emS, by rw [e, hleS]; rfl, fun _ => hcov, by omega, by rw [hleS]; exact hOS⟩, ((show Cl _ ([_, _, _] ++ BS) _ from hW).sub (List.sublist_append_right _ _)).toBase⟩
    ·intro xx cn1 W hwf hxl hxs hR1 hcn1 hW hen
     obtain ⟨v, rfl⟩ := stS_nat hxs
     have hTv : stT s.d.toNat l v = true := hxs
     obtain ⟨v1, v0, vd⟩ := hmk.lt128 hTv
     refine l_val (r_extract (v := .bool _) rfl rfl rfl) rfl rfl ?_
     refine l_end (n_then (c_seq ?_))
     refine c_true rfl ?_
     refine c_skip (n_then (c_block (c_seq (c_reg ?_))))
     refine l_entryN hen rfl rfl rfl rfl ?_
     refine l_val (r_extract (v := .int _ _) rfl rfl rfl) rfl rfl ?_
     refine bI ?_
     refine l_end (n_then (c_seq (c_seq (c_reg ?_))))
     refine l_val (r_fieldAddr 0 Tryz.underlying106 rfl tyC5.size rfl rfl rfl) rfl rfl ?_
     refine dC hW 1 tyC5 ?_
     refine l_val (r_eql rfl rfl rfl rfl) rfl rfl ?_
     refine l_split ?_ ?_
     ·intro hc5
      replace hc5 := of_decide_eq_true hc5
      have hk : s.k = 1 := hc5
      refine l_end (n_then ?_)
      refine c_true rfl ?_
      refine c_seq (c_seq (c_reg ?_))
      refine aI ?_
      refine l_val (r_gtrN (n := 1) rfl rfl rfl rfl) rfl rfl ?_
      refine l_split ?_ ?_
      ·intro hc6
       replace hc6 := of_decide_eq_true hc6
       have hsb := (sib_all v1).2.1
       refine aB ?_
       refine l_valG (r_move (v := .map _) rfl rfl) (by kernel_rfl) rfl ?_
       refine gI ?_
       refine l_callG hW (g_psibling _ (by omega)) en55 (by kernel_rfl) rfl rfl rfl ?_
       intro W hW
       refine l_lookupN hW hR1.map Tryz.underlying111 Tryz.underlying4 Tryz.underlying110 tyZ4 (by kernel_rfl) rfl rfl rfl rfl (WalkArith.wf_i64 (by omega)) ?_
       refine l_split ?_ ?_
       ·intro hc7
        refine l_valG (r_not rfl rfl) (by kernel_rfl) rfl ?_
        refine kB ?_
        refine l_end (n_then ?_)
        refine c_false rfl ?_
        refine c_skip (n_then (c_exit (x_then ?_)))
        refine x_hit ?_
        refine n_then ?_
        exact loop_nextM ((fun y => z.1 y && !decide (y = (v : Int))), cn1, z.2.2.1, z.2.2.2.1, z.2.2.2.2.1, z.2.2.2.2.2) (by kernel_rfl) ⟨hR1, hO, (List.append_nil z.2.2.1 ▸ hE.step hTv (m := []) (em_1n hk (fun h => by rw [show stT s.d.toNat l (sib v) = true from hc7] at h; exact absurd h.2 (by decide)))), by show z.2.2.1.length + 2 * cn1 ≤ 1400; omega⟩ hW hcn1
       ·intro hc7
        refine l_valG (r_not rfl rfl) (by kernel_rfl) rfl ?_
        refine kB ?_
        refine l_end (n_then ?_)
        refine c_true rfl ?_
        refine c_reg ?_
        refine l_val (r_move (v := .func _ _ _) rfl rfl) rfl rfl ?_
        refine aI ?_
        refine l_call hW (g_psibling _ (by omega)) en55 rfl rfl rfl rfl ?_
        intro W hW
        refine l_callVS (args := [.int .i64 (((sib v : Nat) : Int)), .int .i64 ((0 : Int))]) (cap := [.pointer (some ⟨g3, 0, none⟩)]) (g_emit g3 z.2.2.2.1 z.2.2.2.2.1 z.2.2.1 z.2.2.2.2.2 hO (((sib v : Nat) : Int)) ((0 : Int)) (by omega)) ((show Cl _ (([_] ++ [_, _]) ++ z.2.2.2.2.2) _ from hW).perm perm_es) en54 trivial rfl rfl rfl rfl rfl ?_
        rintro _ _ W ⟨a2, c2, BL2, rfl, hO2⟩ hW
        replace hW := (show Cl _ (([_] ++ BL2) ++ [_, _]) _ from hW).perm perm_es
        refine l_end (n_then (c_exit (x_then ?_)))
        refine x_hit ?_
        refine n_then ?_
        exact loop_nextM ((fun y => z.1 y && !decide (y = (v : Int))), cn1, (z.2.2.1 ++ [(((sib v : Nat) : Int), (0 : Int))]), a2, c2, BL2) (by kernel_rfl) ⟨hR1, hO2, hE.step hTv (em_1 hk (by omega) hc7), by show (z.2.2.1 ++ [(((sib v : Nat) : Int), (0 : Int))]).length + 2 * cn1 ≤ 1400; rw [len1]; omega⟩ hW hcn1
      ·intro hc6
       replace hc6 := of_decide_eq_false hc6
       refine aB ?_
       refine lN ?_
       refine lN ?_
       refine lN ?_
       refine lN ?_
       refine lN ?_
       refine kB ?_
       refine l_end (n_then ?_)
       refine c_false rfl ?_
       refine c_skip (n_then (c_exit (x_then ?_)))
       refine x_hit ?_
       refine n_then ?_
       exact loop_nextM ((fun y => z.1 y && !decide (y = (v : Int))), cn1, z.2.2.1, z.2.2.2.1, z.2.2.2.2.1, z.2.2.2.2.2) (by kernel_rfl) ⟨hR1, hO, (List.append_nil z.2.2.1 ▸ hE.step hTv (m := []) (em_1n hk (fun h => by omega))), by show z.2.2.1.length + 2 * cn1 ≤ 1400; omega⟩ hW hcn1
     ·intro hc5
      replace hc5 := of_decide_eq_false hc5
      have hk : ¬ s.k = 1 := hc5
      refine l_end (n_then ?_)
      refine c_false rfl ?_
      refine c_skip (n_then (c_seq (c_seq (c_reg ?_))))
      refine aI ?_
      refine l_val (r_gtrN (n := 1) rfl rfl rfl rfl) rfl rfl ?_
      refine l_split ?_ ?_
      ·intro hc8
       replace hc8 := of_decide_eq_true hc8
       have hsb := (sib_all v1).2.1
       refine aB ?_
       refine l_valG (r_move (v := .map _) rfl rfl) (by kernel_rfl) rfl ?_
       refine gI ?_
       refine l_callG hW (g_psibling _ (by omega)) en55 (by kernel_rfl) rfl rfl rfl ?_
       intro W hW
       refine l_lookupN hW hR1.map Tryz.underlying111 Tryz.underlying4 Tryz.underlying110 tyZ4 (by kernel_rfl) rfl rfl rfl rfl (WalkArith.wf_i64 (by omega)) ?_
       refine l_split ?_ ?_
       ·intro hc9
        have htop : ¬ (1 < v ∧ stT s.d.toNat l (sib v) = false) := fun h => by rw [show stT s.d.toNat l (sib v) = true from hc9] at h; exact absurd h.2 (by decide)
        refine l_valG (r_not rfl rfl) (by kernel_rfl) rfl ?_
        refine kB ?_
        refine l_end (n_then ?_)
        refine c_false rfl ?_
        refine c_skip (n_then (c_seq (c_reg ?_)))
        refine aI ?_
        refine bI ?_
        refine l_end (n_then (c_seq (c_block ?_)))
        refine c_loop (fun (y : Nat × Nat) (j : Nat → Value) => [.agg [.int .u8 s.k, .int .i64 s.d, .int .i64 s.g, .int .u64 s.p, .int .u64 s.q, .int .u64 s.r].toArray, .slice aa an ac, .pointer (some ⟨g1, 0, none⟩), j 3, j 4, .int .i64 0, .pointer (some ⟨g2, 0, none⟩), .int .i64 0, .map (some mb), j 9, j 10, j 11, .pointer (some ⟨g3, 0, none⟩), .func (.func 54) #[] #[.pointer (some ⟨g3, 0, none⟩)], .int .i64 (v : Int), .int .i64 ((y.2 : Nat) : Int), j 16, .tuple #[.agg [.int .u8 s.k, .int .i64 s.d, .int .i64 (strideN s.d : Int)].toArray, .int .i64 0], .agg ([.int .u8 s.k, .int .i64 s.d, .int .i64 s.g, .int .u64 s.p, .int .u64 s.q, .int .u64 s.r]).toArray, .tuple #[.agg [.int .u8 s.k, .int .i64 s.d, .int .i64 (strideN s.d : Int)].toArray, .int .i64 0], .agg [.int .u8 s.k, .int .i64 s.d, .int .i64 (strideN s.d : Int)].toArray, .int .i64 0, .int .i64 0, .bool false, j 24, .agg ([.int .u8 s.k, .int .i64 s.d, .int .i64 (strideN s.d : Int)]).toArray, .slice aa an ac, .bool true, .bool false, .slice aa an ac, j 30, .bool false, j 32, j 33, .map (some mb), .slice aa an ac, .int .i64 (an : Int), j 37, .bool false, j 39, j 40, j 41, j 42, j 43, j 44, j 45, j 46, j 47, j 48, j 49, j 50, j 51, .map (some mb), .pointer (some ⟨it, 0, none⟩), .tuple #[.bool true, .int .i64 (v : Int), .bool true], .bool true, .tuple #[.int .i64 (v : Int), .bool true], .int .i64 (v : Int), .pointer (some ⟨g2, 0, none⟩), .int .u8 s.k, .bool false, j 61, j 62, j 63, j 64, j 65, j 66, j 67, j 68, j 69, j 70, j 71, j 72, j 73, .int .i64 (v : Int), .bool true, .bool true, .map (some mb), .int .i64 (v : Int), .int .i64 ((sib (v) : Nat) : Int), .bool true, .bool false, .bool false, .int .i64 (v : Int), j 84, j 85, j 86, j 87, j 88, j 89, j 90, j 91, j 92, j 93, j 94, j 95, j 96, j 97, j 98, j 99, j 100, j 101, j 102, j 103, j 104, j 105, j 106, j 107, j 108, j 109, j 110, j 111, j 112, j 113, j 114, j 115, j 116, j 117, j 118, j 119, j 120, j 121, j 122, j 123, j 124, j 125, j 126, j 127, j 128, j 129, j 130, j 131, j 132, j 133]) (fun (y : Nat × Nat) => [⟨g3, [.slice z.2.2.2.1 z.2.2.1.length z.2.2.2.2.1], 33⟩, ⟨g2, [.int .u8 s.k, .int .i64 s.d, .int .i64 (strideN s.d : Int)], 106⟩, ⟨g1, [.int .u8 s.k, .int .i64 s.d, .int .i64 s.g, .int .u64 s.p, .int .u64 s.q, .int .u64 s.r], 26⟩] ++ z.2.2.2.2.2) (fun (y : Nat × Nat) => stT s.d.toNat l y.2 = true ∧ downN (stT s.d.toNat l) 7 v = downN (stT s.d.toNat l) y.1 y.2 ∧ lev y.2 + y.1 = lev v + 7 ∧ 0 < y.2 ∧ y.2 < 128 ∧ belowN y.2 v = true) (fun (y : Nat × Nat) => y.1) (7, v) (by kernel_rfl) hW ⟨hTv, rfl, rfl, v0, v1, below_refl v⟩ ?_
        intro y j W hx hW
        obtain ⟨y1, y2, y3, y4, y5, y6⟩ := hx
        refine c_seq (c_seq (c_reg ?_))
        refine l_val (r_move (v := .map _) rfl rfl) rfl rfl ?_
        refine aI ?_
        refine l_val (r_mulN (m := 2) rfl rfl rfl (by omega)) rfl rfl ?_
        refine l_lookupN hW hR1.map Tryz.underlying111 Tryz.underlying4 Tryz.underlying110 tyZ4 (by kernel_rfl) rfl rfl rfl rfl (WalkArith.wf_i64 (by omega)) ?_
        refine l_split ?_ ?_
        ·intro hc10
         have hT1 : stT s.d.toNat l (2 * y.2) = true := hc10
         refine l_val (r_move (v := .map _) rfl rfl) rfl rfl ?_
         refine aI ?_
         refine l_val (r_mulN (m := 2) rfl rfl rfl (by omega)) rfl rfl ?_
         refine l_val (r_addN (n := 1) rfl rfl rfl (by omega)) rfl rfl ?_
         refine l_lookupN hW hR1.map Tryz.underlying111 Tryz.underlying4 Tryz.underlying110 tyZ4 (by kernel_rfl) rfl rfl rfl rfl (WalkArith.wf_i64 (by omega)) ?_
         refine l_split ?_ ?_
         ·intro hc11
          have hT2 : stT s.d.toNat l (2 * y.2 + 1) = true := hc11
          have hdn : downN (stT s.d.toNat l) 7 v = y.2 := y2.trans (down_end (by rw [hT1, hT2]) _)
          refine l_val (r_neqB Tryz.underlying4 rfl rfl rfl) rfl rfl ?_
          refine l_end (n_then ?_)
          refine c_false rfl ?_
          refine c_exit (x_then (x_then ?_))
          refine x_hit ?_
          refine n_then (c_seq (c_seq (c_reg ?_)))
          refine aI ?_
          refine aI ?_
          refine l_val (r_eqlN rfl rfl rfl rfl) rfl rfl ?_
          refine l_split ?_ ?_
          ·intro hc12
           replace hc12 := of_decide_eq_true hc12
           refine l_end (n_then ?_)
           refine c_true rfl ?_
           refine c_exit (x_then ?_)
           refine x_hit ?_
           refine n_then ?_
           exact loop_nextM ((fun y => z.1 y && !decide (y = (v : Int))), cn1, z.2.2.1, z.2.2.2.1, z.2.2.2.2.1, z.2.2.2.2.2) (by kernel_rfl) ⟨hR1, hO, (List.append_nil z.2.2.1 ▸ hE.step hTv (m := []) (em_no hk htop hdn (by omega))), by show z.2.2.1.length + 2 * cn1 ≤ 1400; omega⟩ hW hcn1
          ·intro hc12
           replace hc12 := of_decide_eq_false hc12
           have hyv : ¬ y.2 = v := by omega
           obtain ⟨hvl, hll⟩ := below_lt y6 hyv
           refine l_end (n_then ?_)
           refine c_false rfl ?_
           refine c_skip (n_then (c_seq (c_seq (c_reg ?_))))
           refine dA hW 1 tyA106 ?_
           refine aI ?_
           refine aI ?_
           refine l_call hW (g_pcut s v y.2 (by omega) y5 y6 hll) en56 rfl rfl rfl rfl ?_
           intro W hW
           refine bI ?_
           refine l_end (n_then (c_seq (c_reg ?_)))
           refine aI ?_
           refine l_val (r_neqN (n := 0) rfl rfl rfl rfl) rfl rfl ?_
           refine l_split ?_ ?_
           ·intro hc13
            replace hc13 := of_decide_eq_true hc13
            refine aB ?_
            refine l_valG (r_fieldAddr 0 Tryz.underlying106 rfl tyC5.size rfl rfl rfl) (by kernel_rfl) rfl ?_
            refine dG hW 1 tyC5 ?_
            refine l_valG (r_eql rfl rfl rfl rfl) (by kernel_rfl) rfl ?_
            refine l_split ?_ ?_
            ·intro hc14
             replace hc14 := of_decide_eq_true hc14
             refine kB ?_
             refine aB ?_
             refine l_loadAG hW 1 tyA106 (by kernel_rfl) rfl rfl rfl rfl (by first | rfl | exact kc_len _ | exact kcf_len _ | exact boC_len _ _ | (simp; done)) ?_
             refine gI ?_
             refine l_callG hW (g_pspecial s v (by omega) (by omega)) en57 (by kernel_rfl) rfl rfl rfl ?_
             intro W hW
             refine l_split ?_ ?_
             ·intro hc15
              refine l_valG (r_not rfl rfl) (by kernel_rfl) rfl ?_
              refine kB ?_
              refine l_end (n_then ?_)
              refine c_false rfl ?_
              refine c_skip (n_then (c_reg ?_))
              refine l_val (r_move (v := .func _ _ _) rfl rfl) rfl rfl ?_
              refine aI ?_
              refine aI ?_
              refine l_callVS (args := [.int .i64 ((v : Int)), .int .i64 ((y.2 : Int))]) (cap := [.pointer (some ⟨g3, 0, none⟩)]) (g_emit g3 z.2.2.2.1 z.2.2.2.2.1 z.2.2.1 z.2.2.2.2.2 hO ((v : Int)) ((y.2 : Int)) (by omega)) ((show Cl _ (([_] ++ [_, _]) ++ z.2.2.2.2.2) _ from hW).perm perm_es) en54 trivial rfl rfl rfl rfl rfl ?_
              rintro _ _ W ⟨a2, c2, BL2, rfl, hO2⟩ hW
              replace hW := (show Cl _ (([_] ++ BL2) ++ [_, _]) _ from hW).perm perm_es
              refine l_end (n_block (n_then ?_))
              exact loop_nextM ((fun y => z.1 y && !decide (y = (v : Int))), cn1, (z.2.2.1 ++ [((v : Int), (y.2 : Int))]), a2, c2, BL2) (by kernel_rfl) ⟨hR1, hO2, hE.step hTv (em_one hk htop hdn hyv (fun h => by rw [hc15] at h; exact absurd h.2.2 (by decide))), by show (z.2.2.1 ++ [((v : Int), (y.2 : Int))]).length + 2 * cn1 ≤ 1400; rw [len1]; omega⟩ hW hcn1
             ·intro hc15
              refine l_valG (r_not rfl rfl) (by kernel_rfl) rfl ?_
              refine kB ?_
              refine l_end (n_then ?_)
              refine c_true rfl ?_
              refine c_seq (c_reg ?_)
              refine l_val (r_move (v := .func _ _ _) rfl rfl) rfl rfl ?_
              refine aI ?_
              refine aI ?_
              refine l_callVS (args := [.int .i64 ((v : Int)), .int .i64 (((bet s.d y.2 (lev y.2 - lev v - 1) : Nat) : Int))]) (cap := [.pointer (some ⟨g3, 0, none⟩)]) (g_emit g3 z.2.2.2.1 z.2.2.2.2.1 z.2.2.1 z.2.2.2.2.2 hO ((v : Int)) (((bet s.d y.2 (lev y.2 - lev v - 1) : Nat) : Int)) (by omega)) ((show Cl _ (([_] ++ [_, _]) ++ z.2.2.2.2.2) _ from hW).perm perm_es) en54 trivial rfl rfl rfl rfl rfl ?_
              rintro _ _ W ⟨a2, c2, BL2, rfl, hO2⟩ hW
              replace hW := (show Cl _ (([_] ++ BL2) ++ [_, _]) _ from hW).perm perm_es
              refine l_end (n_then (c_reg ?_))
              refine aI ?_
              refine bI ?_
              refine l_end (n_then (c_reg ?_))
              refine l_val (r_move (v := .func _ _ _) rfl rfl) rfl rfl ?_
              refine aI ?_
              refine aI ?_
              refine l_callVS (args := [.int .i64 (((bet s.d y.2 (lev y.2 - lev v - 1) : Nat) : Int)), .int .i64 ((y.2 : Int))]) (cap := [.pointer (some ⟨g3, 0, none⟩)]) (g_emit g3 a2 c2 (z.2.2.1 ++ [((v : Int), ((bet s.d y.2 (lev y.2 - lev v - 1) : Nat) : Int))]) BL2 hO2 (((bet s.d y.2 (lev y.2 - lev v - 1) : Nat) : Int)) ((y.2 : Int)) (by rw [len1]; omega)) ((show Cl _ (([_] ++ [_, _]) ++ BL2) _ from hW).perm perm_es) en54 trivial rfl rfl rfl rfl rfl ?_
              rintro _ _ W ⟨a3, c3, BL3, rfl, hO3⟩ hW
              replace hW := (show Cl _ (([_] ++ BL3) ++ [_, _]) _ from hW).perm perm_es
              refine l_end (n_block (n_then ?_))
              exact loop_nextM ((fun y => z.1 y && !decide (y = (v : Int))), cn1, (z.2.2.1 ++ [((v : Int), ((bet s.d y.2 (lev y.2 - lev v - 1) : Nat) : Int))] ++ [(((bet s.d y.2 (lev y.2 - lev v - 1) : Nat) : Int), (y.2 : Int))]), a3, c3, BL3) (by kernel_rfl) ⟨hR1, hO3, (List.append_assoc _ _ _ ▸ hE.step hTv (em_2 hk htop hdn hyv ⟨by omega, by omega, hc15⟩)), by show (z.2.2.1 ++ [((v : Int), ((bet s.d y.2 (lev y.2 - lev v - 1) : Nat) : Int))] ++ [(((bet s.d y.2 (lev y.2 - lev v - 1) : Nat) : Int), (y.2 : Int))]).length + 2 * cn1 ≤ 1400; rw [len1]; rw [len1]; omega⟩ hW hcn1
            ·intro hc14
             replace hc14 := of_decide_eq_false hc14
             refine kB ?_
             refine aB ?_
             refine lN ?_
             refine lN ?_
             refine lN ?_
             refine lN ?_
             refine kB ?_
             refine l_end (n_then ?_)
             refine c_false rfl ?_
             refine c_skip (n_then (c_reg ?_))
             refine l_val (r_move (v := .func _ _ _) rfl rfl) rfl rfl ?_
             refine aI ?_
             refine aI ?_
             refine l_callVS (args := [.int .i64 ((v : Int)), .int .i64 ((y.2 : Int))]) (cap := [.pointer (some ⟨g3, 0, none⟩)]) (g_emit g3 z.2.2.2.1 z.2.2.2.2.1 z.2.2.1 z.2.2.2.2.2 hO ((v : Int)) ((y.2 : Int)) (by omega)) ((show Cl _ (([_] ++ [_, _]) ++ z.2.2.2.2.2) _ from hW).perm perm_es) en54 trivial rfl rfl rfl rfl rfl ?_
             rintro _ _ W ⟨a2, c2, BL2, rfl, hO2⟩ hW
             replace hW := (show Cl _ (([_] ++ BL2) ++ [_, _]) _ from hW).perm perm_es
             refine l_end (n_block (n_then ?_))
             exact loop_nextM ((fun y => z.1 y && !decide (y = (v : Int))), cn1, (z.2.2.1 ++ [((v : Int), (y.2 : Int))]), a2, c2, BL2) (by kernel_rfl) ⟨hR1, hO2, hE.step hTv (em_one hk htop hdn hyv (fun h => by omega)), by show (z.2.2.1 ++ [((v : Int), (y.2 : Int))]).length + 2 * cn1 ≤ 1400; rw [len1]; omega⟩ hW hcn1
           ·intro hc13
            replace hc13 := of_decide_eq_false hc13
            refine aB ?_
            refine lN ?_
            refine lN ?_
            refine lN ?_
            refine kB ?_
            refine aB ?_
            refine lN ?_
            refine lN ?_
            refine lN ?_
            refine lN ?_
            refine kB ?_
            refine l_end (n_then ?_)
            refine c_false rfl ?_
            refine c_skip (n_then (c_reg ?_))
            refine l_val (r_move (v := .func _ _ _) rfl rfl) rfl rfl ?_
            refine aI ?_
            refine aI ?_
            refine l_callVS (args := [.int .i64 ((v : Int)), .int .i64 ((y.2 : Int))]) (cap := [.pointer (some ⟨g3, 0, none⟩)]) (g_emit g3 z.2.2.2.1 z.2.2.2.2.1 z.2.2.1 z.2.2.2.2.2 hO ((v : Int)) ((y.2 : Int)) (by omega)) ((show Cl _ (([_] ++ [_, _]) ++ z.2.2.2.2.2) _ from hW).perm perm_es) en54 trivial rfl rfl rfl rfl rfl ?_
            rintro _ _ W ⟨a2, c2, BL2, rfl, hO2⟩ hW
            replace hW := (show Cl _ (([_] ++ BL2) ++ [_, _]) _ from hW).perm perm_es
            refine l_end (n_block (n_then ?_))
            exact loop_nextM ((fun y => z.1 y && !decide (y = (v : Int))), cn1, (z.2.2.1 ++ [((v : Int), (y.2 : Int))]), a2, c2, BL2) (by kernel_rfl) ⟨hR1, hO2, hE.step hTv (em_one hk htop hdn hyv (fun h => by omega)), by show (z.2.2.1 ++ [((v : Int), (y.2 : Int))]).length + 2 * cn1 ≤ 1400; rw [len1]; omega⟩ hW hcn1
         ·intro hc11
          have hT2 : stT s.d.toNat l (2 * y.2 + 1) = false := hc11
          have hne : stT s.d.toNat l (2 * y.2) ≠ stT s.d.toNat l (2 * y.2 + 1) := by rw [hT1, hT2]; decide
          refine l_val (r_neqB Tryz.underlying4 rfl rfl rfl) rfl rfl ?_
          refine l_end (n_then ?_)
          refine c_true rfl ?_
          refine c_skip (n_then (c_block (c_seq (c_reg ?_))))
          refine aI ?_
          refine l_val (r_mulN (n := 2) rfl rfl rfl (by omega)) rfl rfl ?_
          refine bI ?_
          refine l_end (n_then (c_seq (c_reg ?_)))
          refine l_val (r_move (v := .map _) rfl rfl) rfl rfl ?_
          refine aI ?_
          refine l_lookupN hW hR1.map Tryz.underlying111 Tryz.underlying4 Tryz.underlying110 tyZ4 (by kernel_rfl) rfl rfl rfl rfl (WalkArith.wf_i64 (by omega)) ?_
          refine l_split ?_ ?_
          ·intro hc16
           
           refine l_val (r_not rfl rfl) rfl rfl ?_
           refine l_end (n_then ?_)
           refine c_false rfl ?_
           refine c_skip (n_block (n_then ?_))
           obtain ⟨n1, n2, n3, n4, n5⟩ := down_next hmk y1 y2 y3 y6 hne (c := y.2 * 2) (by rw [hT1, if_pos rfl]; omega)
           obtain ⟨n6, n7, -⟩ := hmk.lt128 n1
           exact loop_next (y.1 - 1, y.2 * 2) (by kernel_rfl) hW ⟨n1, n2, n3, n7, n6, n4⟩ (by simp only; omega)
          ·intro hc16
           exact absurd ((show stT s.d.toNat l (2 * y.2) = false by rw [Nat.mul_comm]; exact hc16).symm.trans hT1) (by decide)
        ·intro hc10
         have hT1 : stT s.d.toNat l (2 * y.2) = false := hc10
         refine l_val (r_move (v := .map _) rfl rfl) rfl rfl ?_
         refine aI ?_
         refine l_val (r_mulN (m := 2) rfl rfl rfl (by omega)) rfl rfl ?_
         refine l_val (r_addN (n := 1) rfl rfl rfl (by omega)) rfl rfl ?_
         refine l_lookupN hW hR1.map Tryz.underlying111 Tryz.underlying4 Tryz.underlying110 tyZ4 (by kernel_rfl) rfl rfl rfl rfl (WalkArith.wf_i64 (by omega)) ?_
         refine l_split ?_ ?_
         ·intro hc17
          have hT2 : stT s.d.toNat l (2 * y.2 + 1) = true := hc17
          have hne : stT s.d.toNat l (2 * y.2) ≠ stT s.d.toNat l (2 * y.2 + 1) := by rw [hT1, hT2]; decide
          refine l_val (r_neqB Tryz.underlying4 rfl rfl rfl) rfl rfl ?_
          refine l_end (n_then ?_)
          refine c_true rfl ?_
          refine c_skip (n_then (c_block (c_seq (c_reg ?_))))
          refine aI ?_
          refine l_val (r_mulN (n := 2) rfl rfl rfl (by omega)) rfl rfl ?_
          refine bI ?_
          refine l_end (n_then (c_seq (c_reg ?_)))
          refine l_val (r_move (v := .map _) rfl rfl) rfl rfl ?_
          refine aI ?_
          refine l_lookupN hW hR1.map Tryz.underlying111 Tryz.underlying4 Tryz.underlying110 tyZ4 (by kernel_rfl) rfl rfl rfl rfl (WalkArith.wf_i64 (by omega)) ?_
          refine l_split ?_ ?_
          ·intro hc18
           exact absurd ((show stT s.d.toNat l (2 * y.2) = true by rw [Nat.mul_comm]; exact hc18).symm.trans hT1) (by decide)
          ·intro hc18
           
           refine l_val (r_not rfl rfl) rfl rfl ?_
           refine l_end (n_then ?_)
           refine c_true rfl ?_
           refine c_reg ?_
           refine aI ?_
           refine l_val (r_addN (n := 1) rfl rfl rfl (by omega)) rfl rfl ?_
           refine bI ?_
           refine l_end (n_block (n_then ?_))
           obtain ⟨n1, n2, n3, n4, n5⟩ := down_next hmk y1 y2 y3 y6 hne (c := y.2 * 2 + 1) (by rw [hT1, if_neg (by decide)]; omega)
           obtain ⟨n6, n7, -⟩ := hmk.lt128 n1
           exact loop_next (y.1 - 1, y.2 * 2 + 1) (by kernel_rfl) hW ⟨n1, n2, n3, n7, n6, n4⟩ (by simp only; omega)
         ·intro hc17
          have hT2 : stT s.d.toNat l (2 * y.2 + 1) = false := hc17
          have hdn : downN (stT s.d.toNat l) 7 v = y.2 := y2.trans (down_end (by rw [hT1, hT2]) _)
          refine l_val (r_neqB Tryz.underlying4 rfl rfl rfl) rfl rfl ?_
          refine l_end (n_then ?_)
          refine c_false rfl ?_
          refine c_exit (x_then (x_then ?_))
          refine x_hit ?_
          refine n_then (c_seq (c_seq (c_reg ?_)))
          refine aI ?_
          refine aI ?_
          refine l_val (r_eqlN rfl rfl rfl rfl) rfl rfl ?_
          refine l_split ?_ ?_
          ·intro hc19
           replace hc19 := of_decide_eq_true hc19
           refine l_end (n_then ?_)
           refine c_true rfl ?_
           refine c_exit (x_then ?_)
           refine x_hit ?_
           refine n_then ?_
           exact loop_nextM ((fun y => z.1 y && !decide (y = (v : Int))), cn1, z.2.2.1, z.2.2.2.1, z.2.2.2.2.1, z.2.2.2.2.2) (by kernel_rfl) ⟨hR1, hO, (List.append_nil z.2.2.1 ▸ hE.step hTv (m := []) (em_no hk htop hdn (by omega))), by show z.2.2.1.length + 2 * cn1 ≤ 1400; omega⟩ hW hcn1
          ·intro hc19
           replace hc19 := of_decide_eq_false hc19
           have hyv : ¬ y.2 = v := by omega
           obtain ⟨hvl, hll⟩ := below_lt y6 hyv
           refine l_end (n_then ?_)
           refine c_false rfl ?_
           refine c_skip (n_then (c_seq (c_seq (c_reg ?_))))
           refine dA hW 1 tyA106 ?_
           refine aI ?_
           refine aI ?_
           refine l_call hW (g_pcut s v y.2 (by omega) y5 y6 hll) en56 rfl rfl rfl rfl ?_
           intro W hW
           refine bI ?_
           refine l_end (n_then (c_seq (c_reg ?_)))
           refine aI ?_
           refine l_val (r_neqN (n := 0) rfl rfl rfl rfl) rfl rfl ?_
           refine l_split ?_ ?_
           ·intro hc20
            replace hc20 := of_decide_eq_true hc20
            refine aB ?_
            refine l_valG (r_fieldAddr 0 Tryz.underlying106 rfl tyC5.size rfl rfl rfl) (by kernel_rfl) rfl ?_
            refine dG hW 1 tyC5 ?_
            refine l_valG (r_eql rfl rfl rfl rfl) (by kernel_rfl) rfl ?_
            refine l_split ?_ ?_
            ·intro hc21
             replace hc21 := of_decide_eq_true hc21
             refine kB ?_
             refine aB ?_
             refine l_loadAG hW 1 tyA106 (by kernel_rfl) rfl rfl rfl rfl (by first | rfl | exact kc_len _ | exact kcf_len _ | exact boC_len _ _ | (simp; done)) ?_
             refine gI ?_
             refine l_callG hW (g_pspecial s v (by omega) (by omega)) en57 (by kernel_rfl) rfl rfl rfl ?_
             intro W hW
             refine l_split ?_ ?_
             ·intro hc22
              refine l_valG (r_not rfl rfl) (by kernel_rfl) rfl ?_
              refine kB ?_
              refine l_end (n_then ?_)
              refine c_false rfl ?_
              refine c_skip (n_then (c_reg ?_))
              refine l_val (r_move (v := .func _ _ _) rfl rfl) rfl rfl ?_
              refine aI ?_
              refine aI ?_
              refine l_callVS (args := [.int .i64 ((v : Int)), .int .i64 ((y.2 : Int))]) (cap := [.pointer (some ⟨g3, 0, none⟩)]) (g_emit g3 z.2.2.2.1 z.2.2.2.2.1 z.2.2.1 z.2.2.2.2.2 hO ((v : Int)) ((y.2 : Int)) (by omega)) ((show Cl _ (([_] ++ [_, _]) ++ z.2.2.2.2.2) _ from hW).perm perm_es) en54 trivial rfl rfl rfl rfl rfl ?_
              rintro _ _ W ⟨a2, c2, BL2, rfl, hO2⟩ hW
              replace hW := (show Cl _ (([_] ++ BL2) ++ [_, _]) _ from hW).perm perm_es
              refine l_end (n_block (n_then ?_))
              exact loop_nextM ((fun y => z.1 y && !decide (y = (v : Int))), cn1, (z.2.2.1 ++ [((v : Int), (y.2 : Int))]), a2, c2, BL2) (by kernel_rfl) ⟨hR1, hO2, hE.step hTv (em_one hk htop hdn hyv (fun h => by rw [hc22] at h; exact absurd h.2.2 (by decide))), by show (z.2.2.1 ++ [((v : Int), (y.2 : Int))]).length + 2 * cn1 ≤ 1400; rw [len1]; omega⟩ hW hcn1
             ·intro hc22
              refine l_valG (r_not rfl rfl) (by kernel_rfl) rfl ?_
              refine kB ?_
              refine l_end (n_then ?_)
              refine c_true rfl ?_
              refine c_seq (c_reg ?_)
              refine l_val (r_move (v := .func _ _ _) rfl rfl) rfl rfl ?_
              refine aI ?_
              refine aI ?_
              refine l_callVS (args := [.int .i64 ((v : Int)), .int .i64 (((bet s.d y.2 (lev y.2 - lev v - 1) : Nat) : Int))]) (cap := [.pointer (some ⟨g3, 0, none⟩)]) (g_emit g3 z.2.2.2.1 z.2.2.2.2.1 z.2.2.1 z.2.2.2.2.2 hO ((v : Int)) (((bet s.d y.2 (lev y.2 - lev v - 1) : Nat) : Int)) (by omega)) ((show Cl _ (([_] ++ [_, _]) ++ z.2.2.2.2.2) _ from hW).perm perm_es) en54 trivial rfl rfl rfl rfl rfl ?_
              rintro _ _ W ⟨a2, c2, BL2, rfl, hO2⟩ hW
              replace hW := (show Cl _ (([_] ++ BL2) ++ [_, _]) _ from hW).perm perm_es
              refine l_end (n_then (c_reg ?_))
              refine aI ?_
              refine bI ?_
              refine l_end (n_then (c_reg ?_))
              refine l_val (r_move (v := .func _ _ _) rfl rfl) rfl rfl ?_
              refine aI ?_
              refine aI ?_
              refine l_callVS (args := [.int .i64 (((bet s.d y.2 (lev y.2 - lev v - 1) : Nat) : Int)), .int .i64 ((y.2 : Int))]) (cap := [.pointer (some ⟨g3, 0, none⟩)]) (g_emit g3 a2 c2 (z.2.2.1 ++ [((v : Int), ((bet s.d y.2 (lev y.2 - lev v - 1) : Nat) : Int))]) BL2 hO2 (((bet s.d y.2 (lev y.2 - lev v - 1) : Nat) : Int)) ((y.2 : Int)) (by rw [len1]; omega)) ((show Cl _ (([_] ++ [_, _]) ++ BL2) _ from hW).perm perm_es) en54 trivial rfl rfl rfl rfl rfl ?_
              rintro _ _ W ⟨a3, c3, BL3, rfl, hO3⟩ hW
              replace hW := (show Cl _ (([_] ++ BL3) ++ [_, _]) _ from hW).perm perm_es
              refine l_end (n_block (n_then ?_))
              exact loop_nextM ((fun y => z.1 y && !decide (y = (v : Int))), cn1, (z.2.2.1 ++ [((v : Int), ((bet s.d y.2 (lev y.2 - lev v - 1) : Nat) : Int))] ++ [(((bet s.d y.2 (lev y.2 - lev v - 1) : Nat) : Int), (y.2 : Int))]), a3, c3, BL3) (by kernel_rfl) ⟨hR1, hO3, (List.append_assoc _ _ _ ▸ hE.step hTv (em_2 hk htop hdn hyv ⟨by omega, by omega, hc22⟩)), by show (z.2.2.1 ++ [((v : Int), ((bet s.d y.2 (lev y.2 - lev v - 1) : Nat) : Int))] ++ [(((bet s.d y.2 (lev y.2 - lev v - 1) : Nat) : Int), (y.2 : Int))]).length + 2 * cn1 ≤ 1400; rw [len1]; rw [len1]; omega⟩ hW hcn1
            ·intro hc21
             replace hc21 := of_decide_eq_false hc21
             refine kB ?_
             refine aB ?_
             refine lN ?_
             refine lN ?_
             refine lN ?_
             refine lN ?_
             refine kB ?_
             refine l_end (n_then ?_)
             refine c_false rfl ?_
             refine c_skip (n_then (c_reg ?_))
             refine l_val (r_move (v := .func _ _ _) rfl rfl) rfl rfl ?_
             refine aI ?_
             refine aI ?_
             refine l_callVS (args := [.int .i64 ((v : Int)), .int .i64 ((y.2 : Int))]) (cap := [.pointer (some ⟨g3, 0, none⟩)]) (g_emit g3 z.2.2.2.1 z.2.2.2.2.1 z.2.2.1 z.2.2.2.2.2 hO ((v : Int)) ((y.2 : Int)) (by omega)) ((show Cl _ (([_] ++ [_, _]) ++ z.2.2.2.2.2) _ from hW).perm perm_es) en54 trivial rfl rfl rfl rfl rfl ?_
             rintro _ _ W ⟨a2, c2, BL2, rfl, hO2⟩ hW
             replace hW := (show Cl _ (([_] ++ BL2) ++ [_, _]) _ from hW).perm perm_es
             refine l_end (n_block (n_then ?_))
             exact loop_nextM ((fun y => z.1 y && !decide (y = (v : Int))), cn1, (z.2.2.1 ++ [((v : Int), (y.2 : Int))]), a2, c2, BL2) (by kernel_rfl) ⟨hR1, hO2, hE.step hTv (em_one hk htop hdn hyv (fun h => by omega)), by show (z.2.2.1 ++ [((v : Int), (y.2 : Int))]).length + 2 * cn1 ≤ 1400; rw [len1]; omega⟩ hW hcn1
           ·intro hc20
            replace hc20 := of_decide_eq_false hc20
            refine aB ?_
            refine lN ?_
            refine lN ?_
            refine lN ?_
            refine kB ?_
            refine aB ?_
            refine lN ?_
            refine lN ?_
            refine lN ?_
            refine lN ?_
            refine kB ?_
            refine l_end (n_then ?_)
            refine c_false rfl ?_
            refine c_skip (n_then (c_reg ?_))
            refine l_val (r_move (v := .func _ _ _) rfl rfl) rfl rfl ?_
            refine aI ?_
            refine aI ?_
            refine l_callVS (args := [.int .i64 ((v : Int)), .int .i64 ((y.2 : Int))]) (cap := [.pointer (some ⟨g3, 0, none⟩)]) (g_emit g3 z.2.2.2.1 z.2.2.2.2.1 z.2.2.1 z.2.2.2.2.2 hO ((v : Int)) ((y.2 : Int)) (by omega)) ((show Cl _ (([_] ++ [_, _]) ++ z.2.2.2.2.2) _ from hW).perm perm_es) en54 trivial rfl rfl rfl rfl rfl ?_
            rintro _ _ W ⟨a2, c2, BL2, rfl, hO2⟩ hW
            replace hW := (show Cl _ (([_] ++ BL2) ++ [_, _]) _ from hW).perm perm_es
            refine l_end (n_block (n_then ?_))
            exact loop_nextM ((fun y => z.1 y && !decide (y = (v : Int))), cn1, (z.2.2.1 ++ [((v : Int), (y.2 : Int))]), a2, c2, BL2) (by kernel_rfl) ⟨hR1, hO2, hE.step hTv (em_one hk htop hdn hyv (fun h => by omega)), by show (z.2.2.1 ++ [((v : Int), (y.2 : Int))]).length + 2 * cn1 ≤ 1400; rw [len1]; omega⟩ hW hcn1
       ·intro hc9
        refine l_valG (r_not rfl rfl) (by kernel_rfl) rfl ?_
        refine kB ?_
        refine l_end (n_then ?_)
        refine c_true rfl ?_
        refine c_exit (x_then ?_)
        refine x_hit ?_
        refine n_then ?_
        exact loop_nextM ((fun y => z.1 y && !decide (y = (v : Int))), cn1, z.2.2.1, z.2.2.2.1, z.2.2.2.2.1, z.2.2.2.2.2) (by kernel_rfl) ⟨hR1, hO, (List.append_nil z.2.2.1 ▸ hE.step hTv (m := []) (em_top hk ⟨by omega, hc9⟩)), by show z.2.2.1.length + 2 * cn1 ≤ 1400; omega⟩ hW hcn1
      ·intro hc8
       replace hc8 := of_decide_eq_false hc8
       have htop : ¬ (1 < v ∧ stT s.d.toNat l (sib v) = false) := fun h => by omega
       refine aB ?_
       refine lN ?_
       refine lN ?_
       refine lN ?_
       refine lN ?_
       refine lN ?_
       refine kB ?_
       refine l_end (n_then ?_)
       refine c_false rfl ?_
       refine c_skip (n_then (c_seq (c_reg ?_)))
       refine aI ?_
       refine bI ?_
       refine l_end (n_then (c_seq (c_block ?_)))
       refine c_loop (fun (y : Nat × Nat) (j : Nat → Value) => [.agg [.int .u8 s.k, .int .i64 s.d, .int .i64 s.g, .int .u64 s.p, .int .u64 s.q, .int .u64 s.r].toArray, .slice aa an ac, .pointer (some ⟨g1, 0, none⟩), j 3, j 4, .int .i64 0, .pointer (some ⟨g2, 0, none⟩), .int .i64 0, .map (some mb), j 9, j 10, j 11, .pointer (some ⟨g3, 0, none⟩), .func (.func 54) #[] #[.pointer (some ⟨g3, 0, none⟩)], .int .i64 (v : Int), .int .i64 ((y.2 : Nat) : Int), j 16, .tuple #[.agg [.int .u8 s.k, .int .i64 s.d, .int .i64 (strideN s.d : Int)].toArray, .int .i64 0], .agg ([.int .u8 s.k, .int .i64 s.d, .int .i64 s.g, .int .u64 s.p, .int .u64 s.q, .int .u64 s.r]).toArray, .tuple #[.agg [.int .u8 s.k, .int .i64 s.d, .int .i64 (strideN s.d : Int)].toArray, .int .i64 0], .agg [.int .u8 s.k, .int .i64 s.d, .int .i64 (strideN s.d : Int)].toArray, .int .i64 0, .int .i64 0, .bool false, j 24, .agg ([.int .u8 s.k, .int .i64 s.d, .int .i64 (strideN s.d : Int)]).toArray, .slice aa an ac, .bool true, .bool false, .slice aa an ac, j 30, .bool false, j 32, j 33, .map (some mb), .slice aa an ac, .int .i64 (an : Int), j 37, .bool false, j 39, j 40, j 41, j 42, j 43, j 44, j 45, j 46, j 47, j 48, j 49, j 50, j 51, .map (some mb), .pointer (some ⟨it, 0, none⟩), .tuple #[.bool true, .int .i64 (v : Int), .bool true], .bool true, .tuple #[.int .i64 (v : Int), .bool true], .int .i64 (v : Int), .pointer (some ⟨g2, 0, none⟩), .int .u8 s.k, .bool false, j 61, j 62, j 63, j 64, j 65, j 66, j 67, j 68, j 69, j 70, j 71, j 72, j 73, .int .i64 (v : Int), .bool false, .bool false, undef, undef, undef, undef, undef, .bool false, .int .i64 (v : Int), j 84, j 85, j 86, j 87, j 88, j 89, j 90, j 91, j 92, j 93, j 94, j 95, j 96, j 97, j 98, j 99, j 100, j 101, j 102, j 103, j 104, j 105, j 106, j 107, j 108, j 109, j 110, j 111, j 112, j 113, j 114, j 115, j 116, j 117, j 118, j 119, j 120, j 121, j 122, j 123, j 124, j 125, j 126, j 127, j 128, j 129, j 130, j 131, j 132, j 133]) (fun (y : Nat × Nat) => [⟨g3, [.slice z.2.2.2.1 z.2.2.1.length z.2.2.2.2.1], 33⟩, ⟨g2, [.int .u8 s.k, .int .i64 s.d, .int .i64 (strideN s.d : Int)], 106⟩, ⟨g1, [.int .u8 s.k, .int .i64 s.d, .int .i64 s.g, .int .u64 s.p, .int .u64 s.q, .int .u64 s.r], 26⟩] ++ z.2.2.2.2.2) (fun (y : Nat × Nat) => stT s.d.toNat l y.2 = true ∧ downN (stT s.d.toNat l) 7 v = downN (stT s.d.toNat l) y.1 y.2 ∧ lev y.2 + y.1 = lev v + 7 ∧ 0 < y.2 ∧ y.2 < 128 ∧ belowN y.2 v = true) (fun (y : Nat × Nat) => y.1) (7, v) (by kernel_rfl) hW ⟨hTv, rfl, rfl, v0, v1, below_refl v⟩ ?_
       intro y j W hx hW
       obtain ⟨y1, y2, y3, y4, y5, y6⟩ := hx
       refine c_seq (c_seq (c_reg ?_))
       refine l_val (r_move (v := .map _) rfl rfl) rfl rfl ?_
       refine aI ?_
       refine l_val (r_mulN (m := 2) rfl rfl rfl (by omega)) rfl rfl ?_
       refine l_lookupN hW hR1.map Tryz.underlying111 Tryz.underlying4 Tryz.underlying110 tyZ4 (by kernel_rfl) rfl rfl rfl rfl (WalkArith.wf_i64 (by omega)) ?_
       refine l_split ?_ ?_
       ·intro hc23
        have hT1 : stT s.d.toNat l (2 * y.2) = true := hc23
        refine l_val (r_move (v := .map _) rfl rfl) rfl rfl ?_
        refine aI ?_
        refine l_val (r_mulN (m := 2) rfl rfl rfl (by omega)) rfl rfl ?_
        refine l_val (r_addN (n := 1) rfl rfl rfl (by omega)) rfl rfl ?_
        refine l_lookupN hW hR1.map Tryz.underlying111 Tryz.underlying4 Tryz.underlying110 tyZ4 (by kernel_rfl) rfl rfl rfl rfl (WalkArith.wf_i64 (by omega)) ?_
        refine l_split ?_ ?_
        ·intro hc24
         have hT2 : stT s.d.toNat l (2 * y.2 + 1) = true := hc24
         have hdn : downN (stT s.d.toNat l) 7 v = y.2 := y2.trans (down_end (by rw [hT1, hT2]) _)
         refine l_val (r_neqB Tryz.underlying4 rfl rfl rfl) rfl rfl ?_
         refine l_end (n_then ?_)
         refine c_false rfl ?_
         refine c_exit (x_then (x_then ?_))
         refine x_hit ?_
         refine n_then (c_seq (c_seq (c_reg ?_)))
         refine aI ?_
         refine aI ?_
         refine l_val (r_eqlN rfl rfl rfl rfl) rfl rfl ?_
         refine l_split ?_ ?_
         ·intro hc25
          replace hc25 := of_decide_eq_true hc25
          refine l_end (n_then ?_)
          refine c_true rfl ?_
          refine c_exit (x_then ?_)
          refine x_hit ?_
          refine n_then ?_
          exact loop_nextM ((fun y => z.1 y && !decide (y = (v : Int))), cn1, z.2.2.1, z.2.2.2.1, z.2.2.2.2.1, z.2.2.2.2.2) (by kernel_rfl) ⟨hR1, hO, (List.append_nil z.2.2.1 ▸ hE.step hTv (m := []) (em_no hk htop hdn (by omega))), by show z.2.2.1.length + 2 * cn1 ≤ 1400; omega⟩ hW hcn1
         ·intro hc25
          replace hc25 := of_decide_eq_false hc25
          have hyv : ¬ y.2 = v := by omega
          obtain ⟨hvl, hll⟩ := below_lt y6 hyv
          refine l_end (n_then ?_)
          refine c_false rfl ?_
          refine c_skip (n_then (c_seq (c_seq (c_reg ?_))))
          refine dA hW 1 tyA106 ?_
          refine aI ?_
          refine aI ?_
          refine l_call hW (g_pcut s v y.2 (by omega) y5 y6 hll) en56 rfl rfl rfl rfl ?_
          intro W hW
          refine bI ?_
          refine l_end (n_then (c_seq (c_reg ?_)))
          refine aI ?_
          refine l_val (r_neqN (n := 0) rfl rfl rfl rfl) rfl rfl ?_
          refine l_split ?_ ?_
          ·intro hc26
           replace hc26 := of_decide_eq_true hc26
           refine aB ?_
           refine l_valG (r_fieldAddr 0 Tryz.underlying106 rfl tyC5.size rfl rfl rfl) (by kernel_rfl) rfl ?_
           refine dG hW 1 tyC5 ?_
           refine l_valG (r_eql rfl rfl rfl rfl) (by kernel_rfl) rfl ?_
           refine l_split ?_ ?_
           ·intro hc27
            replace hc27 := of_decide_eq_true hc27
            refine kB ?_
            refine aB ?_
            refine l_loadAG hW 1 tyA106 (by kernel_rfl) rfl rfl rfl rfl (by first | rfl | exact kc_len _ | exact kcf_len _ | exact boC_len _ _ | (simp; done)) ?_
            refine gI ?_
            refine l_callG hW (g_pspecial s v (by omega) (by omega)) en57 (by kernel_rfl) rfl rfl rfl ?_
            intro W hW
            refine l_split ?_ ?_
            ·intro hc28
             refine l_valG (r_not rfl rfl) (by kernel_rfl) rfl ?_
             refine kB ?_
             refine l_end (n_then ?_)
             refine c_false rfl ?_
             refine c_skip (n_then (c_reg ?_))
             refine l_val (r_move (v := .func _ _ _) rfl rfl) rfl rfl ?_
             refine aI ?_
             refine aI ?_
             refine l_callVS (args := [.int .i64 ((v : Int)), .int .i64 ((y.2 : Int))]) (cap := [.pointer (some ⟨g3, 0, none⟩)]) (g_emit g3 z.2.2.2.1 z.2.2.2.2.1 z.2.2.1 z.2.2.2.2.2 hO ((v : Int)) ((y.2 : Int)) (by omega)) ((show Cl _ (([_] ++ [_, _]) ++ z.2.2.2.2.2) _ from hW).perm perm_es) en54 trivial rfl rfl rfl rfl rfl ?_
             rintro _ _ W ⟨a2, c2, BL2, rfl, hO2⟩ hW
             replace hW := (show Cl _ (([_] ++ BL2) ++ [_, _]) _ from hW).perm perm_es
             refine l_end (n_block (n_then ?_))
             exact loop_nextM ((fun y => z.1 y && !decide (y = (v : Int))), cn1, (z.2.2.1 ++ [((v : Int), (y.2 : Int))]), a2, c2, BL2) (by kernel_rfl) ⟨hR1, hO2, hE.step hTv (em_one hk htop hdn hyv (fun h => by rw [hc28] at h; exact absurd h.2.2 (by decide))), by show (z.2.2.1 ++ [((v : Int), (y.2 : Int))]).length + 2 * cn1 ≤ 1400; rw [len1]; omega⟩ hW hcn1
            ·intro hc28
             refine l_valG (r_not rfl rfl) (by kernel_rfl) rfl ?_
             refine kB ?_
             refine l_end (n_then ?_)
             refine c_true rfl ?_
             refine c_seq (c_reg ?_)
             refine l_val (r_move (v := .func _ _ _) rfl rfl) rfl rfl ?_
             refine aI ?_
             refine aI ?_
             refine l_callVS (args := [.int .i64 ((v : Int)), .int .i64 (((bet s.d y.2 (lev y.2 - lev v - 1) : Nat) : Int))]) (cap := [.pointer (some ⟨g3, 0, none⟩)]) (g_emit g3 z.2.2.2.1 z.2.2.2.2.1 z.2.2.1 z.2.2.2.2.2 hO ((v : Int)) (((bet s.d y.2 (lev y.2 - lev v - 1) : Nat) : Int)) (by omega)) ((show Cl _ (([_] ++ [_, _]) ++ z.2.2.2.2.2) _ from hW).perm perm_es) en54 trivial rfl rfl rfl rfl rfl ?_
             rintro _ _ W ⟨a2, c2, BL2, rfl, hO2⟩ hW
             replace hW := (show Cl _ (([_] ++ BL2) ++ [_, _]) _ from hW).perm perm_es
             refine l_end (n_then (c_reg ?_))
             refine aI ?_
             refine bI ?_
             refine l_end (n_then (c_reg ?_))
             refine l_val (r_move (v := .func _ _ _) rfl rfl) rfl rfl ?_
             refine aI ?_
             refine aI ?_
             refine l_callVS (args := [.int .i64 (((bet s.d y.2 (lev y.2 - lev v - 1) : Nat) : Int)), .int .i64 ((y.2 : Int))]) (cap := [.pointer (some ⟨g3, 0, none⟩)]) (g_emit g3 a2 c2 (z.2.2.1 ++ [((v : Int), ((bet s.d y.2 (lev y.2 - lev v - 1) : Nat) : Int))]) BL2 hO2 (((bet s.d y.2 (lev y.2 - lev v - 1) : Nat) : Int)) ((y.2 : Int)) (by rw [len1]; omega)) ((show Cl _ (([_] ++ [_, _]) ++ BL2) _ from hW).perm perm_es) en54 trivial rfl rfl rfl rfl rfl ?_
             rintro _ _ W ⟨a3, c3, BL3, rfl, hO3⟩ hW
             replace hW := (show Cl _ (([_] ++ BL3) ++ [_, _]) _ from hW).perm perm_es
             refine l_end (n_block (n_then ?_))
             exact loop_nextM ((fun y => z.1 y && !decide (y = (v : Int))), cn1, (z.2.2.1 ++ [((v : Int), ((bet s.d y.2 (lev y.2 - lev v - 1) : Nat) : Int))] ++ [(((bet s.d y.2 (lev y.2 - lev v - 1) : Nat) : Int), (y.2 : Int))]), a3, c3, BL3) (by kernel_rfl) ⟨hR1, hO3, (List.append_assoc _ _ _ ▸ hE.step hTv (em_2 hk htop hdn hyv ⟨by omega, by omega, hc28⟩)), by show (z.2.2.1 ++ [((v : Int), ((bet s.d y.2 (lev y.2 - lev v - 1) : Nat) : Int))] ++ [(((bet s.d y.2 (lev y.2 - lev v - 1) : Nat) : Int), (y.2 : Int))]).length + 2 * cn1 ≤ 1400; rw [len1]; rw [len1]; omega⟩ hW hcn1
           ·intro hc27
            replace hc27 := of_decide_eq_false hc27
            refine kB ?_
            refine aB ?_
            refine lN ?_
            refine lN ?_
            refine lN ?_
            refine lN ?_
            refine kB ?_
            refine l_end (n_then ?_)
            refine c_false rfl ?_
            refine c_skip (n_then (c_reg ?_))
            refine l_val (r_move (v := .func _ _ _) rfl rfl) rfl rfl ?_
            refine aI ?_
            refine aI ?_
            refine l_callVS (args := [.int .i64 ((v : Int)), .int .i64 ((y.2 : Int))]) (cap := [.pointer (some ⟨g3, 0, none⟩)]) (g_emit g3 z.2.2.2.1 z.2.2.2.2.1 z.2.2.1 z.2.2.2.2.2 hO ((v : Int)) ((y.2 : Int)) (by omega)) ((show Cl _ (([_] ++ [_, _]) ++ z.2.2.2.2.2) _ from hW).perm perm_es) en54 trivial rfl rfl rfl rfl rfl ?_
            rintro _ _ W ⟨a2, c2, BL2, rfl, hO2⟩ hW
            replace hW := (show Cl _ (([_] ++ BL2) ++ [_, _]) _ from hW).perm perm_es
            refine l_end (n_block (n_then ?_))
            exact loop_nextM ((fun y => z.1 y && !decide (y = (v : Int))), cn1, (z.2.2.1 ++ [((v : Int), (y.2 : Int))]), a2, c2, BL2) (by kernel_rfl) ⟨hR1, hO2, hE.step hTv (em_one hk htop hdn hyv (fun h => by omega)), by show (z.2.2.1 ++ [((v : Int), (y.2 : Int))]).length + 2 * cn1 ≤ 1400; rw [len1]; omega⟩ hW hcn1
          ·intro hc26
           replace hc26 := of_decide_eq_false hc26
           refine aB ?_
           refine lN ?_
           refine lN ?_
           refine lN ?_
           refine kB ?_
           refine aB ?_
           refine lN ?_
           refine lN ?_
           refine lN ?_
           refine lN ?_
           refine kB ?_
           refine l_end (n_then ?_)
           refine c_false rfl ?_
           refine c_skip (n_then (c_reg ?_))
           refine l_val (r_move (v := .func _ _ _) rfl rfl) rfl rfl ?_
           refine aI ?_
           refine aI ?_
           refine l_callVS (args := [.int .i64 ((v : Int)), .int .i64 ((y.2 : Int))]) (cap := [.pointer (some ⟨g3, 0, none⟩)]) (g_emit g3 z.2.2.2.1 z.2.2.2.2.1 z.2.2.1 z.2.2.2.2.2 hO ((v : Int)) ((y.2 : Int)) (by omega)) ((show Cl _ (([_] ++ [_, _]) ++ z.2.2.2.2.2) _ from hW).perm perm_es) en54 trivial rfl rfl rfl rfl rfl ?_
           rintro _ _ W ⟨a2, c2, BL2, rfl, hO2⟩ hW
           replace hW := (show Cl _ (([_] ++ BL2) ++ [_, _]) _ from hW).perm perm_es
           refine l_end (n_block (n_then ?_))
           exact loop_nextM ((fun y => z.1 y && !decide (y = (v : Int))), cn1, (z.2.2.1 ++ [((v : Int), (y.2 : Int))]), a2, c2, BL2) (by kernel_rfl) ⟨hR1, hO2, hE.step hTv (em_one hk htop hdn hyv (fun h => by omega)), by show (z.2.2.1 ++ [((v : Int), (y.2 : Int))]).length + 2 * cn1 ≤ 1400; rw [len1]; omega⟩ hW hcn1
        ·intro hc24
         have hT2 : stT s.d.toNat l (2 * y.2 + 1) = false := hc24
         have hne : stT s.d.toNat l (2 * y.2) ≠ stT s.d.toNat l (2 * y.2 + 1) := by rw [hT1, hT2]; decide
         refine l_val (r_neqB Tryz.underlying4 rfl rfl rfl) rfl rfl ?_
         refine l_end (n_then ?_)
         refine c_true rfl ?_
         refine c_skip (n_then (c_block (c_seq (c_reg ?_))))
         refine aI ?_
         refine l_val (r_mulN (n := 2) rfl rfl rfl (by omega)) rfl rfl ?_
         refine bI ?_
         refine l_end (n_then (c_seq (c_reg ?_)))
         refine l_val (r_move (v := .map _) rfl rfl) rfl rfl ?_
         refine aI ?_
         refine l_lookupN hW hR1.map Tryz.underlying111 Tryz.underlying4 Tryz.underlying110 tyZ4 (by kernel_rfl) rfl rfl rfl rfl (WalkArith.wf_i64 (by omega)) ?_
         refine l_split ?_ ?_
         ·intro hc29
          
          refine l_val (r_not rfl rfl) rfl rfl ?_
          refine l_end (n_then ?_)
          refine c_false rfl ?_
          refine c_skip (n_block (n_then ?_))
          obtain ⟨n1, n2, n3, n4, n5⟩ := down_next hmk y1 y2 y3 y6 hne (c := y.2 * 2) (by rw [hT1, if_pos rfl]; omega)
          obtain ⟨n6, n7, -⟩ := hmk.lt128 n1
          exact loop_next (y.1 - 1, y.2 * 2) (by kernel_rfl) hW ⟨n1, n2, n3, n7, n6, n4⟩ (by simp only; omega)
         ·intro hc29
          exact absurd ((show stT s.d.toNat l (2 * y.2) = false by rw [Nat.mul_comm]; exact hc29).symm.trans hT1) (by decide)
       ·intro hc23
        have hT1 : stT s.d.toNat l (2 * y.2) = false := hc23
        refine l_val (r_move (v := .map _) rfl rfl) rfl rfl ?_
        refine aI ?_
        refine l_val (r_mulN (m := 2) rfl rfl rfl (by omega)) rfl rfl ?_
        refine l_val (r_addN (n := 1) rfl rfl rfl (by omega)) rfl rfl ?_
        refine l_lookupN hW hR1.map Tryz.underlying111 Tryz.underlying4 Tryz.underlying110 tyZ4 (by kernel_rfl) rfl rfl rfl rfl (WalkArith.wf_i64 (by omega)) ?_
        refine l_split ?_ ?_
        ·intro hc30
         have hT2 : stT s.d.toNat l (2 * y.2 + 1) = true := hc30
         have hne : stT s.d.toNat l (2 * y.2) ≠ stT s.d.toNat l (2 * y.2 + 1) := by rw [hT1, hT2]; decide
         refine l_val (r_neqB Tryz.underlying4 rfl rfl rfl) rfl rfl ?_
         refine l_end (n_then ?_)
         refine c_true rfl ?_
         refine c_skip (n_then (c_block (c_seq (c_reg ?_))))
         refine aI ?_
         refine l_val (r_mulN (n := 2) rfl rfl rfl (by omega)) rfl rfl ?_
         refine bI ?_
         refine l_end (n_then (c_seq (c_reg ?_)))
         refine l_val (r_move (v := .map _) rfl rfl) rfl rfl ?_
         refine aI ?_
         refine l_lookupN hW hR1.map Tryz.underlying111 Tryz.underlying4 Tryz.underlying110 tyZ4 (by kernel_rfl) rfl rfl rfl rfl (WalkArith.wf_i64 (by omega)) ?_
         refine l_split ?_ ?_
         ·intro hc31
          exact absurd ((show stT s.d.toNat l (2 * y.2) = true by rw [Nat.mul_comm]; exact hc31).symm.trans hT1) (by decide)
         ·intro hc31
          
          refine l_val (r_not rfl rfl) rfl rfl ?_
          refine l_end (n_then ?_)
          refine c_true rfl ?_
          refine c_reg ?_
          refine aI ?_
          refine l_val (r_addN (n := 1) rfl rfl rfl (by omega)) rfl rfl ?_
          refine bI ?_
          refine l_end (n_block (n_then ?_))
          obtain ⟨n1, n2, n3, n4, n5⟩ := down_next hmk y1 y2 y3 y6 hne (c := y.2 * 2 + 1) (by rw [hT1, if_neg (by decide)]; omega)
          obtain ⟨n6, n7, -⟩ := hmk.lt128 n1
          exact loop_next (y.1 - 1, y.2 * 2 + 1) (by kernel_rfl) hW ⟨n1, n2, n3, n7, n6, n4⟩ (by simp only; omega)
        ·intro hc30
         have hT2 : stT s.d.toNat l (2 * y.2 + 1) = false := hc30
         have hdn : downN (stT s.d.toNat l) 7 v = y.2 := y2.trans (down_end (by rw [hT1, hT2]) _)
         refine l_val (r_neqB Tryz.underlying4 rfl rfl rfl) rfl rfl ?_
         refine l_end (n_then ?_)
         refine c_false rfl ?_
         refine c_exit (x_then (x_then ?_))
         refine x_hit ?_
         refine n_then (c_seq (c_seq (c_reg ?_)))
         refine aI ?_
         refine aI ?_
         refine l_val (r_eqlN rfl rfl rfl rfl) rfl rfl ?_
         refine l_split ?_ ?_
         ·intro hc32
          replace hc32 := of_decide_eq_true hc32
          refine l_end (n_then ?_)
          refine c_true rfl ?_
          refine c_exit (x_then ?_)
          refine x_hit ?_
          refine n_then ?_
          exact loop_nextM ((fun y => z.1 y && !decide (y = (v : Int))), cn1, z.2.2.1, z.2.2.2.1, z.2.2.2.2.1, z.2.2.2.2.2) (by kernel_rfl) ⟨hR1, hO, (List.append_nil z.2.2.1 ▸ hE.step hTv (m := []) (em_no hk htop hdn (by omega))), by show z.2.2.1.length + 2 * cn1 ≤ 1400; omega⟩ hW hcn1
         ·intro hc32
          replace hc32 := of_decide_eq_false hc32
          have hyv : ¬ y.2 = v := by omega
          obtain ⟨hvl, hll⟩ := below_lt y6 hyv
          refine l_end (n_then ?_)
          refine c_false rfl ?_
          refine c_skip (n_then (c_seq (c_seq (c_reg ?_))))
          refine dA hW 1 tyA106 ?_
          refine aI ?_
          refine aI ?_
          refine l_call hW (g_pcut s v y.2 (by omega) y5 y6 hll) en56 rfl rfl rfl rfl ?_
          intro W hW
          refine bI ?_
          refine l_end (n_then (c_seq (c_reg ?_)))
          refine aI ?_
          refine l_val (r_neqN (n := 0) rfl rfl rfl rfl) rfl rfl ?_
          refine l_split ?_ ?_
          ·intro hc33
           replace hc33 := of_decide_eq_true hc33
           refine aB ?_
           refine l_valG (r_fieldAddr 0 Tryz.underlying106 rfl tyC5.size rfl rfl rfl) (by kernel_rfl) rfl ?_
           refine dG hW 1 tyC5 ?_
           refine l_valG (r_eql rfl rfl rfl rfl) (by kernel_rfl) rfl ?_
           refine l_split ?_ ?_
           ·intro hc34
            replace hc34 := of_decide_eq_true hc34
            refine kB ?_
            refine aB ?_
            refine l_loadAG hW 1 tyA106 (by kernel_rfl) rfl rfl rfl rfl (by first | rfl | exact kc_len _ | exact kcf_len _ | exact boC_len _ _ | (simp; done)) ?_
            refine gI ?_
            refine l_callG hW (g_pspecial s v (by omega) (by omega)) en57 (by kernel_rfl) rfl rfl rfl ?_
            intro W hW
            refine l_split ?_ ?_
            ·intro hc35
             refine l_valG (r_not rfl rfl) (by kernel_rfl) rfl ?_
             refine kB ?_
             refine l_end (n_then ?_)
             refine c_false rfl ?_
             refine c_skip (n_then (c_reg ?_))
             refine l_val (r_move (v := .func _ _ _) rfl rfl) rfl rfl ?_
             refine aI ?_
             refine aI ?_
             refine l_callVS (args := [.int .i64 ((v : Int)), .int .i64 ((y.2 : Int))]) (cap := [.pointer (some ⟨g3, 0, none⟩)]) (g_emit g3 z.2.2.2.1 z.2.2.2.2.1 z.2.2.1 z.2.2.2.2.2 hO ((v : Int)) ((y.2 : Int)) (by omega)) ((show Cl _ (([_] ++ [_, _]) ++ z.2.2.2.2.2) _ from hW).perm perm_es) en54 trivial rfl rfl rfl rfl rfl ?_
             rintro _ _ W ⟨a2, c2, BL2, rfl, hO2⟩ hW
             replace hW := (show Cl _ (([_] ++ BL2) ++ [_, _]) _ from hW).perm perm_es
             refine l_end (n_block (n_then ?_))
             exact loop_nextM ((fun y => z.1 y && !decide (y = (v : Int))), cn1, (z.2.2.1 ++ [((v : Int), (y.2 : Int))]), a2, c2, BL2) (by kernel_rfl) ⟨hR1, hO2, hE.step hTv (em_one hk htop hdn hyv (fun h => by rw [hc35] at h; exact absurd h.2.2 (by decide))), by show (z.2.2.1 ++ [((v : Int), (y.2 : Int))]).length + 2 * cn1 ≤ 1400; rw [len1]; omega⟩ hW hcn1
            ·intro hc35
             refine l_valG (r_not rfl rfl) (by kernel_rfl) rfl ?_
             refine kB ?_
             refine l_end (n_then ?_)
             refine c_true rfl ?_
             refine c_seq (c_reg ?_)
             refine l_val (r_move (v := .func _ _ _) rfl rfl) rfl rfl ?_
             refine aI ?_
             refine aI ?_
             refine l_callVS (args := [.int .i64 ((v : Int)), .int .i64 (((bet s.d y.2 (lev y.2 - lev v - 1) : Nat) : Int))]) (cap := [.pointer (some ⟨g3, 0, none⟩)]) (g_emit g3 z.2.2.2.1 z.2.2.2.2.1 z.2.2.1 z.2.2.2.2.2 hO ((v : Int)) (((bet s.d y.2 (lev y.2 - lev v - 1) : Nat) : Int)) (by omega)) ((show Cl _ (([_] ++ [_, _]) ++ z.2.2.2.2.2) _ from hW).perm perm_es) en54 trivial rfl rfl rfl rfl rfl ?_
             rintro _ _ W ⟨a2, c2, BL2, rfl, hO2⟩ hW
             replace hW := (show Cl _ (([_] ++ BL2) ++ [_, _]) _ from hW).perm perm_es
             refine l_end (n_then (c_reg ?_))
             refine aI ?_
             refine bI ?_
             refine l_end (n_then (c_reg ?_))
             refine l_val (r_move (v := .func _ _ _) rfl rfl) rfl rfl ?_
             refine aI ?_
             refine aI ?_
             refine l_callVS (args := [.int .i64 (((bet s.d y.2 (lev y.2 - lev v - 1) : Nat) : Int)), .int .i64 ((y.2 : Int))]) (cap := [.pointer (some ⟨g3, 0, none⟩)]) (g_emit g3 a2 c2 (z.2.2.1 ++ [((v : Int), ((bet s.d y.2 (lev y.2 - lev v - 1) : Nat) : Int))]) BL2 hO2 (((bet s.d y.2 (lev y.2 - lev v - 1) : Nat) : Int)) ((y.2 : Int)) (by rw [len1]; omega)) ((show Cl _ (([_] ++ [_, _]) ++ BL2) _ from hW).perm perm_es) en54 trivial rfl rfl rfl rfl rfl ?_
             rintro _ _ W ⟨a3, c3, BL3, rfl, hO3⟩ hW
             replace hW := (show Cl _ (([_] ++ BL3) ++ [_, _]) _ from hW).perm perm_es
             refine l_end (n_block (n_then ?_))
             exact loop_nextM ((fun y => z.1 y && !decide (y = (v : Int))), cn1, (z.2.2.1 ++ [((v : Int), ((bet s.d y.2 (lev y.2 - lev v - 1) : Nat) : Int))] ++ [(((bet s.d y.2 (lev y.2 - lev v - 1) : Nat) : Int), (y.2 : Int))]), a3, c3, BL3) (by kernel_rfl) ⟨hR1, hO3, (List.append_assoc _ _ _ ▸ hE.step hTv (em_2 hk htop hdn hyv ⟨by omega, by omega, hc35⟩)), by show (z.2.2.1 ++ [((v : Int), ((bet s.d y.2 (lev y.2 - lev v - 1) : Nat) : Int))] ++ [(((bet s.d y.2 (lev y.2 - lev v - 1) : Nat) : Int), (y.2 : Int))]).length + 2 * cn1 ≤ 1400; rw [len1]; rw [len1]; omega⟩ hW hcn1
           ·intro hc34
            replace hc34 := of_decide_eq_false hc34
            refine kB ?_
            refine aB ?_
            refine lN ?_
            refine lN ?_
            refine lN ?_
            refine lN ?_
            refine kB ?_
            refine l_end (n_then ?_)
            refine c_false rfl ?_
            refine c_skip (n_then (c_reg ?_))
            refine l_val (r_move (v := .func _ _ _) rfl rfl) rfl rfl ?_
            refine aI ?_
            refine aI ?_
            refine l_callVS (args := [.int .i64 ((v : Int)), .int .i64 ((y.2 : Int))]) (cap := [.pointer (some ⟨g3, 0, none⟩)]) (g_emit g3 z.2.2.2.1 z.2.2.2.2.1 z.2.2.1 z.2.2.2.2.2 hO ((v : Int)) ((y.2 : Int)) (by omega)) ((show Cl _ (([_] ++ [_, _]) ++ z.2.2.2.2.2) _ from hW).perm perm_es) en54 trivial rfl rfl rfl rfl rfl ?_
            rintro _ _ W ⟨a2, c2, BL2, rfl, hO2⟩ hW
            replace hW := (show Cl _ (([_] ++ BL2) ++ [_, _]) _ from hW).perm perm_es
            refine l_end (n_block (n_then ?_))
            exact loop_nextM ((fun y => z.1 y && !decide (y = (v : Int))), cn1, (z.2.2.1 ++ [((v : Int), (y.2 : Int))]), a2, c2, BL2) (by kernel_rfl) ⟨hR1, hO2, hE.step hTv (em_one hk htop hdn hyv (fun h => by omega)), by show (z.2.2.1 ++ [((v : Int), (y.2 : Int))]).length + 2 * cn1 ≤ 1400; rw [len1]; omega⟩ hW hcn1
          ·intro hc33
           replace hc33 := of_decide_eq_false hc33
           refine aB ?_
           refine lN ?_
           refine lN ?_
           refine lN ?_
           refine kB ?_
           refine aB ?_
           refine lN ?_
           refine lN ?_
           refine lN ?_
           refine lN ?_
           refine kB ?_
           refine l_end (n_then ?_)
           refine c_false rfl ?_
           refine c_skip (n_then (c_reg ?_))
           refine l_val (r_move (v := .func _ _ _) rfl rfl) rfl rfl ?_
           refine aI ?_
           refine aI ?_
           refine l_callVS (args := [.int .i64 ((v : Int)), .int .i64 ((y.2 : Int))]) (cap := [.pointer (some ⟨g3, 0, none⟩)]) (g_emit g3 z.2.2.2.1 z.2.2.2.2.1 z.2.2.1 z.2.2.2.2.2 hO ((v : Int)) ((y.2 : Int)) (by omega)) ((show Cl _ (([_] ++ [_, _]) ++ z.2.2.2.2.2) _ from hW).perm perm_es) en54 trivial rfl rfl rfl rfl rfl ?_
           rintro _ _ W ⟨a2, c2, BL2, rfl, hO2⟩ hW
           replace hW := (show Cl _ (([_] ++ BL2) ++ [_, _]) _ from hW).perm perm_es
           refine l_end (n_block (n_then ?_))
           exact loop_nextM ((fun y => z.1 y && !decide (y = (v : Int))), cn1, (z.2.2.1 ++ [((v : Int), (y.2 : Int))]), a2, c2, BL2) (by kernel_rfl) ⟨hR1, hO2, hE.step hTv (em_one hk htop hdn hyv (fun h => by omega)), by show (z.2.2.1 ++ [((v : Int), (y.2 : Int))]).length + 2 * cn1 ≤ 1400; rw [len1]; omega⟩ hW hcn1
 ·intro hc1
  refine l_val (r_not rfl rfl) rfl rfl ?_
  refine l_end (n_then ?_)
  refine c_true rfl ?_
  refine c_seq (c_reg ?_)
  refine bS ?_
  refine bI ?_
  refine l_end (n_then (c_ret (r_then ?_)))
  refine ret_tmp2 rfl rfl rfl ?_
  have e : covE s l = 2 := by rw [covE, if_neg (by rw [hs]; decide), if_pos hc1]
  exact ⟨_, [], rfl, ⟨none, 0, [], by rw [e]; rfl, fun h => (by rw [e] at h; cases h), Nat.zero_le _, OwnSl.nil 64 2⟩, hW.sub (List.nil_sublist _)⟩

set_option maxRecDepth 10000 in
/-- headend/cover.Cover -/
theorem g_CoverN (s : Sc) (aa : Option Addr) (an ac : Nat) (l : List Int) (hs : schB s = false) : GivesX Tryz.prog 17 [.agg [.int .u8 s.k, .int .i64 s.d, .int .i64 s.g, .int .u64 s.p, .int .u64 s.q, .int .u64 s.r].toArray, .slice aa an ac].toArray (fun w => RdI w ⟨aa, an, ac⟩ l) (fun v Bs => ∃ (a2 : Option Addr) (c2 : Nat) (em : List (Int × Int)), v = .tuple #[.slice a2 em.length c2, .int .i64 (covE s l)] ∧ (covE s l = 0 → CovOk s l em) ∧ em.length ≤ 1400 ∧ OwnSl 64 2 a2 em.length c2 (sl2 em) Bs) := by
 refine givesX_of Tryz.func17 rfl (bs := [.agg [.int .u8 s.k, .int .i64 s.d, .int .i64 s.g, .int .u64 s.p, .int .u64 s.q, .int .u64 s.r].toArray, .slice aa an ac, undef, undef, undef, undef, undef, undef, undef, undef, undef, undef, undef, undef, undef, undef, undef, undef, undef, undef, undef, undef, undef, undef, undef, undef, undef, undef, undef, undef, undef, undef, undef, undef, undef, undef, undef, undef, undef, undef, undef, undef, undef, undef, undef, undef, undef, undef, undef, undef, undef, undef, undef, undef, undef, undef, undef, undef, undef, undef, undef, undef, undef, undef, undef, undef, undef, undef, undef, undef, undef, undef, undef, undef, undef, undef, undef, undef, undef, undef, undef, undef, undef, undef, undef, undef, undef, undef, undef, undef, undef, undef, undef, undef, undef, undef, undef, undef, undef, undef, undef, undef, undef, undef, undef, undef, undef, undef, undef, undef, undef, undef, undef, undef, undef, undef, undef, undef, undef, undef, undef, undef, undef, undef, undef, undef, undef, undef, undef, undef, undef, undef, undef, undef]) rfl ?_
 intro w hP hW
 refine c_seq (c_reg ?_)
 refine xB hW ?_
 intro g1 W hW
 refine bS ?_
 refine bI ?_
 refine l_end (n_then (c_seq (c_reg ?_)))
 refine dA hW 0 tyA26 ?_
 refine l_callR hW (g_enterX s none 0 0 [] hs) en51 ⟨Sl.Ok.no, rfl, Rd.nil _ _⟩ rfl rfl rfl rfl ?_
 intro W hW
 refine l_val (r_move (v := .tuple _) rfl rfl) rfl rfl ?_
 refine l_val (r_extract (v := .agg _) rfl rfl rfl) rfl rfl ?_
 refine l_val (r_extract (v := .int _ _) rfl rfl rfl) rfl rfl ?_
 refine l_alloc hW tyZ106 rfl rfl rfl ?_
 intro g2 W hW
 refine sA hW 0 tyA106 ?_
 intro W hW
 refine bI ?_
 refine l_end (n_then (c_seq (c_seq (c_reg ?_))))
 refine aI ?_
 refine l_val (r_neq (b := true) rfl rfl rfl (by decide)) rfl rfl ?_
 refine l_end (n_then ?_)
 refine c_true rfl ?_
 refine c_seq (c_reg ?_)
 refine aI ?_
 refine bS ?_
 refine bI ?_
 refine l_end (n_then (c_ret (r_then ?_)))
 refine ret_tmp2 rfl rfl rfl ?_
 have e : covE s l = 30 := if_pos hs
 exact ⟨_, [], rfl, ⟨none, 0, [], by rw [e]; rfl, fun h => (by rw [e] at h; cases h), Nat.zero_le _, OwnSl.nil 64 2⟩, hW.sub (List.nil_sublist _)⟩

/-- covers -/
theorem g_Cover (s : Sc) (aa : Option Addr) (an ac : Nat) (l : List Int) (hl : l.length ≤ 100) : GivesX Tryz.prog 17 [.agg [.int .u8 s.k, .int .i64 s.d, .int .i64 s.g, .int .u64 s.p, .int .u64 s.q, .int .u64 s.r].toArray, .slice aa an ac].toArray (fun w => RdI w ⟨aa, an, ac⟩ l) (fun v Bs => ∃ (a2 : Option Addr) (c2 : Nat) (em : List (Int × Int)), v = .tuple #[.slice a2 em.length c2, .int .i64 (covE s l)] ∧ (covE s l = 0 → CovOk s l em) ∧ em.length ≤ 1400 ∧ OwnSl 64 2 a2 em.length c2 (sl2 em) Bs) := by
 cases hs : schB s with
 | true => exact g_CoverY s aa an ac l hl hs
 | false => exact g_CoverN s aa an ac l hs
end Go.Proofs.YtoegpalacppllaaGreat

/- The law: pirates are shut out. -/
namespace Go.Proofs.YtoegpalacppllaaGreat
open Go.RowKit Pl
open Tr Hn
set_option maxRecDepth 10000 in
set_option maxHeartbeats 2000000 in
/-- headend/headendtop.TopBeaten -/
theorem g_TopBeaten (b : Bo) (t : Sl) (aa : Option Addr) (an ac : Nat) (rv : List Int) (noise : Int) (root se : Kw) (u : Int) : GivesR Tryz.prog 3 [.agg (boC b t).toArray, .slice aa an ac, .int .i64 noise, keyV root, keyV se, .int .i64 u].toArray (fun w => RdI w t b.l ∧ RdI w ⟨aa, an, ac⟩ rv) (.bool true) := by
 refine givesR_of Tryz.func3 rfl (bs := [.agg (boC b t).toArray, .slice aa an ac, .int .i64 noise, keyV root, keyV se, .int .i64 u, undef, undef, undef, undef, undef, undef, undef, undef, undef, undef, undef, undef, undef, undef, undef, undef, undef, undef, undef, undef, undef, undef, undef, undef, undef, undef, undef, undef, undef, undef, undef, undef, undef, undef, undef, undef, undef, undef, undef, undef, undef, undef, undef, undef, undef, undef, undef, undef, undef, undef, undef, undef, undef, undef, undef, undef, undef, undef, undef, undef, undef, undef, undef, undef, undef, undef, undef, undef, undef, undef, undef, undef, undef, undef, undef, undef, undef, undef, undef, undef, undef, undef, undef, undef, undef, undef, undef, undef, undef, undef, undef, undef, undef, undef, undef, undef, undef, undef, undef, undef, undef, undef, undef, undef, undef, undef, undef, undef, undef, undef, undef, undef, undef, undef, undef, undef, undef, undef, undef, undef, undef, undef, undef, undef, undef, undef, undef]) rfl ?_
 intro w hP hW
 have hn := hP.1.len
 have han : an = rv.length := hP.2.len
 refine c_seq (c_reg ?_)
 refine xB hW ?_
 intro g1 W hW
 refine xB hW ?_
 intro g2 W hW
 refine xB hW ?_
 intro g3 W hW
 refine bB ?_
 refine l_end (n_then (c_seq (c_reg ?_)))
 refine l_callR hW (Pre := fun _ => True) (fun w _ => g_alive08 w) en16 trivial rfl rfl rfl rfl ?_
 intro W hW
 refine bB ?_
 refine l_end (n_then (c_seq (c_seq (c_reg ?_))))
 refine l_val (r_fieldAddr 6 Tryz.underlying31 rfl tyC27.size rfl rfl rfl) rfl rfl ?_
 refine dC hW 2 tyC27 ?_
 refine l_val (r_lenSlice Tryz.underlying27 rfl rfl) rfl rfl ?_
 refine l_val (r_gtrN (n := 100) rfl rfl rfl rfl) rfl rfl ?_
 refine l_split ?_ ?_
 ·intro hc1
  replace hc1 := of_decide_eq_true hc1
  refine aB ?_
  refine lN ?_
  refine lN ?_
  refine lN ?_
  refine kB ?_
  refine aB ?_
  refine lN ?_
  refine lN ?_
  refine lN ?_
  refine lN ?_
  refine kB ?_
  refine aB ?_
  refine lN ?_
  refine lN ?_
  refine kB ?_
  refine l_end (n_then ?_)
  refine c_true rfl ?_
  refine c_seq (c_reg ?_)
  refine aB ?_
  refine bB ?_
  refine l_end (n_then (c_ret (r_then ?_)))
  refine ret_tmp (v := .bool true) rfl ?_ ⟨rfl, hW.below⟩
  rfl
 ·intro hc1
  replace hc1 := of_decide_eq_false hc1
  refine aB ?_
  refine l_valG (r_move (v := .slice _ _ _) rfl rfl) (by kernel_rfl) rfl ?_
  refine l_valG (r_lenSlice Tryz.underlying27 rfl rfl) (by kernel_rfl) rfl ?_
  refine l_valG (r_gtrN (n := 100) rfl rfl rfl rfl) (by kernel_rfl) rfl ?_
  refine l_split ?_ ?_
  ·intro hc2
   replace hc2 := of_decide_eq_true hc2
   refine kB ?_
   refine aB ?_
   refine lN ?_
   refine lN ?_
   refine lN ?_
   refine lN ?_
   refine kB ?_
   refine aB ?_
   refine lN ?_
   refine lN ?_
   refine kB ?_
   refine l_end (n_then ?_)
   refine c_true rfl ?_
   refine c_seq (c_reg ?_)
   refine aB ?_
   refine bB ?_
   refine l_end (n_then (c_ret (r_then ?_)))
   refine ret_tmp (v := .bool true) rfl ?_ ⟨rfl, hW.below⟩
   rfl
  ·intro hc2
   replace hc2 := of_decide_eq_false hc2
   refine kB ?_
   refine aB ?_
   refine gI ?_
   refine l_valG (r_fieldAddr 8 Tryz.underlying31 rfl tyC3.size rfl rfl rfl) (by kernel_rfl) rfl ?_
   refine dG hW 2 tyC3 ?_
   refine l_valG (r_lss rfl rfl rfl rfl) (by kernel_rfl) rfl ?_
   refine l_split ?_ ?_
   ·intro hc3
    replace hc3 := of_decide_eq_true hc3
    refine kB ?_
    refine aB ?_
    refine lN ?_
    refine lN ?_
    refine kB ?_
    refine l_end (n_then ?_)
    refine c_true rfl ?_
    refine c_seq (c_reg ?_)
    refine aB ?_
    refine bB ?_
    refine l_end (n_then (c_ret (r_then ?_)))
    refine ret_tmp (v := .bool true) rfl ?_ ⟨rfl, hW.below⟩
    rfl
   ·intro hc3
    replace hc3 := of_decide_eq_false hc3
    have hl : b.l.length ≤ 100 := by omega
    have hrl : rv.length ≤ 100 := by omega
    refine kB ?_
    refine aB ?_
    refine l_valG (r_move (v := .bool _) rfl rfl) (by kernel_rfl) rfl ?_
    refine l_valG (r_not rfl rfl) (by kernel_rfl) rfl ?_
    refine kB ?_
    refine l_end (n_then ?_)
    refine c_false rfl ?_
    refine c_skip (n_then (c_seq (c_reg ?_)))
    refine l_val (r_fieldAddr 0 Tryz.underlying31 rfl tyA26.size rfl rfl rfl) rfl rfl ?_
    refine l_loadP hW 2 tyA26 rfl rfl rfl rfl rfl (by first | rfl | omega | (simp; done) | (simp; omega)) rfl ?_
    refine aS ?_
    refine l_callX hW (g_Cover b.s aa an ac rv hrl) en17 (hP.2.past hW.below) rfl rfl rfl rfl ?_
    rintro _ BCV W ⟨a2, c2, em, rfl, hcv, hem, hOem⟩ hW
    refine l_val (r_move (v := .tuple _) rfl rfl) rfl rfl ?_
    refine l_val (r_extract (v := .slice _ _ _) rfl rfl rfl) rfl rfl ?_
    refine l_val (r_extract (v := .int _ _) rfl rfl rfl) rfl rfl ?_
    refine bS ?_
    refine bI ?_
    refine l_end (n_then (c_seq (c_reg ?_)))
    refine dA hW 2 tyA31 ?_
    refine aS ?_
    refine aI ?_
    refine l_callX hW (g_Trace b t a2 em.length c2 em noise hl (by omega)) en18 ⟨hP.1.past hW.below, (hOem.repB.at (show Cl _ ([_, _, _] ++ BCV) _ from hW) ((List.sublist_append_right _ BCV)))⟩ rfl rfl rfl rfl ?_
    rintro _ _ W ⟨_, _, rfl, n1, la1, lc1, s1, BN1, BL1, BB1, rfl, rfl, rfl, h11, h21, h31⟩ hW
    obtain ⟨R, hR⟩ : ∃ tr_, tr_ = traceT b em noise := ⟨_, rfl⟩
    obtain ⟨eR, heR⟩ : ∃ e : Int, e = (R.2 : Int) := ⟨_, rfl⟩
    rw [← hR] at h11 h21 h31 ⊢
    rw [show fiC n1 ⟨la1, R.1.l.length, lc1⟩ R.1.a R.2 = [.slice n1.a n1.n n1.c, .slice la1 R.1.l.length lc1, .int .i64 (R.1.a : Int), .int .u8 eR] from by rw [heR]]
    have hn1 := h11.n
    refine l_val (r_move (v := .tuple _) rfl rfl) rfl rfl ?_
    refine l_val (r_extract (v := .agg _) rfl rfl rfl) rfl rfl ?_
    refine l_val (r_extract (v := .agg _) rfl rfl rfl) rfl rfl ?_
    refine l_val (r_extract (v := .int _ _) rfl rfl rfl) rfl rfl ?_
    refine l_alloc hW tyZ38 rfl rfl rfl ?_
    intro g4 W hW
    refine l_alloc hW tyZ31 rfl rfl rfl ?_
    intro g5 W hW
    refine sA hW 1 tyA38 ?_
    intro W hW
    refine sA hW 0 tyA31 ?_
    intro W hW
    refine bI ?_
    refine l_end (n_then (c_seq (c_reg ?_)))
    refine dA hW 3 tyA29 ?_
    refine l_val (r_fieldAddr 0 Tryz.underlying31 rfl tyA26.size rfl rfl rfl) rfl rfl ?_
    refine l_loadP hW 4 tyA26 rfl rfl rfl rfl rfl (by first | rfl | omega | (simp; done) | (simp; omega)) rfl ?_
    refine aI ?_
    refine l_callX hW (g_Secret root b.s u) en19 trivial rfl rfl rfl rfl ?_
    rintro _ BQ W ⟨sq, xq, rfl, hsc⟩ hW
    refine l_val (r_move (v := .tuple _) rfl rfl) rfl rfl ?_
    refine l_val (r_extract (v := .agg _) rfl rfl rfl) rfl rfl ?_
    refine l_val (r_extract (v := .int _ _) rfl rfl rfl) rfl rfl ?_
    refine l_alloc hW tyZ45 rfl rfl rfl ?_
    intro g6 W hW
    refine sA hW 0 tyA45 ?_
    intro W hW
    refine bI ?_
    refine l_end (n_then (c_seq (c_seq (c_reg ?_))))
    refine aI ?_
    refine l_val (r_neq rfl rfl rfl rfl) rfl rfl ?_
    refine l_split ?_ ?_
    ·intro hc4
     replace hc4 := of_decide_eq_true hc4
     refine aB ?_
     refine lN ?_
     refine lN ?_
     refine kB ?_
     refine aB ?_
     refine lN ?_
     refine lN ?_
     refine kB ?_
     refine l_end (n_then ?_)
     refine c_true rfl ?_
     refine c_seq (c_reg ?_)
     refine aB ?_
     refine bB ?_
     refine l_end (n_then (c_ret (r_then ?_)))
     refine ret_tmp (v := .bool true) rfl ?_ ⟨rfl, hW.below⟩
     rfl
    ·intro hc4
     replace hc4 := of_decide_eq_false hc4
     refine aB ?_
     refine gI ?_
     refine l_valG (r_neq rfl rfl rfl rfl) (by kernel_rfl) rfl ?_
     refine l_split ?_ ?_
     ·intro hc5
      replace hc5 := of_decide_eq_true hc5
      refine kB ?_
      refine aB ?_
      refine lN ?_
      refine lN ?_
      refine kB ?_
      refine l_end (n_then ?_)
      refine c_true rfl ?_
      refine c_seq (c_reg ?_)
      refine aB ?_
      refine bB ?_
      refine l_end (n_then (c_ret (r_then ?_)))
      refine ret_tmp (v := .bool true) rfl ?_ ⟨rfl, hW.below⟩
      rfl
     ·intro hc5
      replace hc5 := of_decide_eq_false hc5
      refine kB ?_
      refine aB ?_
      refine gI ?_
      refine l_valG (r_neq rfl rfl rfl rfl) (by kernel_rfl) rfl ?_
      refine l_split ?_ ?_
      ·intro hc6
       replace hc6 := of_decide_eq_true hc6
       refine kB ?_
       refine l_end (n_then ?_)
       refine c_true rfl ?_
       refine c_seq (c_reg ?_)
       refine aB ?_
       refine bB ?_
       refine l_end (n_then (c_ret (r_then ?_)))
       refine ret_tmp (v := .bool true) rfl ?_ ⟨rfl, hW.below⟩
       rfl
      ·intro hc6
       replace hc6 := of_decide_eq_false hc6
       have htE : traceE b em noise = 0 := by omega
       have hcE : covE b.s rv = 0 := by omega
       have hsE : secE b.s u = 0 := by omega
       have k := trace_ok htE (by omega)
       rw [← hR] at k
       have hcov := hcv hcE
       obtain ⟨-, hu0, hu1⟩ := sec_ok hsE
       have hq64 := k.subs'.1
       obtain ⟨hxq, hqn, hOq⟩ := hsc hsE
       have hsl := top_seal k
       have hsum := k.sum
       have hle1 := restL_le (allm b.s em) 64
       refine kB ?_
       refine l_end (n_then ?_)
       refine c_false rfl ?_
       refine c_skip (n_then (c_seq (c_reg ?_)))
       refine dA hW 4 tyA29 ?_
       refine l_val (r_fieldAddr 0 Tryz.underlying31 rfl tyA26.size rfl rfl rfl) rfl rfl ?_
       refine l_loadP hW 5 tyA26 rfl rfl rfl rfl rfl (by first | rfl | omega | (simp; done) | (simp; omega)) rfl ?_
       refine l_val (r_fieldAddr 1 Tryz.underlying38 rfl tyC33.size rfl rfl rfl) rfl rfl ?_
       refine dC hW 2 tyC33 ?_
       refine dA hW 3 tyA29 ?_
       refine l_callX hW (g_Seal root b.s la1 R.1.l.length lc1 R.1.l se (by omega)) en20 ((h21.repB.at (show Cl _ ((([_, _, _, _, _, _] ++ BCV) ++ ((BN1 ++ BL1) ++ BB1)) ++ BQ) _ from hW) (((List.sublist_append_right BN1 BL1).trans (List.sublist_append_left _ BB1)).trans (((List.sublist_append_right _ ((BN1 ++ BL1) ++ BB1)).trans (List.sublist_append_left _ BQ)))))) rfl rfl rfl rfl ?_
       rintro _ BS W ⟨hh, ck, rfl, -, hok⟩ hW
       obtain ⟨rfl, hhn, hO0⟩ := hok hsl
       rw [hsl]
       refine l_val (r_move (v := .tuple _) rfl rfl) rfl rfl ?_
       refine l_val (r_extract (v := .agg _) rfl rfl rfl) rfl rfl ?_
       refine l_val (r_extract (v := .int _ _) rfl rfl rfl) rfl rfl ?_
       refine l_alloc hW tyZ51 rfl rfl rfl ?_
       intro g7 W hW
       refine l_storeA hW 0 tyA51 rfl rfl rfl rfl rfl rfl rfl (hdC_len _ _) (hdC_one _ _) ?_
       intro W hW
       refine bI ?_
       refine l_end (n_then (c_seq (c_reg ?_)))
       refine l_val (r_fieldAddr 0 Tryz.underlying31 rfl tyA26.size rfl rfl rfl) rfl rfl ?_
       refine l_loadP hW 6 tyA26 rfl rfl rfl rfl rfl (by first | rfl | omega | (simp; done) | (simp; omega)) rfl ?_
       refine dA hW 1 tyA45 ?_
       refine l_loadA hW 0 tyA51 rfl rfl rfl rfl rfl (hdC_len _ _) ?_
       refine l_callR hW (g_Open b.s xq sq.a sq.n sq.c (labL root b.s u.toNat (labN b.s u.toNat).length) hh (sealL root se b.s R.1.l) (derive se 53 0) k.s (labL_x k.s (by omega)) (Nat.le_trans (labL_le k.s) (by decide)) (by rw [sealL_len]; omega)) en21 ⟨(hOq.repIt.at (show Cl _ (((([_, _, _, _, _, _, _] ++ BCV) ++ ((BN1 ++ BL1) ++ BB1)) ++ BQ) ++ BS) _ from hW) (((List.sublist_append_right _ BQ).trans (List.sublist_append_left _ BS)))), RdC_eta ((hO0.repIt.at (show Cl _ (((([_, _, _, _, _, _, _] ++ BCV) ++ ((BN1 ++ BL1) ++ BB1)) ++ BQ) ++ BS) _ from hW) ((List.sublist_append_right _ BS))))⟩ rfl rfl rfl rfl ?_
       intro W hW
       obtain ⟨oe, hoe⟩ : ∃ x, x = openE b.s (labL root b.s u.toNat (labN b.s u.toNat).length) (sealL root se b.s R.1.l) (derive se 53 0) := ⟨_, rfl⟩
       obtain ⟨ok0, hok0⟩ : ∃ x, x = openK b.s (labL root b.s u.toNat (labN b.s u.toNat).length) (sealL root se b.s R.1.l) (derive se 53 0) := ⟨_, rfl⟩
       rw [← hoe, ← hok0]
       refine l_val (r_move (v := .tuple _) rfl rfl) rfl rfl ?_
       refine l_val (r_extract (v := .agg _) rfl rfl rfl) rfl rfl ?_
       refine l_val (r_extract (v := .int _ _) rfl rfl rfl) rfl rfl ?_
       refine l_alloc hW tyZ29 rfl rfl rfl ?_
       intro g8 W hW
       refine sA hW 0 tyA29 ?_
       intro W hW
       refine bI ?_
       refine l_end (n_then (c_seq (c_seq (c_reg ?_))))
       refine aI ?_
       refine l_val (r_neq (b := false) rfl rfl rfl (by decide)) rfl rfl ?_
       refine l_end (n_then ?_)
       refine c_false rfl ?_
       refine c_skip (n_then (c_seq (c_seq (c_reg ?_))))
       refine aS ?_
       refine aI ?_
       refine l_callR hW (g_tin aa an ac rv u (by omega)) en22 (hP.2.past hW.below) rfl rfl rfl rfl ?_
       intro W hW
       refine l_split ?_ ?_
       ·intro hc7
        have he6 : oe = 6 := hoe.trans (top_outZ k hcov hu0 hu1 (.inl hc7))
        refine aB ?_
        refine lN ?_
        refine lN ?_
        refine lN ?_
        refine lN ?_
        refine kB ?_
        refine l_end (n_then ?_)
        refine c_true rfl ?_
        refine c_seq (c_reg ?_)
        refine aB ?_
        refine aB ?_
        refine gI ?_
        refine l_valG (r_eql (b := true) rfl rfl rfl (decide_eq_true he6)) (by kernel_rfl) rfl ?_
        refine kB ?_
        refine bB ?_
        refine l_end (n_then (c_ret (r_then ?_)))
        refine ret_tmp (v := .bool true) rfl ?_ ⟨rfl, hW.below⟩
        rfl
       ·intro hc7
        refine aB ?_
        refine l_valG (r_fieldAddr 0 Tryz.underlying38 rfl tyC27.size rfl rfl rfl) (by kernel_rfl) rfl ?_
        refine dG hW 4 tyC27 ?_
        refine gI ?_
        refine l_callRG hW (g_tin n1.a n1.n n1.c R.1.nm u (by omega)) en22 (h11.rep.at (show Cl _ (((([_, _, _, _, _, _, _, _] ++ BCV) ++ ((BN1 ++ BL1) ++ BB1)) ++ BQ) ++ BS) _ from hW) (((List.sublist_append_left BN1 BL1).trans (List.sublist_append_left _ BB1)).trans ((((List.sublist_append_right _ ((BN1 ++ BL1) ++ BB1)).trans (List.sublist_append_left _ BQ)).trans (List.sublist_append_left _ BS))))) (by kernel_rfl) rfl rfl rfl ?_
        intro W hW
        refine l_split ?_ ?_
        ·intro hc8
         have he6 : oe = 6 := hoe.trans (top_outZ k hcov hu0 hu1 (.inr hc8))
         refine kB ?_
         refine l_end (n_then ?_)
         refine c_true rfl ?_
         refine c_seq (c_reg ?_)
         refine aB ?_
         refine aB ?_
         refine gI ?_
         refine l_valG (r_eql (b := true) rfl rfl rfl (decide_eq_true he6)) (by kernel_rfl) rfl ?_
         refine kB ?_
         refine bB ?_
         refine l_end (n_then (c_ret (r_then ?_)))
         refine ret_tmp (v := .bool true) rfl ?_ ⟨rfl, hW.below⟩
         rfl
        ·intro hc8
         have he0 : oe = 0 := hoe.trans (top_inZ k hcov hu0 hu1 hc7 hc8).1
         have hk0 : ok0 = se := hok0.trans (top_inZ k hcov hu0 hu1 hc7 hc8).2
         refine kB ?_
         refine l_end (n_then ?_)
         refine c_false rfl ?_
         refine c_skip (n_then (c_seq (c_seq (c_reg ?_))))
         refine l_val (r_fieldAddr 9 Tryz.underlying31 rfl tyC3.size rfl rfl rfl) rfl rfl ?_
         refine dC hW 7 tyC3 ?_
         refine l_val (r_eql rfl rfl rfl rfl) rfl rfl ?_
         refine l_split ?_ ?_
         ·intro hc9
          replace hc9 := of_decide_eq_true hc9
          refine aB ?_
          refine l_valG (r_fieldAddr 6 Tryz.underlying31 rfl tyC27.size rfl rfl rfl) (by kernel_rfl) rfl ?_
          refine dG hW 7 tyC27 ?_
          refine gI ?_
          refine l_callRG hW (GivesR.cast (g_tin t.a t.n t.c b.l u (by omega)) (congrArg Value.bool (top_pirZ k hcov hu0 hu1 hc9 hc7 hc8))) en22 (hP.1.past hW.below) (by kernel_rfl) rfl rfl rfl ?_
          intro W hW
          refine kB ?_
          refine l_end (n_then ?_)
          refine c_false rfl ?_
          refine c_skip (n_then (c_seq (c_reg ?_)))
          refine aB ?_
          refine aB ?_
          refine gI ?_
          refine l_valG (r_eql (b := true) rfl rfl rfl (decide_eq_true he0)) (by kernel_rfl) rfl ?_
          refine kB ?_
          refine aB ?_
          refine l_loadAG hW 0 tyA29 (by kernel_rfl) rfl rfl rfl rfl (by first | rfl | exact kc_len _ | exact kcf_len _ | exact boC_len _ _ | (simp; done)) ?_
          refine l_loadAG hW 5 tyA29 (by kernel_rfl) rfl rfl rfl rfl (by first | rfl | exact kc_len _ | exact kcf_len _ | exact boC_len _ _ | (simp; done)) ?_
          refine l_valG (r_eqlK tyK29 _ _ (c := true) rfl rfl rfl (decide_eq_true hk0)) (by kernel_rfl) rfl ?_
          refine kB ?_
          refine bB ?_
          refine l_end (n_then (c_ret ?_))
          refine ret_tmp (v := .bool true) rfl ?_ ⟨rfl, hW.below⟩
          rfl
         ·intro hc9
          replace hc9 := of_decide_eq_false hc9
          refine aB ?_
          refine lN ?_
          refine lN ?_
          refine lN ?_
          refine lN ?_
          refine kB ?_
          refine l_end (n_then ?_)
          refine c_false rfl ?_
          refine c_skip (n_then (c_seq (c_reg ?_)))
          refine aB ?_
          refine aB ?_
          refine gI ?_
          refine l_valG (r_eql (b := true) rfl rfl rfl (decide_eq_true he0)) (by kernel_rfl) rfl ?_
          refine kB ?_
          refine aB ?_
          refine l_loadAG hW 0 tyA29 (by kernel_rfl) rfl rfl rfl rfl (by first | rfl | exact kc_len _ | exact kcf_len _ | exact boC_len _ _ | (simp; done)) ?_
          refine l_loadAG hW 5 tyA29 (by kernel_rfl) rfl rfl rfl rfl (by first | rfl | exact kc_len _ | exact kcf_len _ | exact boC_len _ _ | (simp; done)) ?_
          refine l_valG (r_eqlK tyK29 _ _ (c := true) rfl rfl rfl (decide_eq_true hk0)) (by kernel_rfl) rfl ?_
          refine kB ?_
          refine bB ?_
          refine l_end (n_then (c_ret ?_))
          refine ret_tmp (v := .bool true) rfl ?_ ⟨rfl, hW.below⟩
          rfl

end Go.Proofs.YtoegpalacppllaaGreat

/- For every box of at most 100 receivers, every list of at most 100 revoked receivers, every noise that is at least the box's, every root key, session key and receiver: what is sealed for the partition at the end of a trace of the box with the cover opens for the receiver just if it is neither revoked nor named, and for none of the coalition of an immortal box; or an error was told; no conditions. -/
namespace Go.Proofs.YtoegpalacppllaaGreat
open Go.RowKit Go.ChangeShapes Go.WideShapes Pl Tr Hn

theorem topBeaten_calls (H : Type) (enc : TypeId × Value → H) (W : World) (base : Nat) (args : Array Value) (ds : List (DataW H)) (ps : List MemPlace) (h : Opened enc Tryz.prog W Tryz.f3 base args ds ps) :
    Calls Tryz.prog 3 args W fun e w' => e = .returned (.bool true) ∧ Below W.heap.size W w' := by
  have r0 := h.args (ts := [31, 27, 3, 29, 29, 3]) (by kernel_rfl)
  generalize hl : args.toList = l0 at r0
  obtain ⟨_, l1, rfl, a0, r1⟩ := r0.cons
  obtain ⟨b, b_s, rfl, b_rd⟩ := a0.box tyBo31
  obtain ⟨_, l2, rfl, a1, r2⟩ := r1.cons
  obtain ⟨rv_s, rv, rfl, rv_rd, rv_max, rv_fit⟩ := ints_of_arg a1 Tryz.underlying27 Tryz.underlying3 (by kernel_rfl) (by kernel_rfl)
  obtain ⟨_, l3, rfl, a2, r3⟩ := r2.cons
  obtain ⟨noise, rfl, noise_lo, noise_hi⟩ := a2.int Tryz.underlying3
  obtain ⟨_, l4, rfl, a3, r4⟩ := r3.cons
  obtain ⟨root, rfl⟩ := a3.key tyK29 (by kernel_rfl)
  obtain ⟨_, l5, rfl, a4, r5⟩ := r4.cons
  obtain ⟨se, rfl⟩ := a4.key tyK29 (by kernel_rfl)
  obtain ⟨_, l6, rfl, a5, r6⟩ := r5.cons
  obtain ⟨u, rfl, u_lo, u_hi⟩ := a5.int Tryz.underlying3
  obtain rfl := r6.nil
  rw [arr_of hl]
  exact g_TopBeaten b b_s rv_s.a rv_s.n rv_s.c rv noise root se u W ⟨b_rd, rv_rd⟩
set_option maxRecDepth 100000 in
theorem topBeaten_closed : joinedFacts Tryz.pinned.checked.prog 3 Tryz.f3 Rows.topBeatenSpec Rows.topBeatenRow = true := by kernel_rfl
set_option maxRecDepth 100000 in
theorem topBeaten_holds : Rows.TopBeatenSaid :=
  OpenClaim.holds_of_wide 3 Tryz.f3 rfl rfl rfl rfl rfl rfl rfl ⟨rfl, rfl, rfl, rfl, rfl⟩ rfl rfl rfl rfl rfl (by kernel_rfl) Tryz.func3 topBeaten_closed
    (of_decide_eq_true (by kernel_rfl)) (by unfold Func.isWrapper; first | (rw [if_pos (by decide +kernel)]; kernel_rfl) | (rw [if_neg (by decide +kernel)]; exact ⟨rfl, rfl⟩))
    (fun os started H enc _ => law_lifted (C := Tryz.checked) (s := Rows.topBeatenSpec) (conds := Rows.topBeatenRow.domain) 4 (by kernel_rfl) (by kernel_rfl) Tryz.func3 (by kernel_rfl) (by kernel_rfl) rfl
      (fun H ds hd => match ds, hd with | [_, _, _, _, _, _], _ => rfl) (by kernel_rfl) Tryz.underlying4 topBeaten_calls os started H enc
      (ChangeSpec.witness6 (enc := enc) (C := Tryz.checked) false ⟨#[], #[.agg #[.int .u8 0, .int .i64 0, .int .i64 0, .int .u64 0, .int .u64 0, .int .u64 0, .slice none 0 0, .int .u8 0, .int .i64 0, .int .i64 0, .int .u8 0, .int .u8 0, .int .u8 0, .int .u8 0, .int .u8 0, .int .u8 0, .int .u8 0, .int .u8 0, .int .u8 0, .int .u8 0, .int .u8 0, .int .u8 0, .int .u8 0, .int .u8 0, .int .u8 0, .int .u8 0, .int .i64 0, .int .i64 0], .slice none 0 0, .int .i64 0, .agg #[.int .u8 0, .int .u8 0, .int .u8 0, .int .u8 0, .int .u8 0, .int .u8 0, .int .u8 0, .int .u8 0, .int .u8 0, .int .u8 0, .int .u8 0, .int .u8 0, .int .u8 0, .int .u8 0, .int .u8 0, .int .u8 0], .agg #[.int .u8 0, .int .u8 0, .int .u8 0, .int .u8 0, .int .u8 0, .int .u8 0, .int .u8 0, .int .u8 0, .int .u8 0, .int .u8 0, .int .u8 0, .int .u8 0, .int .u8 0, .int .u8 0, .int .u8 0, .int .u8 0], .int .i64 0], []⟩ 8 (by kernel_rfl) (by kernel_rfl) (by kernel_rfl) (by kernel_rfl)))
#print axioms topBeaten_holds
end Go.Proofs.YtoegpalacppllaaGreat

