/- For every root key, scheme, list of at most 100 subsets, number of fakes and session key: whether the subsets are a partition, and the header of a query, or the errors, by the program are those of the reference; no conditions. -/
import Derived.Test.YtoegpalacppllaaPkP2
import Derived.Shelf.Small.Bits
import Derived.Shelf.Strconv.Itoa0
import Derived.Shelf.Sort.Plain
import Derived.Ground.Names2Prog
import Derived.Shelf.Slices.Clone
import Derived.Shelf.Slices.CompactI
import Derived.Shelf.Slices.SearchI
import Derived.Shelf.Slices.Cells
import Derived.Shelf.Slices.In.SortNone
import Derived.Shelf.Slices.Empties
import Derived.Ground.SlgnProg
import Derived.Shelf.SlicesE.Clone
import Derived.Test.YtoegpalacppllaaProg
import Derived.Lib.SlicesCompact
import Derived.Lib.RowBridge
import Derived.Lib.AppendZerosOnto
import Derived.Lib.Overlaps
import Derived.Scope
import Derived.Control
import Derived.Test.YtoegpalacppllaaRows
/- Keys of subsets, by the reference. -/
namespace Go.Proofs.Ytoegpalacppllaa
open Go.RowKit Pl
open Tr Hn
set_option maxRecDepth 10000 in
/-- headend/headendref03.down -/
theorem g_rdown (k : Kw) (v y : Nat) (hy : y < 128) (hb : belowN y v = true) : Gives Try.prog 124 [keyV k, .int .i64 (v : Int), .int .i64 (y : Int)].toArray (keyV (descK k v y)) := by
 refine gives_of Try.func124 rfl (bs := [keyV k, .int .i64 (v : Int), .int .i64 (y : Int), undef, undef, undef, undef, undef, undef, undef, undef, undef, undef, undef, undef, undef, undef, undef, undef, undef, undef, undef, undef, undef, undef]) rfl ?_
 intro w hW
 have hl6 := lev_le hy
 refine c_seq (c_reg ?_)
 refine xB hW ?_
 intro g1 W hW
 refine l_alloc hW tyZ37 rfl rfl rfl ?_
 intro g2 W hW
 refine l_end (n_then (c_seq (c_reg ?_)))
 refine aI ?_
 refine aI ?_
 refine l_callX hW (g_rPath v y hy hb) en130 trivial rfl rfl rfl rfl ?_
 rintro _ _ W ⟨ap, cp, rfl, hO⟩ hW
 obtain ⟨gp, cur, rfl, rfl, -, -, htk⟩ := hO.row (by omega)
 refine bS ?_
 refine l_end (n_then (c_seq (c_seq (c_reg ?_))))
 refine bI ?_
 refine l_end (n_then (c_block ?_))
 refine c_loop (fun (i : Nat) (j : Nat → Value) => [keyV k, .int .i64 (v : Int), .int .i64 (y : Int), .pointer (some ⟨g1, 0, none⟩), j 4, j 5, .pointer (some ⟨g2, 0, none⟩), .slice (some ⟨gp, 0, none⟩) ((lev y - lev v) + 1) cp, .int .i64 ((i + 1 : Nat) : Int), .int .i64 (v : Int), .int .i64 (y : Int), .slice (some ⟨gp, 0, none⟩) ((lev y - lev v) + 1) cp, j 12, j 13, j 14, j 15, j 16, j 17, j 18, j 19, j 20, j 21, j 22, j 23, j 24]) (fun (i : Nat) => [⟨g2, z37, 37⟩, ⟨g1, kc (dk k y (lev y - lev v) i), 37⟩, ⟨gp, cur, 3⟩]) (fun (i : Nat) => i ≤ (lev y - lev v)) (fun (i : Nat) => (lev y - lev v) - i) 0 (by kernel_rfl) hW (Nat.zero_le _) ?_
 intro i j W hx hW
 refine c_seq (c_seq (c_reg ?_))
 refine aI ?_
 refine aS ?_
 refine l_val (r_lenSlice Try.underlying35 rfl rfl) rfl rfl ?_
 refine l_val (r_lssN rfl rfl rfl rfl) rfl rfl ?_
 refine l_split ?_ ?_
 ·intro hc1
  replace hc1 := of_decide_eq_true hc1
  have hlt := Nat.lt_of_le_of_lt (sh_le y ((lev y - lev v) - (i + 1))) hy
  refine l_end (n_then ?_)
  refine c_true rfl ?_
  refine c_skip (n_then (c_seq (c_block ?_)))
  refine c_regY hW [1] [.r, .q, .q, .q, .q, .q, .s] [0, 0, 0, 6, 14, 31, 63] (by kernel_rfl) (by kernel_rfl) ?_
  refine y_loadA1 1 tyA37 rfl rfl rfl rfl rfl (by first | rfl | exact kc_len _ | exact kcf_len _ | exact boC_len _ _ | (simp; done)) ?_
  refine yS ?_
  refine yI ?_
  refine y_val (r_indexAddrSl1 (n := i + 1) Try.underlying35 tyC3.size rfl rfl rfl (by omega)) rfl rfl ?_
  refine y_loadC 2 tyC3 (v := .int .i64 ((sh y ((lev y - lev v) - (i + 1)) : Nat) : Int)) rfl rfl rfl rfl rfl (take_get htk (path_get (by omega))) (by decide) ?_
  refine y_call (g_rstep (dk k y (lev y - lev v) i) (sh y ((lev y - lev v) - (i + 1)))) en141 rfl rfl rfl rfl ?_
  refine y_storeA 1 tyA37 rfl rfl rfl rfl rfl rfl (by first | rfl | exact kc_len _ | exact kcf_len _ | exact boC_len _ _ | (simp; done)) (by first | rfl | exact kc_len _ | exact kcf_len _ | exact boC_len _ _ | (simp; done)) (by first | exact kc_one _ | exact kcf_one _ | exact boC_one _ _ | (simp [Value.oneCell']; done)) (by decide) ?_
  refine y_end ?_
  intro W hW
  refine n_block (n_then (c_reg ?_))
  refine aI ?_
  refine l_val (r_addN (n := 1) rfl rfl rfl (by omega)) rfl rfl ?_
  refine bI ?_
  refine l_end (n_then ?_)
  exact loop_next (i + 1) (by kernel_rfl) hW (by omega) (by omega)
 ·intro hc1
  replace hc1 := of_decide_eq_false hc1
  have hie : i = (lev y - lev v) := by omega
  rw [hie] at hW
  refine l_end (n_then ?_)
  refine c_false rfl ?_
  refine c_exit (x_then (x_then ?_))
  refine x_hit ?_
  refine n_then (c_seq (c_reg ?_))
  refine dA hW 1 tyA37 ?_
  refine sA hW 0 tyA37 ?_
  intro W hW
  refine l_end (n_then (c_ret ?_))
  refine rC hW 0 tyA37 ?_
  exact ⟨rfl, hW.below⟩

set_option maxRecDepth 10000 in
/-- headend/headendref03.label -/
theorem g_rlabel (k : Kw) (v y : Nat) (hy : y < 128) (hb : belowN y v = true) : Gives Try.prog 96 [keyV k, .int .i64 (v : Int), .int .i64 (y : Int)].toArray (keyV (descK (derive k 30 (BitVec.ofNat 64 v)) v y)) := by
 refine gives_of Try.func96 rfl (bs := [keyV k, .int .i64 (v : Int), .int .i64 (y : Int), undef, undef, undef, undef, undef, undef, undef, undef, undef, undef, undef]) rfl ?_
 intro w hW
 refine c_seq (c_reg ?_)
 refine xB hW ?_
 intro g1 W hW
 refine l_alloc hW tyZ37 rfl rfl rfl ?_
 intro g2 W hW
 refine l_end (n_then (c_seq (c_reg ?_)))
 refine dA hW 1 tyA37 ?_
 refine aI ?_
 refine l_val (r_conv_i64_u64 Try.underlying3 Try.underlying22 rfl rfl) rfl rfl ?_
 refine l_call hW (g_rDerive k 30 (BitVec.ofNat 64 v)) en63 rfl rfl rfl rfl ?_
 intro W hW
 refine aI ?_
 refine aI ?_
 refine l_call hW (g_rdown (derive k 30 (BitVec.ofNat 64 v)) v y hy hb) en124 rfl rfl rfl rfl ?_
 intro W hW
 refine sA hW 0 tyA37 ?_
 intro W hW
 refine l_end (n_then (c_ret ?_))
 refine rC hW 0 tyA37 ?_
 exact ⟨rfl, hW.below⟩

set_option maxRecDepth 10000 in
/-- headend/headendref03.KeyOf -/
theorem g_rKeyOf (s : Sc) (k : Kw) (v x : Nat) (hx2 : x < 128) (hb : s.k ≠ 1 → x ≠ 0 → belowN x v = true) : Gives Try.prog 62 [keyV k, .agg [.int .u8 s.k, .int .i64 s.d, .int .i64 s.g, .int .u64 s.p, .int .u64 s.q, .int .u64 s.r].toArray, .agg [.int .i64 (v : Int), .int .i64 (x : Int)].toArray].toArray (keyV (keyN k s v x)) := by
 refine gives_of Try.func62 rfl (bs := [keyV k, .agg [.int .u8 s.k, .int .i64 s.d, .int .i64 s.g, .int .u64 s.p, .int .u64 s.q, .int .u64 s.r].toArray, .agg [.int .i64 (v : Int), .int .i64 (x : Int)].toArray, undef, undef, undef, undef, undef, undef, undef, undef, undef, undef, undef, undef, undef, undef, undef, undef, undef, undef, undef, undef, undef, undef, undef, undef]) rfl ?_
 intro w hW
 refine c_seq (c_reg ?_)
 refine xB hW ?_
 intro g1 W hW
 refine xB hW ?_
 intro g2 W hW
 refine xB hW ?_
 intro g3 W hW
 refine l_alloc hW tyZ37 rfl rfl rfl ?_
 intro g4 W hW
 refine l_end (n_then (c_seq (c_seq (c_reg ?_))))
 refine l_val (r_fieldAddr 0 Try.underlying26 rfl tyC5.size rfl rfl rfl) rfl rfl ?_
 refine dC hW 2 tyC5 ?_
 refine l_val (r_eql rfl rfl rfl rfl) rfl rfl ?_
 refine l_split ?_ ?_
 ·intro hc1
  replace hc1 := of_decide_eq_true hc1
  refine l_end (n_then ?_)
  refine c_true rfl ?_
  refine c_seq (c_reg ?_)
  refine dA hW 3 tyA37 ?_
  refine l_val (r_fieldAddr 0 Try.underlying112 rfl tyC3.size rfl rfl rfl) rfl rfl ?_
  refine dC hW 1 tyC3 ?_
  refine l_val (r_conv_i64_u64 Try.underlying3 Try.underlying22 rfl rfl) rfl rfl ?_
  refine l_call hW (g_rDerive k 30 (BitVec.ofNat 64 v)) en63 rfl rfl rfl rfl ?_
  intro W hW
  refine sA hW 0 tyA37 ?_
  intro W hW
  refine l_end (n_then (c_ret (r_then ?_)))
  refine rC hW 0 tyA37 ?_
  exact ⟨by rw [key_1 hc1]; rfl, hW.below⟩
 ·intro hc1
  replace hc1 := of_decide_eq_false hc1
  refine l_end (n_then ?_)
  refine c_false rfl ?_
  refine c_skip (n_then (c_seq (c_seq (c_reg ?_))))
  refine l_val (r_fieldAddr 1 Try.underlying112 rfl tyC3.size rfl rfl rfl) rfl rfl ?_
  refine dC hW 1 tyC3 ?_
  refine l_val (r_eqlN (n := 0) rfl rfl rfl rfl) rfl rfl ?_
  refine l_split ?_ ?_
  ·intro hc2
   replace hc2 := of_decide_eq_true hc2
   refine l_end (n_then ?_)
   refine c_true rfl ?_
   refine c_seq (c_reg ?_)
   refine dA hW 3 tyA37 ?_
   refine l_call hW (g_rDerive k 34 0) en63 rfl rfl rfl rfl ?_
   intro W hW
   refine sA hW 0 tyA37 ?_
   intro W hW
   refine l_end (n_then (c_ret (r_then ?_)))
   refine rC hW 0 tyA37 ?_
   exact ⟨by rw [key_0 hc1 hc2]; rfl, hW.below⟩
  ·intro hc2
   replace hc2 := of_decide_eq_false hc2
   refine l_end (n_then ?_)
   refine c_false rfl ?_
   refine c_skip (n_then (c_seq (c_reg ?_)))
   refine dA hW 3 tyA37 ?_
   refine l_val (r_fieldAddr 0 Try.underlying112 rfl tyC3.size rfl rfl rfl) rfl rfl ?_
   refine dC hW 1 tyC3 ?_
   refine l_val (r_fieldAddr 1 Try.underlying112 rfl tyC3.size rfl rfl rfl) rfl rfl ?_
   refine dC hW 1 tyC3 ?_
   refine l_call hW (g_rlabel k v x hx2 (hb hc1 hc2)) en96 rfl rfl rfl rfl ?_
   intro W hW
   refine l_call hW (g_rDerive (descK (derive k 30 (BitVec.ofNat 64 v)) v x) 33 0) en63 rfl rfl rfl rfl ?_
   intro W hW
   refine sA hW 0 tyA37 ?_
   intro W hW
   refine l_end (n_then (c_ret ?_))
   refine rC hW 0 tyA37 ?_
   exact ⟨by rw [key_n hc1 hc2]; rfl, hW.below⟩

theorem g_rKeyOfZ (s : Sc) (k : Kw) (v x : Int) (hs : schB s = true) (hsub : subB s v x = true) : Gives Try.prog 62 [keyV k, .agg [.int .u8 s.k, .int .i64 s.d, .int .i64 s.g, .int .u64 s.p, .int .u64 s.q, .int .u64 s.r].toArray, .agg [.int .i64 v, .int .i64 x].toArray].toArray (keyV (keyN k s v.toNat x.toNat)) := by
 obtain ⟨hx1, hx2, hx3, hx4⟩ := sub_x (schB_iff.1 hs).2.2.2.1 hsub
 obtain ⟨v', rfl⟩ : ∃ n : Nat, v = n := ⟨v.toNat, by omega⟩
 obtain ⟨x', rfl⟩ : ∃ n : Nat, x = n := ⟨x.toNat, by omega⟩
 exact g_rKeyOf s k v' x' (by omega) fun h1 h2 => sub_below hsub h1 (by omega)
end Go.Proofs.Ytoegpalacppllaa

/- Lists of subsets, by the reference. -/
namespace Go.Proofs.Ytoegpalacppllaa
open Go.RowKit Pl
open Tr Hn
set_option maxRecDepth 10000 in
/-- headend/headendref08.subsets -/
theorem g_rsubsets (s : Sc) (ba : Option Addr) (bn bc : Nat) (l : List (Int × Int)) (hs : schB s = true) (hl : l.length ≤ 100) : GivesR Try.prog 42 [.agg [.int .u8 s.k, .int .i64 s.d, .int .i64 s.g, .int .u64 s.p, .int .u64 s.q, .int .u64 s.r].toArray, .slice ba bn bc].toArray (fun w => RdB w ⟨ba, bn, bc⟩ l) (.int .i64 (subsE s l)) := by
 refine givesR_of Try.func42 rfl (bs := [.agg [.int .u8 s.k, .int .i64 s.d, .int .i64 s.g, .int .u64 s.p, .int .u64 s.q, .int .u64 s.r].toArray, .slice ba bn bc, undef, undef, undef, undef, undef, undef, undef, undef, undef, undef, undef, undef, undef, undef, undef, undef, undef, undef, undef, undef]) rfl ?_
 intro w hP hW
 have hn : bn = l.length := hP.len
 refine c_seq (c_reg ?_)
 refine xB hW ?_
 intro g1 W hW
 refine bI ?_
 refine l_end (n_then (c_seq (c_seq (c_reg ?_))))
 refine aS ?_
 refine l_val (r_lenSlice Try.underlying40 rfl rfl) rfl rfl ?_
 refine l_val (r_gtrN (n := 64) rfl rfl rfl rfl) rfl rfl ?_
 refine l_split ?_ ?_
 ·intro hc1
  replace hc1 := of_decide_eq_true hc1
  refine l_end (n_then ?_)
  refine c_true rfl ?_
  refine c_seq (c_reg ?_)
  refine bI ?_
  refine l_end (n_then (c_ret (r_then ?_)))
  refine ret_tmp (v := .int .i64 (subsE s l)) rfl ?_ ⟨rfl, hW.below⟩
  rw [subsE_many (by omega)]; rfl
 ·intro hc1
  replace hc1 := of_decide_eq_false hc1
  refine l_end (n_then ?_)
  refine c_false rfl ?_
  refine c_skip (n_then (c_seq (c_seq (c_reg ?_))))
  refine bI ?_
  refine l_end (n_then (c_block ?_))
  refine c_loop (fun (i : Nat) (j : Nat → Value) => [.agg [.int .u8 s.k, .int .i64 s.d, .int .i64 s.g, .int .u64 s.p, .int .u64 s.q, .int .u64 s.r].toArray, .slice ba bn bc, .pointer (some ⟨g1, 0, none⟩), j 3, j 4, .int .i64 (i : Int), .slice ba bn bc, j 7, .bool false, j 9, j 10, j 11, j 12, j 13, j 14, j 15, j 16, j 17, j 18, j 19, j 20, j 21]) (fun (i : Nat) => [⟨g1, [.int .u8 s.k, .int .i64 s.d, .int .i64 s.g, .int .u64 s.p, .int .u64 s.q, .int .u64 s.r], 26⟩]) (fun (i : Nat) => i ≤ bn ∧ ∀ k, k < i → subB s (qn l k) (qm l k) = true) (fun (i : Nat) => bn - i) 0 (by kernel_rfl) hW ⟨by omega, all_zero⟩ ?_
  intro i j W hx hW
  refine c_seq (c_seq (c_reg ?_))
  refine aI ?_
  refine aS ?_
  refine l_val (r_lenSlice Try.underlying40 rfl rfl) rfl rfl ?_
  refine l_val (r_lssN rfl rfl rfl rfl) rfl rfl ?_
  refine l_split ?_ ?_
  ·intro hc2
   replace hc2 := of_decide_eq_true hc2
   obtain ⟨b0, o0, ha, hc⟩ := hP.ptr (by omega)
   simp only at ha
   subst ha
   refine l_end (n_then ?_)
   refine c_true rfl ?_
   refine c_skip (n_then (c_seq (c_block (c_seq ?_))))
   refine c_regY hW [] [.q, .q, .q, .q, .q, .q, .q] [0, 0, 0, 6, 14, 31, 63] (by kernel_rfl) (by kernel_rfl) ?_
   refine y_loadA 0 tyA26 rfl rfl rfl rfl rfl (by first | rfl | exact kc_len _ | exact kcf_len _ | exact boC_len _ _ | (simp; done)) (by decide) ?_
   refine yS ?_
   refine yI ?_
   refine y_val (r_indexAddrSlB (n := i) Try.underlying40 tyA112.size rfl rfl rfl (by omega)) rfl rfl ?_
   refine y_loadF2 tyA112 (hc i (by omega)).1 (hc i (by omega)).2 (by kernel_rfl) rfl rfl rfl ?_
   refine y_call (g_rIsSubset _ _ _ hs) en75 rfl rfl rfl rfl ?_
   refine y_split ?_ ?_
   ·intro hc3
    refine y_val (r_not rfl rfl) rfl rfl ?_
    refine y_end ?_
    intro W hW
    refine n_then ?_
    refine c_false rfl ?_
    refine c_skip (n_block (n_then (c_reg ?_)))
    refine aI ?_
    refine l_val (r_addN (n := 1) rfl rfl rfl (by omega)) rfl rfl ?_
    refine bI ?_
    refine l_end (n_then ?_)
    exact loop_next (i + 1) (by kernel_rfl) hW ⟨by omega, all_upto hx.2 (by simpa using hc3)⟩ (by omega)
   ·intro hc3
    refine y_val (r_not rfl rfl) rfl rfl ?_
    refine y_end ?_
    intro W hW
    refine n_then ?_
    refine c_true rfl ?_
    refine c_seq (c_reg ?_)
    refine bI ?_
    refine l_end (n_then (c_ret (r_block (r_then (r_then (r_block (r_then ?_)))))))
    refine ret_tmp (v := .int .i64 (subsE s l)) rfl ?_ ⟨rfl, hW.below⟩
    rw [subsE_no (i := i) (by omega) (by omega) hc3]; rfl
  ·intro hc2
   replace hc2 := of_decide_eq_false hc2
   refine l_end (n_then ?_)
   refine c_false rfl ?_
   refine c_exit (x_then (x_then ?_))
   refine x_hit ?_
   refine n_then (c_seq (c_reg ?_))
   refine bI ?_
   refine l_end (n_then (c_ret ?_))
   refine ret_tmp (v := .int .i64 (subsE s l)) rfl ?_ ⟨rfl, hW.below⟩
   rw [subsE_yes (by omega) fun k hk => hx.2 k (by omega)]; rfl

end Go.Proofs.Ytoegpalacppllaa

/- A region that draws its order, with a chain of quiet operations that may come at any time beside the rest. No function of the program is in sight here. -/
namespace Go.Proofs.Ytoegpalacppllaa
open Go.RowKit

/-- a quiet operation: its place, itself, its value -/
abbrev Zl := List (Nat × Oper × Value)
def ZokL (P : Program) (w0 : Base) (S : List Nat) (L0 : List Blk) : Act → Zl → Prop
  | _, [] => True
  | a, x :: l => Zok P w0 S L0 a x.2.1 x.2.2 ∧ ZokL P w0 S L0 (a.put x.2.1.dst x.2.2) l
section
variable {P : Program} {ops : Array Oper} {Q : Exit → Act → World → Prop} {a : Act} {w0 : Base} {W : World} {L : List Blk} {md : Region.Mode} {S : List Nat} {r : Option (Option Nat)} {m : Nat} {ms : List Mk} {bs : List Value} {us : List (Nat × Value)} {ds : List Deferred}

theorem ZokL.putK {L0 : List Blk} {k : Kd} {dst : Option Tmp} {v : Value} : ∀ (l : Zl) (a : Act), (∀ x ∈ l, (∀ cs b, x.2.1.op ≠ .select cs b) ∧ (∀ d, dst = some d → d ∉ x.2.1.looksAt ops) ∧ (∀ d, x.2.1.dst = some d → dst ≠ some d)) → ZokL P w0 S L0 a l → ZokL P w0 S L0 (putK k a dst v) l
  | [], _, _, _ => trivial
  | x :: l, a, hx, h => by
    obtain ⟨h1, h2, h3⟩ := hx x (by simp)
    refine ⟨?_, ?_⟩
    · intro L2 w hs hc
      have e : execOp (Go.Proofs.Ytoegpalacppllaa.putK k a dst v).eval x.2.1 = execOp a.eval x.2.1 := by
        cases k <;> first | rfl | exact execOp_put x.2.1 h1 a dst v h2
      rw [e]; exact h.1 L2 w hs hc
    · have hc : (Go.Proofs.Ytoegpalacppllaa.putK k a dst v).put x.2.1.dst x.2.2 = Go.Proofs.Ytoegpalacppllaa.putK k (a.put x.2.1.dst x.2.2) dst v := (putK_comm (a := a) (j := Kd.q) (k := k) (x := x.2.1.dst) (y := dst) x.2.2 v h3).symm
      rw [hc]
      exact ZokL.putK l _ (fun y hy => hx y (by simp [hy])) h.2

/-! ### a region -/
def Zat (ops : Array Oper) : Zl → Prop
  | [] => True
  | x :: l => ops[x.1]? = some x.2.1 ∧ Zat ops l
def ZevL (P : Program) (w0 : Base) (S : List Nat) (L : List Blk) (bs : List Value) : List (Nat × Value) → Zl → Prop
  | _, [] => True
  | us, x :: l => (∀ L2 w, Sim S L L2 → Cl w0 L2 w → (execOp (ev bs us) x.2.1).run P w = .ok (.value x.2.2) w) ∧ ∃ d, x.2.1.dst = some d ∧ ZevL P w0 S L bs ((d, x.2.2) :: us) l
theorem ZevL.ok : ∀ (l : Zl) (us : List (Nat × Value)), ZevL P w0 S L bs us l → ZokL P w0 S L (fr bs us ds) l
  | [], _, _ => trivial
  | x :: l, us, ⟨h, d, hd, hl⟩ => ⟨fun L2 w hs hc => by rw [eval_ev]; exact h L2 w hs hc, by rw [hd, put_st]; exact ZevL.ok l _ hl⟩
theorem Zat.mem {l : Zl} (h : Zat ops l) : ∀ x ∈ l, ops[x.1]? = some x.2.1 := by
  induction l with
  | nil => intro x hx; cases hx
  | cons y l ih =>
    intro x hx
    rcases List.mem_cons.1 hx with rfl | hx
    · exact h.1
    · exact ih h.2 x hx
end
end Go.Proofs.Ytoegpalacppllaa

/- A region that draws its order, with a new variable that may be made at any time beside the rest. No function of the program is in sight here. -/
namespace Go.Proofs.Ytoegpalacppllaa
open Go.RowKit

section
variable {P : Program} {ops : Array Oper} {Q : Exit → Act → World → Prop} {a : Act} {w0 : Base} {W : World} {L : List Blk} {md : Region.Mode} {S : List Nat} {r : Option (Option Nat)} {m : Nat} {ms : List Mk} {bs : List Value} {us : List (Nat × Value)} {ds : List Deferred}

def noS : Kd → Bool
  | .s => false
  | _ => true
/-- more blocks behind those that are known -/
theorem StepK.more {k : Kd} {o : Oper} {s s' : St} {v : Value} (E : List Blk) (hk : noS k = true) (h : StepK P ops w0 S ms k o a s v s') : StepK P ops w0 S ms k o a (s.1 ++ E, s.2) v (s'.1 ++ E, s'.2) := by
  have hs : ∀ {L2}, Sim S (s.1 ++ E) L2 → Sim S s.1 L2 := fun h => (Sim.more S s.1 E).trans h
  cases k with
  | q => exact ⟨fun L2 hL => h.1 L2 (hs hL), by rw [h.2]⟩
  | r => exact ⟨fun N => by rw [List.append_assoc]; exact h.1 (E ++ N), by rw [h.2]⟩
  | s => cases hk
  | mk i =>
    obtain ⟨h1, h2, k, z, h3, h4, h5⟩ := h
    exact ⟨h1, by rw [h2], k, z, h3, h4, fun L2 hL => h5 L2 (hs hL)⟩
  | mkd i j =>
    obtain ⟨h1, h2, k, z, kj, zj, h3, h4, h5, h6, h7⟩ := h
    exact ⟨h1, by rw [h2], k, z, kj, zj, h3, h4, h5, h6, fun u Bs L2 hL hX => h7 u Bs L2 (hs hL) hX⟩
  | st i =>
    obtain ⟨h1, k, vs, h3, h4, h5⟩ := h
    exact ⟨h1, k, vs, h3, h4, by rw [h5]⟩
  | rd i =>
    obtain ⟨h1, k, z, h3, h4, h5⟩ := h
    exact ⟨by rw [h1], k, z, h3, h4, fun u Bs L2 hL hX => h5 u Bs L2 (hs hL) hX⟩
  | tail => exact h.elim
end
end Go.Proofs.Ytoegpalacppllaa

/-
  DERIVED: THE SHELF's CONTRACTS AT THIS DUMP, IN PLAIN WORDS (tools/lay-plain.mjs out of 'TryShelf.lean', which tools/lay-shelf.mjs wrote): THE SAME DECLARATIONS UNDER THE SAME NAMES: 'import', 'namespace', 'open', 'def', 'theorem' AND NOTHING ELSE: no command of the shelf's: FOR A HAND-IN. Each laying: the table of numbers ('.._ren') and one theorem, a field a fact of the dump's own or the kernel's comparison; each contract: ONE APPLICATION.
-/
namespace Go.Proofs
open Go.Shelf
def Try.lays125_ren : Go.Shelf.Ren := ⟨fun | 125 => 135 | 128 => 151 | 129 => 152 | n => n, fun | 46 => 169 | 3 => 3 | 51 => 207 | 53 => 22 | 4 => 4 | 5 => 5 | 9 => 9 | n => n, fun | n => n⟩
theorem Try.lays125 : Go.Proofs.Lays.n125 Try.prog Try.lays125_ren := {
  mixed := by kernel_rfl
  f125 := Try.func135.trans (congrArg some (by kernel_rfl))
  f128 := Try.func151.trans (congrArg some (by kernel_rfl))
  f129 := Try.func152.trans (congrArg some (by kernel_rfl))
  t3 := Try.underlying3
  a3 := Try.isAgg3
  z3 := Try.sizeOf3
  v3 := Try.zeroValue3
  t4 := Try.underlying4
  a4 := Try.isAgg4
  z4 := Try.sizeOf4
  v4 := Try.zeroValue4
  t5 := Try.underlying5
  a5 := Try.isAgg5
  z5 := Try.sizeOf5
  v5 := Try.zeroValue5
  t9 := Try.underlying9
  a9 := Try.isAgg9
  z9 := Try.sizeOf9
  v9 := Try.zeroValue9
  t46 := Try.underlying169
  a46 := Try.isAgg169
  z46 := Try.sizeOf169
  v46 := Try.zeroValue169
  t51 := Try.underlying207
  a51 := Try.isAgg207
  z51 := Try.sizeOf207
  v51 := Try.zeroValue207
  t53 := Try.underlying22
  a53 := Try.isAgg22
  z53 := Try.sizeOf22
  v53 := Try.zeroValue22 }
/-- bits.Len: "Len returns the minimum number of bits required to represent x; the result is 0 for x == 0.": IT RETURNS 'Lib.bitLen x'; the world is as it was. (A uint has 64 bits in the model.) ITS CALLEE bits.Len64 IS MET BY ITS OWN CONTRACT OFF THE SHELF (lay that first). (LAID: no walk: one application.) -/
theorem Try.bits_Len (x : Int) (w : World) (h0 : 0 ≤ x) (h1 : x ≤ 18446744073709551615) :
    Calls Try.prog 135 #[.int .u64 x] w fun e w' => e = .returned (.int .i64 (Lib.bitLen x.toNat)) ∧ w' = w := Any.bits_Len Try.lays125 x w h0 h1
def Try.lays189_ren : Go.Shelf.Ren := ⟨fun | 189 => 113 | 125 => 135 | 257 => 134 | 128 => 151 | 129 => 152 | 294 => 143 | 295 => 144 | 296 => 145 | 297 => 146 | 298 => 147 | 299 => 148 | 216 => 105 | 300 => 149 | 301 => 150 | 328 => 157 | 329 => 158 | 330 => 159 | 331 => 160 | 332 => 161 | 215 => 127 | 343 => 162 | n => n, fun | 28 => 35 | 3 => 3 | 46 => 169 | 0 => 0 | 51 => 207 | 53 => 22 | 4 => 4 | 183 => 201 | 182 => 200 | 131 => 134 | 5 => 5 | 9 => 9 | 218 => 211 | 222 => 215 | 228 => 217 | 229 => 30 | n => n, fun | n => n⟩
theorem Try.lays189 : Go.Proofs.Lays.n189 Try.prog Try.lays189_ren := {
  mixed := by kernel_rfl
  f125 := Try.func135.trans (congrArg some (by kernel_rfl))
  f128 := Try.func151.trans (congrArg some (by kernel_rfl))
  f129 := Try.func152.trans (congrArg some (by kernel_rfl))
  f189 := Try.func113.trans (congrArg some (by kernel_rfl))
  f215 := Try.func127.trans (congrArg some (by kernel_rfl))
  f216 := Try.func105.trans (congrArg some (by kernel_rfl))
  f257 := Try.func134.trans (congrArg some (by kernel_rfl))
  f294 := Try.func143.trans (congrArg some (by kernel_rfl))
  f295 := Try.func144.trans (congrArg some (by kernel_rfl))
  f296 := Try.func145.trans (congrArg some (by kernel_rfl))
  f297 := Try.func146.trans (congrArg some (by kernel_rfl))
  f298 := Try.func147.trans (congrArg some (by kernel_rfl))
  f299 := Try.func148.trans (congrArg some (by kernel_rfl))
  f300 := Try.func149.trans (congrArg some (by kernel_rfl))
  f301 := Try.func150.trans (congrArg some (by kernel_rfl))
  f328 := Try.func157.trans (congrArg some (by kernel_rfl))
  f329 := Try.func158.trans (congrArg some (by kernel_rfl))
  f330 := Try.func159.trans (congrArg some (by kernel_rfl))
  f331 := Try.func160.trans (congrArg some (by kernel_rfl))
  f332 := Try.func161.trans (congrArg some (by kernel_rfl))
  f343 := Try.func162.trans (congrArg some (by kernel_rfl))
  t0 := Try.underlying0
  a0 := Try.isAgg0
  z0 := Try.sizeOf0
  v0 := Try.zeroValue0
  t3 := Try.underlying3
  a3 := Try.isAgg3
  z3 := Try.sizeOf3
  v3 := Try.zeroValue3
  t4 := Try.underlying4
  a4 := Try.isAgg4
  z4 := Try.sizeOf4
  v4 := Try.zeroValue4
  t5 := Try.underlying5
  a5 := Try.isAgg5
  z5 := Try.sizeOf5
  v5 := Try.zeroValue5
  t9 := Try.underlying9
  a9 := Try.isAgg9
  z9 := Try.sizeOf9
  v9 := Try.zeroValue9
  t28 := Try.underlying35
  a28 := Try.isAgg35
  z28 := Try.sizeOf35
  v28 := Try.zeroValue35
  t46 := Try.underlying169
  a46 := Try.isAgg169
  z46 := Try.sizeOf169
  v46 := Try.zeroValue169
  t51 := Try.underlying207
  a51 := Try.isAgg207
  z51 := Try.sizeOf207
  v51 := Try.zeroValue207
  t53 := Try.underlying22
  a53 := Try.isAgg22
  z53 := Try.sizeOf22
  v53 := Try.zeroValue22
  t131 := Try.underlying134
  a131 := Try.isAgg134
  z131 := Try.sizeOf134
  v131 := Try.zeroValue134
  t182 := Try.underlying200
  a182 := Try.isAgg200
  z182 := Try.sizeOf200
  v182 := Try.zeroValue200
  t183 := Try.underlying201
  a183 := Try.isAgg201
  z183 := Try.sizeOf201
  v183 := Try.zeroValue201
  t218 := Try.underlying211
  a218 := Try.isAgg211
  z218 := Try.sizeOf211
  v218 := Try.zeroValue211
  t222 := Try.underlying215
  a222 := Try.isAgg215
  z222 := Try.sizeOf215
  v222 := Try.zeroValue215
  t228 := Try.underlying217
  a228 := Try.isAgg217
  z228 := Try.sizeOf217
  v228 := Try.zeroValue217
  t229 := Try.underlying30
  a229 := Try.isAgg30
  z229 := Try.sizeOf30
  v229 := Try.zeroValue30 }
open Go.Sort Go.RowKit in
theorem Try.slices_Sort_int (blk off cap : Nat) (zs : List Int) (w : World) (hH : Holds (Value.int .i64) w blk off zs.toArray) (hblk : blk < w.heap.size) (hsz : zs.length < 4611686018427387904) :
    Calls Try.prog 113 #[.slice (some ⟨blk, off, none⟩) zs.length cap] w fun e w' =>
      e = .returned (.tuple #[]) ∧ ∃ n os, w' = grow (putRow (Value.int .i64) (Sort.ahead w n) blk off (zs.mergeSort fun x y => decide (x ≤ y)).toArray) os := Any.slices_Sort_int Try.lays189 blk off cap zs w hH hblk hsz
def Try.laysNm220_ren : Go.Shelf.Ren := ⟨fun | 20 => 64 | n => n, fun | 22 => 35 | 3 => 3 | 4 => 4 | 0 => 0 | n => n, fun | n => n⟩
theorem Try.laysNm220 : Go.Proofs.Lays2.n20 Try.prog Try.laysNm220_ren := {
  mixed := by kernel_rfl
  f20 := Try.func64.trans (congrArg some (by kernel_rfl))
  t0 := Try.underlying0
  a0 := Try.isAgg0
  z0 := Try.sizeOf0
  v0 := Try.zeroValue0
  t3 := Try.underlying3
  a3 := Try.isAgg3
  z3 := Try.sizeOf3
  v3 := Try.zeroValue3
  t4 := Try.underlying4
  a4 := Try.isAgg4
  z4 := Try.sizeOf4
  v4 := Try.zeroValue4
  t22 := Try.underlying35
  a22 := Try.isAgg35
  z22 := Try.sizeOf35
  v22 := Try.zeroValue35
  i3 := by kernel_rfl }
open Go.RowKit Go.Lib Go.Sort in
/-- slices.Compact at []int: "Compact replaces consecutive runs of equal elements with a single copy. This is like the uniq command found on Unix. Compact modifies the contents of the slice s and returns the modified slice, which may have a smaller length. Compact zeroes the elements between the new length and the original length. The result preserves the nilness of s.": IT RETURNS THE SLICE CUT TO 'Lib.compact zs'; ITS CELLS HOLD 'Lib.compact zs', THEN ZERO VALUES up to the old length; all else is as it was, but for the count of draws. IN THE WORDS OF slices.Sort's CONTRACT ('Holds', 'putRow'): so the everyday 'slices.Sort(xs); xs = slices.Compact(xs)' goes from the one contract to the other. It asks 'zs.length ≤ cap' (every slice's: the reslicing 's[:k]' looks at it). Length 0, nil: '.._empty'. (LAID: no walk: one application.) -/
theorem Try.slices_Compact_int (blk off cap : Nat) (zs : List Int) (w : World) (hH : Holds (Value.int .i64) w blk off zs.toArray) (hsz : zs.length ≤ 9223372036854775807) (hcap : zs.length ≤ cap) :
    Calls Try.prog 64 #[.slice (some ⟨blk, off, none⟩) zs.length cap] w fun e w' => e = .returned (.slice (some ⟨blk, off, none⟩) (Lib.compact zs).length cap) ∧ ∃ q, w' = putRow (Value.int .i64) (Sort.ahead w q) blk off (Lib.compact zs ++ List.replicate (zs.length - (Lib.compact zs).length) 0).toArray := Any.slices_Compact_int Try.laysNm220 blk off cap zs w hH hsz hcap
open Go.RowKit Go.Lib Go.Sort in
/-- The same at a slice of length 0, a nil one too: it comes back as it is. (LAID: no walk: one application.) -/
theorem Try.slices_Compact_int_empty (a : Option Addr) (cap : Nat) (w : World) :
    Calls Try.prog 64 #[.slice a 0 cap] w fun e w' => e = .returned (.slice a 0 cap) ∧ w' = w := Any.slices_Compact_int_empty Try.laysNm220 a cap w
open Go.RowKit Go.Sort in
/-- .. and plain. (LAID: no walk: one application.) -/
theorem Try.slices_Sort_int_none (p : Option Addr) (cap : Nat) (w : World) :
    Calls Try.prog 113 #[.slice p 0 cap] w fun e w' => e = .returned (.tuple #[]) ∧ w' = w := Any.slices_Sort_int_none Try.lays189 p cap w
end Go.Proofs

/- Nodes and trees, by the program. -/
namespace Go.Proofs.Ytoegpalacppllaa
open Go.RowKit Pl
open Tr Hn
theorem bitLen_tab : (Tr.upto 128 fun v => Nat.ble v 0 || Nat.beq (Lib.bitLen v) (lev v + 1)) = true := by decide +kernel
theorem bitLen_lev {v : Nat} (h0 : 0 < v) (h : v < 128) : Lib.bitLen v = lev v + 1 := by
 have := Tr.upto_get bitLen_tab h
 simp only [Bool.or_eq_true, Nat.ble_eq] at this
 rcases this with h1 | h1
 ·omega
 ·exact Nat.eq_of_beq_eq_true h1
theorem g_Len (n : Nat) (h : n < 18446744073709551616) : Gives Try.prog 135 [.int .u64 (n : Int)].toArray (.int .i64 (Lib.bitLen n)) := fun w =>
 (Try.bits_Len n w (by omega) (by omega)).mono fun e w' ⟨he, hw⟩ => ⟨he, hw ▸ Below.refl _ _⟩
set_option maxRecDepth 10000 in
/-- (headend/cover.node).level -/
theorem g_plevel (v : Nat) (h0 : 0 < v) (h : v < 128) : Gives Try.prog 153 [.int .i64 (v : Int)].toArray (.int .i64 ((lev v) : Int)) := by
 refine gives_of Try.func153 rfl (bs := [.int .i64 (v : Int), undef, undef, undef, undef, undef, undef]) rfl ?_
 intro w hW
 have hb := bitLen_lev h0 h
 have hlv := lev_le h
 refine c_seq (c_reg ?_)
 refine bI ?_
 refine l_end (n_then (c_seq (c_reg ?_)))
 refine aI ?_
 refine l_val (r_conv_i64_u64 (n := v) Try.underlying177 Try.underlying169 rfl rfl) rfl rfl ?_
 rw [show (BitVec.ofNat 64 v).toNat = v by rw [BitVec.toNat_ofNat]; omega]
 refine l_call hW (g_Len v (by omega)) en135 rfl rfl rfl rfl ?_
 intro W hW
 rw [hb]
 refine l_val (r_subN (m := lev v + 1) (n := 1) rfl rfl rfl (by omega) (by omega)) rfl rfl ?_
 refine bI ?_
 refine l_end (n_then (c_ret ?_))
 refine ret_tmp (v := .int .i64 ((lev v) : Int)) rfl ?_ ⟨rfl, hW.below⟩
 rfl

set_option maxRecDepth 10000 in
/-- (headend/cover.tree).size -/
theorem g_psize (s : Sc) (h0 : 0 ≤ s.d) (h6 : s.d ≤ 6) : Gives Try.prog 125 [.agg [.int .u8 s.k, .int .i64 s.d, .int .i64 (strideN s.d : Int)].toArray].toArray (.int .i64 ((p2 s.d.toNat : Nat) : Int)) := by
 refine gives_of Try.func125 rfl (bs := [.agg [.int .u8 s.k, .int .i64 s.d, .int .i64 (strideN s.d : Int)].toArray, undef, undef, undef, undef, undef]) rfl ?_
 intro w hW
 have hp := p2_le (n := s.d.toNat) (by omega)
 refine c_seq (c_reg ?_)
 refine xB hW ?_
 intro g1 W hW
 refine bI ?_
 refine l_end (n_then (c_seq (c_reg ?_)))
 refine l_val (r_fieldAddr 1 Try.underlying124 rfl tyC3.size rfl rfl rfl) rfl rfl ?_
 refine dC hW 0 tyC3 ?_
 refine l_val (r_shlZ (m := 1) rfl rfl rfl (by omega) (by omega) (by omega)) rfl rfl ?_
 refine bI ?_
 refine l_end (n_then (c_ret ?_))
 refine ret_tmp (v := .int .i64 ((p2 s.d.toNat : Nat) : Int)) rfl ?_ ⟨rfl, hW.below⟩
 exact congrArg (fun n : Nat => Value.int .i64 (n : Int)) (Nat.one_mul _)

set_option maxRecDepth 10000 in
/-- (headend/cover.tree).leaf -/
theorem g_pleaf (s : Sc) (u : Nat) (h0 : 0 ≤ s.d) (h6 : s.d ≤ 6) (hu : u < p2 s.d.toNat) : Gives Try.prog 142 [.agg [.int .u8 s.k, .int .i64 s.d, .int .i64 (strideN s.d : Int)].toArray, .int .i64 (u : Int)].toArray (.int .i64 ((p2 s.d.toNat + u : Nat) : Int)) := by
 refine gives_of Try.func142 rfl (bs := [.agg [.int .u8 s.k, .int .i64 s.d, .int .i64 (strideN s.d : Int)].toArray, .int .i64 (u : Int), undef, undef, undef, undef, undef, undef, undef]) rfl ?_
 intro w hW
 have hp := p2_le (n := s.d.toNat) (by omega)
 refine c_seq (c_reg ?_)
 refine xB hW ?_
 intro g1 W hW
 refine bI ?_
 refine l_end (n_then (c_seq (c_reg ?_)))
 refine dA hW 0 tyA124 ?_
 refine l_call hW (g_psize s (by omega) (by omega)) en125 rfl rfl rfl rfl ?_
 intro W hW
 refine aI ?_
 refine l_val (r_addN rfl rfl rfl (by omega)) rfl rfl ?_
 refine bI ?_
 refine l_end (n_then (c_ret ?_))
 refine ret_tmp (v := .int .i64 ((p2 s.d.toNat + u : Nat) : Int)) rfl ?_ ⟨rfl, hW.below⟩
 rfl

set_option maxRecDepth 10000 in
/-- (headend/cover.tree).has -/
theorem g_phas (s : Sc) (v : Int) (h0 : 0 ≤ s.d) (h6 : s.d ≤ 6) : Gives Try.prog 136 [.agg [.int .u8 s.k, .int .i64 s.d, .int .i64 (strideN s.d : Int)].toArray, .int .i64 v].toArray (.bool (nodeB s.d v)) := by
 refine gives_of Try.func136 rfl (bs := [.agg [.int .u8 s.k, .int .i64 s.d, .int .i64 (strideN s.d : Int)].toArray, .int .i64 v, undef, undef, undef, undef, undef, undef, undef, undef, undef, undef, undef, undef]) rfl ?_
 intro w hW
 have hp := p2_le (n := s.d.toNat) (by omega)
 refine c_seq (c_reg ?_)
 refine xB hW ?_
 intro g1 W hW
 refine bB ?_
 refine l_end (n_then (c_seq (c_reg ?_)))
 refine aI ?_
 refine l_val (r_geq rfl rfl rfl rfl) rfl rfl ?_
 refine l_split ?_ ?_
 ·intro hc1
  replace hc1 := of_decide_eq_true hc1
  refine aB ?_
  refine gI ?_
  refine l_loadAG hW 0 tyA124 (by kernel_rfl) rfl rfl rfl rfl (by first | rfl | exact kc_len _ | exact kcf_len _ | exact boC_len _ _ | (simp; done)) ?_
  refine l_callG hW (g_psize s (by omega) (by omega)) en125 (by kernel_rfl) rfl rfl rfl ?_
  intro W hW
  refine l_valG (r_mulN (m := 2) rfl rfl rfl (by omega)) (by kernel_rfl) rfl ?_
  refine l_valG (r_lss rfl rfl rfl rfl) (by kernel_rfl) rfl ?_
  refine kB ?_
  refine bB ?_
  refine l_end (n_then (c_ret ?_))
  refine ret_tmp (v := .bool (nodeB s.d v)) rfl ?_ ⟨rfl, hW.below⟩
  exact congrArg Value.bool (decide_eq_decide.2 (by omega))
 ·intro hc1
  replace hc1 := of_decide_eq_false hc1
  refine aB ?_
  refine lN ?_
  refine lN ?_
  refine lN ?_
  refine lN ?_
  refine lN ?_
  refine kB ?_
  refine bB ?_
  refine l_end (n_then (c_ret ?_))
  refine ret_tmp (v := .bool (nodeB s.d v)) rfl ?_ ⟨rfl, hW.below⟩
  exact congrArg Value.bool (decide_eq_false (by omega)).symm

set_option maxRecDepth 10000 in
/-- (headend/cover.node).below -/
theorem g_pbelow (y v : Nat) (hy : 0 < y) (hy2 : y < 128) (hv : 0 < v) (hv2 : v < 128) : Gives Try.prog 137 [.int .i64 (y : Int), .int .i64 (v : Int)].toArray (.bool (belowN y v)) := by
 refine gives_of Try.func137 rfl (bs := [.int .i64 (y : Int), .int .i64 (v : Int), undef, undef, undef, undef, undef, undef, undef, undef, undef, undef, undef, undef, undef, undef, undef, undef, undef, undef, undef, undef, undef, undef, undef, undef, undef]) rfl ?_
 intro w hW
 have l1 := lev_le hy2
 have l2 := lev_le hv2
 refine c_seq (c_reg ?_)
 refine bB ?_
 refine l_end (n_then (c_seq (c_seq (c_reg ?_))))
 refine aI ?_
 refine l_val (r_lssN (n := 1) rfl rfl rfl rfl) rfl rfl ?_
 refine l_split ?_ ?_
 ·intro hc1
  replace hc1 := of_decide_eq_true hc1
  refine aB ?_
  refine lN ?_
  refine lN ?_
  refine kB ?_
  refine aB ?_
  refine lN ?_
  refine lN ?_
  refine lN ?_
  refine lN ?_
  refine lN ?_
  refine kB ?_
  refine l_end (n_then ?_)
  refine c_true rfl ?_
  refine c_seq (c_reg ?_)
  refine bB ?_
  refine l_end (n_then (c_ret (r_then ?_)))
  refine ret_tmp (v := .bool (belowN y v)) rfl ?_ ⟨rfl, hW.below⟩
  exact congrArg Value.bool (by rw [eq_comm, ← Bool.not_eq_true, below_iff]; omega)
 ·intro hc1
  replace hc1 := of_decide_eq_false hc1
  refine aB ?_
  refine gI ?_
  refine l_valG (r_lssN (n := 1) rfl rfl rfl rfl) (by kernel_rfl) rfl ?_
  refine l_split ?_ ?_
  ·intro hc2
   replace hc2 := of_decide_eq_true hc2
   refine kB ?_
   refine aB ?_
   refine lN ?_
   refine lN ?_
   refine lN ?_
   refine lN ?_
   refine lN ?_
   refine kB ?_
   refine l_end (n_then ?_)
   refine c_true rfl ?_
   refine c_seq (c_reg ?_)
   refine bB ?_
   refine l_end (n_then (c_ret (r_then ?_)))
   refine ret_tmp (v := .bool (belowN y v)) rfl ?_ ⟨rfl, hW.below⟩
   exact congrArg Value.bool (by rw [eq_comm, ← Bool.not_eq_true, below_iff]; omega)
  ·intro hc2
   replace hc2 := of_decide_eq_false hc2
   refine kB ?_
   refine aB ?_
   refine gI ?_
   refine l_callG hW (g_plevel _ (by omega) (by omega)) en153 (by kernel_rfl) rfl rfl rfl ?_
   intro W hW
   refine gI ?_
   refine l_callG hW (g_plevel _ (by omega) (by omega)) en153 (by kernel_rfl) rfl rfl rfl ?_
   intro W hW
   refine l_valG (r_lssN rfl rfl rfl rfl) (by kernel_rfl) rfl ?_
   refine l_split ?_ ?_
   ·intro hc3
    replace hc3 := of_decide_eq_true hc3
    refine kB ?_
    refine l_end (n_then ?_)
    refine c_true rfl ?_
    refine c_seq (c_reg ?_)
    refine bB ?_
    refine l_end (n_then (c_ret (r_then ?_)))
    refine ret_tmp (v := .bool (belowN y v)) rfl ?_ ⟨rfl, hW.below⟩
    exact congrArg Value.bool (by rw [eq_comm, ← Bool.not_eq_true, below_iff]; omega)
   ·intro hc3
    replace hc3 := of_decide_eq_false hc3
    refine kB ?_
    refine l_end (n_then ?_)
    refine c_false rfl ?_
    refine c_skip (n_then (c_seq (c_reg ?_)))
    refine aI ?_
    refine aI ?_
    refine l_call hW (g_plevel _ (by omega) (by omega)) en153 rfl rfl rfl rfl ?_
    intro W hW
    refine aI ?_
    refine l_call hW (g_plevel _ (by omega) (by omega)) en153 rfl rfl rfl rfl ?_
    intro W hW
    refine l_val (r_subN rfl rfl rfl (by omega) (by omega)) rfl rfl ?_
    refine l_val (r_shr_i64N (n := y) (s := lev y - lev v) rfl rfl rfl (by omega)) rfl rfl ?_
    refine aI ?_
    refine l_val (r_eqlN rfl rfl rfl rfl) rfl rfl ?_
    refine bB ?_
    refine l_end (n_then (c_ret ?_))
    refine ret_tmp (v := .bool (belowN y v)) rfl ?_ ⟨rfl, hW.below⟩
    exact congrArg Value.bool (by rw [Bool.eq_iff_iff]; simp only [decide_eq_true_eq, belowN, Bool.and_eq_true, Nat.ble_eq, Nat.beq_eq, sh_eq]; omega)

end Go.Proofs.Ytoegpalacppllaa

/- Members, by the program. -/
namespace Go.Proofs.Ytoegpalacppllaa
open Go.RowKit Pl
open Tr Hn
set_option maxRecDepth 10000 in
/-- (headend/cover.tree).special -/
theorem g_pspecial (s : Sc) (v : Nat) (hv : 0 < v) (hv2 : v < 128) : Gives Try.prog 138 [.agg [.int .u8 s.k, .int .i64 s.d, .int .i64 (strideN s.d : Int)].toArray, .int .i64 (v : Int)].toArray (.bool (specN s.d v)) := by
 refine gives_of Try.func138 rfl (bs := [.agg [.int .u8 s.k, .int .i64 s.d, .int .i64 (strideN s.d : Int)].toArray, .int .i64 (v : Int), undef, undef, undef, undef, undef, undef, undef, undef, undef]) rfl ?_
 intro w hW
 have hsp := stride_pos s.d
 refine c_seq (c_reg ?_)
 refine xB hW ?_
 intro g1 W hW
 refine bB ?_
 refine l_end (n_then (c_seq ?_))
 refine c_regY hW [] [.q, .q, .q, .q, .q, .q, .q] [0, 1, 0, 4, 15, 31, 63] (by kernel_rfl) (by kernel_rfl) ?_
 refine yI ?_
 refine y_call (g_plevel _ (by omega) (by omega)) en153 rfl rfl rfl rfl ?_
 refine y_val (r_fieldAddr 2 Try.underlying124 rfl tyC3.size rfl rfl rfl) rfl rfl ?_
 refine y_loadC 0 tyC3 rfl rfl rfl rfl rfl rfl (by decide) ?_
 refine y_val (r_remN rfl rfl rfl (by omega)) rfl rfl ?_
 refine y_val (r_eqlN (n := 0) rfl rfl rfl rfl) rfl rfl ?_
 refine y_val (r_assign (v := .bool _) rfl rfl) rfl rfl ?_
 refine y_end ?_
 intro W hW
 refine n_then (c_ret ?_)
 refine ret_tmp (v := .bool (specN s.d v)) rfl ?_ ⟨rfl, hW.below⟩
 exact congrArg Value.bool (by rw [Bool.eq_iff_iff]; simp only [decide_eq_true_eq, specN, Nat.beq_eq] <;> omega)

set_option maxRecDepth 10000 in
/-- (headend/cover.node).toward -/
theorem g_ptoward (v y : Nat) (hv : 0 < v) (hv2 : v < 128) (hy : 0 < y) (hy2 : y < 128) (h : lev v < lev y) : Gives Try.prog 156 [.int .i64 (v : Int), .int .i64 (y : Int)].toArray (.int .i64 ((sh y (lev y - lev v - 1) : Nat) : Int)) := by
 refine gives_of Try.func156 rfl (bs := [.int .i64 (v : Int), .int .i64 (y : Int), undef, undef, undef, undef, undef, undef, undef, undef, undef, undef, undef]) rfl ?_
 intro w hW
 have l1 := lev_le hy2
 refine c_seq (c_reg ?_)
 refine bI ?_
 refine l_end (n_then (c_seq (c_reg ?_)))
 refine aI ?_
 refine aI ?_
 refine l_call hW (g_plevel _ (by omega) (by omega)) en153 rfl rfl rfl rfl ?_
 intro W hW
 refine aI ?_
 refine l_call hW (g_plevel _ (by omega) (by omega)) en153 rfl rfl rfl rfl ?_
 intro W hW
 refine l_val (r_subN rfl rfl rfl (by omega) (by omega)) rfl rfl ?_
 refine l_val (r_subN (n := 1) rfl rfl rfl (by omega) (by omega)) rfl rfl ?_
 refine l_val (r_shr_i64N (n := y) (s := lev y - lev v - 1) rfl rfl rfl (by omega)) rfl rfl ?_
 refine bI ?_
 refine l_end (n_then (c_ret ?_))
 refine ret_tmp (v := .int .i64 ((sh y (lev y - lev v - 1) : Nat) : Int)) rfl ?_ ⟨rfl, hW.below⟩
 exact congrArg (fun n : Nat => Value.int .i64 (n : Int)) (sh_eq _ _).symm

set_option maxRecDepth 10000 in
/-- (headend/cover.node).below -/
theorem g_pbelow0 (y : Nat) (hy : 0 < y) : Gives Try.prog 137 [.int .i64 (y : Int), .int .i64 0].toArray (.bool false) := by
 refine gives_of Try.func137 rfl (bs := [.int .i64 (y : Int), .int .i64 0, undef, undef, undef, undef, undef, undef, undef, undef, undef, undef, undef, undef, undef, undef, undef, undef, undef, undef, undef, undef, undef, undef, undef, undef, undef]) rfl ?_
 intro w hW
 refine c_seq (c_reg ?_)
 refine bB ?_
 refine l_end (n_then (c_seq (c_seq (c_reg ?_))))
 refine aI ?_
 refine l_val (r_lssN (n := 1) rfl rfl rfl rfl) rfl rfl ?_
 refine l_split ?_ ?_
 ·intro hc1
  replace hc1 := of_decide_eq_true hc1
  omega
 ·intro hc1
  replace hc1 := of_decide_eq_false hc1
  refine aB ?_
  refine gI ?_
  refine l_valG (r_lss (b := true) rfl rfl rfl (by decide)) (by kernel_rfl) rfl ?_
  refine kB ?_
  refine aB ?_
  refine lN ?_
  refine lN ?_
  refine lN ?_
  refine lN ?_
  refine lN ?_
  refine kB ?_
  refine l_end (n_then ?_)
  refine c_true rfl ?_
  refine c_seq (c_reg ?_)
  refine bB ?_
  refine l_end (n_then (c_ret (r_then ?_)))
  refine ret_tmp (v := .bool false) rfl ?_ ⟨rfl, hW.below⟩
  rfl

/-- below, of whole numbers -/
theorem g_pbelowZ (y : Nat) (v : Int) (hy : 0 < y) (hy2 : y < 128) (hv : 0 ≤ v) (hv2 : v < 128) : Gives Try.prog 137 [.int .i64 (y : Int), .int .i64 v].toArray (.bool (!decide (v = 0) && belowN y v.toNat)) := by
 by_cases h : v = 0
 ·subst h
  exact g_pbelow0 y hy
 ·obtain ⟨v', rfl⟩ : ∃ n : Nat, v = n := ⟨v.toNat, by omega⟩
  rw [decide_eq_false h]
  exact g_pbelow y v' hy hy2 (by omega) (by omega)
set_option maxRecDepth 10000 in
/-- (headend/cover.tree).member -/
theorem g_pmember (s : Sc) (v x : Int) (u : Nat) (h0 : 0 ≤ s.d) (h6 : s.d ≤ 6) (hv : 1 ≤ v) (hv2 : v < 128) (hx0 : 0 ≤ x) (hx2 : x < 128) (hu : u < p2 s.d.toNat) : Gives Try.prog 126 [.agg [.int .u8 s.k, .int .i64 s.d, .int .i64 (strideN s.d : Int)].toArray, .agg [.int .i64 v, .int .i64 x].toArray, .int .i64 (u : Int)].toArray (.bool (memB s v x u)) := by
 refine gives_of Try.func126 rfl (bs := [.agg [.int .u8 s.k, .int .i64 s.d, .int .i64 (strideN s.d : Int)].toArray, .agg [.int .i64 v, .int .i64 x].toArray, .int .i64 (u : Int), undef, undef, undef, undef, undef, undef, undef, undef, undef, undef, undef, undef, undef, undef, undef, undef, undef, undef, undef]) rfl ?_
 intro w hW
 have hp := p2_le (n := s.d.toNat) (by omega)
 have hp0 := p2_pos s.d.toNat
 refine c_seq (c_reg ?_)
 refine xB hW ?_
 intro g1 W hW
 refine xB hW ?_
 intro g2 W hW
 refine bB ?_
 refine l_end (n_then (c_seq (c_reg ?_)))
 refine dA hW 1 tyA124 ?_
 refine aI ?_
 refine l_call hW (g_pleaf s u (by omega) (by omega) (by omega)) en142 rfl rfl rfl rfl ?_
 intro W hW
 refine bI ?_
 refine l_end (n_then (c_seq (c_reg ?_)))
 refine aI ?_
 refine l_val (r_fieldAddr 0 Try.underlying112 rfl tyC3.size rfl rfl rfl) rfl rfl ?_
 refine dC hW 0 tyC3 ?_
 refine l_call hW (g_pbelowZ (p2 s.d.toNat + u) v (by omega) (by omega) (by omega) (by omega)) en137 rfl rfl rfl rfl ?_
 intro W hW
 refine l_split ?_ ?_
 ·intro hc1
  refine aB ?_
  refine gI ?_
  refine l_valG (r_fieldAddr 1 Try.underlying112 rfl tyC3.size rfl rfl rfl) (by kernel_rfl) rfl ?_
  refine dG hW 0 tyC3 ?_
  refine l_callG hW (g_pbelowZ (p2 s.d.toNat + u) x (by omega) (by omega) (by omega) (by omega)) en137 (by kernel_rfl) rfl rfl rfl ?_
  intro W hW
  refine l_valG (r_not rfl rfl) (by kernel_rfl) rfl ?_
  refine kB ?_
  refine bB ?_
  refine l_end (n_then (c_ret ?_))
  refine ret_tmp (v := .bool (memB s v x u)) rfl ?_ ⟨rfl, hW.below⟩
  rw [decide_eq_false (show ¬ v = 0 by omega)] at hc1
  exact congrArg Value.bool (by rw [memB, show belowN (p2 s.d.toNat + u) v.toNat = true from hc1]; cases decide (x = 0) <;> simp)
 ·intro hc1
  refine aB ?_
  refine lN ?_
  refine lN ?_
  refine lN ?_
  refine lN ?_
  refine lN ?_
  refine kB ?_
  refine bB ?_
  refine l_end (n_then (c_ret ?_))
  refine ret_tmp (v := .bool (memB s v x u)) rfl ?_ ⟨rfl, hW.below⟩
  rw [decide_eq_false (show ¬ v = 0 by omega)] at hc1
  exact congrArg Value.bool (by rw [memB, show belowN (p2 s.d.toNat + u) v.toNat = false from hc1]; rfl)

set_option maxRecDepth 10000 in
/-- (headend/cover.tree).members -/
theorem g_pmembers (s : Sc) (v x : Int) (h0 : 0 ≤ s.d) (h6 : s.d ≤ 6) (hv : 1 ≤ v) (hv2 : v < 128) (hx0 : 0 ≤ x) (hx2 : x < 128) : GivesX Try.prog 99 [.agg [.int .u8 s.k, .int .i64 s.d, .int .i64 (strideN s.d : Int)].toArray, .agg [.int .i64 v, .int .i64 x].toArray].toArray (fun _ => True) (NewSl 3 1 (membersN s v x (p2 s.d.toNat)).length (il (membersN s v x (p2 s.d.toNat)))) := by
 refine givesX_of Try.func99 rfl (bs := [.agg [.int .u8 s.k, .int .i64 s.d, .int .i64 (strideN s.d : Int)].toArray, .agg [.int .i64 v, .int .i64 x].toArray, undef, undef, undef, undef, undef, undef, undef, undef, undef, undef, undef, undef, undef, undef, undef, undef, undef, undef, undef, undef]) rfl ?_
 intro w hP hW
 have hp := p2_le (n := s.d.toNat) (by omega)
 refine c_seq (c_reg ?_)
 refine xB hW ?_
 intro g1 W hW
 refine xB hW ?_
 intro g2 W hW
 refine bS ?_
 refine l_end (n_then (c_seq (c_reg ?_)))
 refine bS ?_
 refine l_end (n_then (c_seq (c_seq (c_reg ?_))))
 refine dA hW 1 tyA124 ?_
 refine l_call hW (g_psize s (by omega) (by omega)) en125 rfl rfl rfl rfl ?_
 intro W hW
 refine aI ?_
 refine l_end (n_then (c_block ?_))
 refine c_loop (fun (z : Nat × Option Addr × Nat × List Blk × Nat) (j : Nat → Value) => [.agg [.int .u8 s.k, .int .i64 s.d, .int .i64 (strideN s.d : Int)].toArray, .agg [.int .i64 v, .int .i64 x].toArray, .pointer (some ⟨g1, 0, none⟩), .pointer (some ⟨g2, 0, none⟩), j 4, .slice z.2.1 z.2.2.2.2 z.2.2.1, j 6, .agg ([.int .u8 s.k, .int .i64 s.d, .int .i64 (strideN s.d : Int)]).toArray, .int .i64 ((p2 s.d.toNat : Nat) : Int), .int .i64 (z.1 : Int), j 10, j 11, j 12, j 13, j 14, j 15, j 16, j 17, j 18, j 19, j 20, j 21]) (fun (z : Nat × Option Addr × Nat × List Blk × Nat) => [⟨g2, [.int .i64 v, .int .i64 x], 112⟩, ⟨g1, [.int .u8 s.k, .int .i64 s.d, .int .i64 (strideN s.d : Int)], 124⟩] ++ z.2.2.2.1) (fun (z : Nat × Option Addr × Nat × List Blk × Nat) => z.1 ≤ p2 s.d.toNat ∧ z.2.2.2.2 = (membersN s v x z.1).length ∧ OwnSl 3 1 z.2.1 z.2.2.2.2 z.2.2.1 (il (membersN s v x z.1)) z.2.2.2.1) (fun (z : Nat × Option Addr × Nat × List Blk × Nat) => p2 s.d.toNat - z.1) (0, none, 0, [], 0) (by kernel_rfl) (by simpa using hW) ⟨Nat.zero_le _, rfl, OwnSl.nil 3 1⟩ ?_
 intro z j W hx hW
 obtain ⟨hz, hzn, hO⟩ := hx
 refine c_seq (c_reg ?_)
 refine l_val (r_lssN rfl rfl rfl rfl) rfl rfl ?_
 refine l_split ?_ ?_
 ·intro hc1
  replace hc1 := of_decide_eq_true hc1
  refine l_end (n_then (c_seq ?_))
  refine c_true rfl ?_
  refine c_skip (n_then (c_seq (c_block (c_seq (c_reg ?_)))))
  refine aI ?_
  refine bI ?_
  refine l_end (n_then (c_seq (c_reg ?_)))
  refine dA hW 1 tyA124 ?_
  refine dA hW 0 tyA112 ?_
  refine aI ?_
  refine l_call hW (g_pmember s v x z.1 h0 h6 hv hv2 hx0 hx2 (by omega)) en126 rfl rfl rfl rfl ?_
  intro W hW
  refine l_split ?_ ?_
  ·intro hc2
   have hmx := mem_yes hc2
   have hyes := hc2
   have hml := mem_len s v x (z.1 + 1)
   refine l_end (n_then ?_)
   refine c_true rfl ?_
   refine c_reg ?_
   refine aS ?_
   refine aI ?_
   refine l_buildSliceF hW (bsl35_1_0 _) rfl rfl rfl rfl ?_
   intro gb W hW
   refine l_appendB tyE35 (L := [_, _, _]) hO hW 0 (N := (membersN s v x (z.1 + 1)).length) (by rw [mem_yes hyes, List.length_append]; simp only [List.length_cons, List.length_nil]; omega) rfl rfl rfl rfl rfl rfl rfl (by simp [Value.oneCell']) (by unfold maxLen; omega) (by omega) ?_
   intro a1 c1 Bs1 W hO1 hW
   replace hO1 := hO1.castx rfl (xs' := il (membersN s v x (z.1 + 1))) (by rw [mem_yes hyes, il_append]; rfl)
   refine bS ?_
   refine l_end (n_block (n_then (c_reg ?_)))
   refine l_val (r_addN (n := 1) rfl rfl rfl (by omega)) rfl rfl ?_
   refine aI ?_
   refine l_end (n_then ?_)
   exact loop_next (z.1 + 1, a1, c1, Bs1, (membersN s v x (z.1 + 1)).length) (by kernel_rfl) (hW.drop 1) ⟨by simp only; omega, rfl, hO1⟩ (by simp only; omega)
  ·intro hc2
   have hmx := mem_no hc2
   refine l_end (n_then ?_)
   refine c_false rfl ?_
   refine c_skip (n_block (n_then (c_reg ?_)))
   refine l_val (r_addN (n := 1) rfl rfl rfl (by omega)) rfl rfl ?_
   refine aI ?_
   refine l_end (n_then ?_)
   exact loop_next (z.1 + 1, z.2.1, z.2.2.1, z.2.2.2.1, z.2.2.2.2) (by kernel_rfl) hW ⟨by simp only; omega, by simp only [hmx]; exact hzn, by simp only [hmx]; exact hO⟩ (by simp only; omega)
 ·intro hc1
  replace hc1 := of_decide_eq_false hc1
  refine l_end (n_then (c_seq ?_))
  refine c_false rfl ?_
  refine c_exit (x_then (x_then ?_))
  refine x_hit ?_
  refine n_then (c_seq (c_reg ?_))
  refine aS ?_
  refine bS ?_
  refine l_end (n_then (c_ret ?_))
  refine ret_tmp (v := .slice _ _ _) rfl rfl ?_
  have e : z.1 = p2 s.d.toNat := by omega
  rw [← e, ← hzn]
  exact ⟨_, _, rfl, ⟨_, _, rfl, hO⟩, hW.sub (List.sublist_append_right _ _)⟩

end Go.Proofs.Ytoegpalacppllaa

/- Paths, by the program. -/
namespace Go.Proofs.Ytoegpalacppllaa
open Go.RowKit Pl
open Tr Hn
/-- the first special node of a path -/
theorem bet_first (d : Int) (w : Nat) : ∀ n, ∃ k, k ≤ n ∧ (∀ i, i < k → specN d (sh w (n - i)) = false) ∧ (k < n → specN d (sh w (n - k)) = true) ∧ bet d w n = if k < n then sh w (n - k) else 0
 | 0 => ⟨0, Nat.le_refl _, fun i hi => by omega, fun h => by omega, rfl⟩
 | n + 1 => by
  cases h : specN d (sh w (n + 1)) with
  | true => exact ⟨0, Nat.zero_le _, fun i hi => by omega, fun _ => h, by rw [bet, if_pos h, if_pos (by omega)]; rfl⟩
  | false =>
   obtain ⟨k, h1, h2, h3, h4⟩ := bet_first d w n
   refine ⟨k + 1, by omega, fun i hi => ?_, fun hk => ?_, ?_⟩
   ·cases i with
    | zero => exact h
    | succ i => rw [show n + 1 - (i + 1) = n - i by omega]; exact h2 i (by omega)
   ·rw [show n + 1 - (k + 1) = n - k by omega]; exact h3 (by omega)
   ·rw [bet, if_neg (by rw [h]; decide), h4, show n + 1 - (k + 1) = n - k by omega]
    by_cases hk : k < n
    ·rw [if_pos hk, if_pos (by omega)]
    ·rw [if_neg hk, if_neg (by omega)]
set_option maxRecDepth 10000 in
/-- headend/cover.path$1 -/
theorem j_path {w : World} (y n gf gt : Nat) (h0 : 0 < y) (hy : y < 128) (hn : n ≤ lev y) (hP : w.cell? ⟨gf, 0, none⟩ = some (.int .i64 ((sh y n : Nat) : Int)) ∧ w.cell? ⟨gt, 0, none⟩ = some (.int .i64 (y : Int))) : IterS Try.prog w 155 #[.pointer (some ⟨gf, 0, none⟩), .pointer (some ⟨gt, 0, none⟩)] n (fun i => #[.int .i64 ((sh y (n - (i + 1)) : Nat) : Int)]) := by
 refine iterS_of (lb := [.pointer (some ⟨gf, 0, none⟩), .pointer (some ⟨gt, 0, none⟩)]) (F := fun l => [.func (.yield l) #[] #[], .pointer (some ⟨gf, 0, none⟩), .pointer (some ⟨gt, 0, none⟩), undef, undef, undef, undef, undef, undef, undef, undef, undef, undef, undef, undef, undef]) Try.func155 rfl (fun l => rfl) ?_
 intro r l k J Z L0 W hk hY hZ hJ hW
 refine c_seq (c_reg ?_)
 refine l_loadF hW tyC177 (v := .int .i64 ((sh y n : Nat) : Int)) hP.1 rfl rfl rfl rfl ?_
 refine bI ?_
 refine l_end (n_then (c_block ?_))
 refine c_loop (fun (x : Nat × List Blk) (j : Nat → Value) => [.func (.yield l) #[] #[], .pointer (some ⟨gf, 0, none⟩), .pointer (some ⟨gt, 0, none⟩), j 3, .int .i64 ((sh y (n - x.1) : Nat) : Int), .int .i64 ((sh y n : Nat) : Int), j 6, j 7, j 8, j 9, j 10, j 11, j 12, j 13, j 14, j 15]) (fun (x : Nat × List Blk) => [] ++ x.2) (fun (x : Nat × List Blk) => x.1 ≤ k ∧ J x.1 x.2) (fun (x : Nat × List Blk) => k - x.1) (0, L0) (by kernel_rfl) hW ⟨Nat.zero_le _, hJ⟩ ?_
 intro x j W hx hW
 obtain ⟨hx, hJx⟩ := hx
 have hlv := sh_lev hy (i := n - x.1) (by omega)
 have hle := sh_le y (n - x.1)
 have hpos : 0 < sh y (n - x.1) := sh_pos h0 hy (by omega)
 refine c_seq (c_seq (c_reg ?_))
 refine aI ?_
 refine l_loadF hW tyC177 (v := .int .i64 (y : Int)) hP.2 rfl rfl rfl rfl ?_
 refine l_val (r_neqN rfl rfl rfl rfl) rfl rfl ?_
 refine l_split ?_ ?_
 ·intro hc1
  replace hc1 := of_decide_eq_true hc1
  have hlt : x.1 < n := Nat.lt_of_le_of_ne (by omega) fun e => hc1 (by rw [e, Nat.sub_self]; rfl)
  refine l_end (n_then ?_)
  refine c_true rfl ?_
  refine c_skip (n_then (c_block (c_seq (c_reg ?_))))
  refine aI ?_
  refine l_loadF hW tyC177 (v := .int .i64 (y : Int)) hP.2 rfl rfl rfl rfl ?_
  refine l_call hW (g_ptoward (sh y (n - x.1)) y hpos (by omega) h0 hy (by omega)) en156 rfl rfl rfl rfl ?_
  intro W hW
  rw [show lev y - lev (sh y (n - x.1)) - 1 = n - (x.1 + 1) by omega]
  refine bI ?_
  refine l_end (n_then (c_seq (c_reg ?_)))
  refine l_val (r_move (v := .func _ _ _) rfl rfl) rfl rfl ?_
  refine aI ?_
  have hYY : YieldAt Fence.wide 0 Try.prog l #[.int .i64 ((sh y (n - (x.1 + 1)) : Nat) : Int)] W (fun e W' => e = .returned (.bool (decide (x.1 < k))) ∧ ((x.1 < k ∧ ∃ Lc', J (x.1 + 1) Lc' ∧ Cl ⟨w, r⟩ Lc' W') ∨ (¬ x.1 < k ∧ Z W'))) := by
   by_cases hlk : x.1 < k
   ·obtain ⟨f1, f2, f3, f4, f5, f6⟩ := hY x.1 x.2 W hlk hJx hW
    exact ⟨f1, f2, f3, f4, f5, f6.mono fun e W' ⟨h1, h2⟩ => ⟨by rw [h1, decide_eq_true hlk], .inl ⟨hlk, h2⟩⟩⟩
   ·obtain rfl : x.1 = k := by omega
    obtain ⟨f1, f2, f3, f4, f5, f6⟩ := hZ x.2 W hlt hJx hW
    exact ⟨f1, f2, f3, f4, f5, f6.mono fun e W' ⟨h1, h2⟩ => ⟨by rw [h1, decide_eq_false hlk], .inr ⟨hlk, h2⟩⟩⟩
  refine l_yieldS hYY rfl rfl rfl rfl rfl ?_
  intro W hR
  refine l_split ?_ ?_
  ·intro hc2
   have hlk : x.1 < k := of_decide_eq_true hc2
   obtain ⟨Lc1, hJ1, hW⟩ : ∃ Lc', J (x.1 + 1) Lc' ∧ Cl ⟨w, r⟩ Lc' W := by
    rcases hR with ⟨-, h⟩ | ⟨h, -⟩
    ·exact h
    ·omega
   refine l_val (r_not rfl rfl) rfl rfl ?_
   refine l_end (n_then ?_)
   refine c_false rfl ?_
   refine c_skip (n_block (n_then ?_))
   exact loop_next (x.1 + 1, Lc1) (by kernel_rfl) hW ⟨by simp only; omega, hJ1⟩ (by simp only; omega)
  ·intro hc2
   have hlk : ¬ x.1 < k := of_decide_eq_false hc2
   have hZ1 : Z W := by
    rcases hR with ⟨h, -⟩ | ⟨-, h⟩
    ·omega
    ·exact h
   refine l_val (r_not rfl rfl) rfl rfl ?_
   refine l_end (n_then ?_)
   refine c_true rfl ?_
   refine c_ret (r_block (r_then (r_block ?_)))
   refine postM_of ?_
   refine ret_none rfl ?_
   exact ⟨⟨_, rfl⟩, .inr ⟨by omega, hZ1⟩⟩
 ·intro hc1
  replace hc1 := of_decide_eq_false hc1
  have hxn : x.1 = n := Classical.byContradiction fun hne => by rw [show sh y (n - x.1) = y by omega] at hlv; omega
  refine l_end (n_then ?_)
  refine c_false rfl ?_
  refine c_exit (x_then (x_then ?_))
  refine x_hit ?_
  refine postM_of ?_
  refine end_none rfl ?_
  exact ⟨⟨_, rfl⟩, .inl ⟨by omega, x.2, hxn ▸ hJx, hW⟩⟩

end Go.Proofs.Ytoegpalacppllaa

/- Cuts, by the program. -/
namespace Go.Proofs.Ytoegpalacppllaa
open Go.RowKit Pl
open Tr Hn
set_option maxRecDepth 10000 in
/-- headend/cover.path -/
theorem g_ppath (v y : Nat) : GivesX Try.prog 140 [.int .i64 (v : Int), .int .i64 (y : Int)].toArray (fun _ => True) (fun u Bs => ∃ g1 g2, u = .func (.func 155) #[] #[.pointer (some ⟨g1, 0, none⟩), .pointer (some ⟨g2, 0, none⟩)] ∧ Bs = [⟨g2, [.int .i64 (y : Int)], 177⟩, ⟨g1, [.int .i64 (v : Int)], 177⟩]) := by
 refine givesX_of Try.func140 rfl (bs := [.int .i64 (v : Int), .int .i64 (y : Int), undef, undef, undef, undef]) rfl ?_
 intro w hP hW
 refine c_seq (c_reg ?_)
 refine l_boxC hW (v := .int _ _) rfl rfl rfl rfl rfl ?_
 intro g1 W hW
 refine l_boxC hW (v := .int _ _) rfl rfl rfl rfl rfl ?_
 intro g2 W hW
 refine l_val (r_assign (v := .nilFunc) rfl rfl) rfl rfl ?_
 refine l_end (n_then (c_seq (c_reg ?_)))
 refine l_val (r_closure (vs := [.pointer (some ⟨g1, 0, none⟩), .pointer (some ⟨g2, 0, none⟩)]) rfl rfl) rfl rfl ?_
 refine l_val (r_assign (v := .func _ _ _) rfl rfl) rfl rfl ?_
 refine l_end (n_then (c_ret ?_))
 refine ret_tmp (v := .func _ _ _) rfl rfl ?_
 exact ⟨_, _, rfl, ⟨_, _, rfl, rfl⟩, hW⟩

set_option maxRecDepth 10000 in
/-- headend/cover.first -/
theorem g_pfirstX (s : Sc) (z n gf gt : Nat) (z0 : 1 < z) (zz : z < 128) (hn : n ≤ lev (sh z 1)) : GivesX Try.prog 154 [.func (.func 155) #[] #[.pointer (some ⟨gf, 0, none⟩), .pointer (some ⟨gt, 0, none⟩)], .func (.func 138) #[.agg [.int .u8 s.k, .int .i64 s.d, .int .i64 (strideN s.d : Int)].toArray] #[]].toArray (fun w => w.cell? ⟨gf, 0, none⟩ = some (.int .i64 ((sh (sh z 1) n : Nat) : Int)) ∧ w.cell? ⟨gt, 0, none⟩ = some (.int .i64 ((sh z 1 : Nat) : Int))) (fun v Bs => v = .int .i64 ((bet s.d z n : Nat) : Int) ∧ Bs = []) := by
 refine givesXM_of Try.func154 rfl (bs := [.func (.func 155) #[] #[.pointer (some ⟨gf, 0, none⟩), .pointer (some ⟨gt, 0, none⟩)], .func (.func 138) #[.agg [.int .u8 s.k, .int .i64 s.d, .int .i64 (strideN s.d : Int)].toArray] #[], undef, undef, undef, undef, undef, undef, undef, undef, undef, undef]) rfl ?_
 intro w hP hW
 obtain ⟨k, hkn0, hk1, hk2, hk3⟩ := bet_first s.d z n
 have hz1 : 0 < sh z 1 := by show 0 < z / 2; omega
 have hz2 : sh z 1 < 128 := by show z / 2 < 128; omega
 have hnd : ∀ i, i < n → sh z (n - i) = sh (sh z 1) (n - (i + 1)) := fun i hi => by rw [sh_add]; congr 1; omega
 refine c_seq (c_reg ?_)
 refine l_boxC hW (v := .func _ _ _) rfl rfl rfl rfl rfl ?_
 intro g1 W hW
 refine l_allocC hW tyZ177 rfl rfl rfl rfl ?_
 intro g2 W hW
 refine l_end (n_then (c_seq (c_seq (c_reg ?_))))
 refine l_val (r_move (v := .func _ _ _) rfl rfl) rfl rfl ?_
 refine l_end (n_then (c_block ?_))
 refine c_rangeS (j_path (sh z 1) n gf gt hz1 hz2 hn hP) hkn0 en155 rfl (fun _ => rfl) (fun _ Lc => Lc = [⟨g2, [z177], 177⟩, ⟨g1, [.func (.func 138) #[.agg [.int .u8 s.k, .int .i64 s.d, .int .i64 (strideN s.d : Int)].toArray] #[]], 192⟩]) (fun Lc => Lc = [⟨g2, [.int .i64 ((sh (sh z 1) (n - (k + 1)) : Nat) : Int)], 177⟩, ⟨g1, [.func (.func 138) #[.agg [.int .u8 s.k, .int .i64 s.d, .int .i64 (strideN s.d : Int)].toArray] #[]], 192⟩]) rfl hW (fun (i : Nat) => fr [.func (.func 155) #[] #[.pointer (some ⟨gf, 0, none⟩), .pointer (some ⟨gt, 0, none⟩)], .func (.func 138) #[.agg [.int .u8 s.k, .int .i64 s.d, .int .i64 (strideN s.d : Int)].toArray] #[], undef, .pointer (some ⟨g1, 0, none⟩), .pointer (some ⟨g2, 0, none⟩), .int .i64 ((sh (sh z 1) (n - (i + 1)) : Nat) : Int), .func (.func 155) #[] #[.pointer (some ⟨gf, 0, none⟩), .pointer (some ⟨gt, 0, none⟩)], .int .i64 ((sh (sh z 1) (n - (i + 1)) : Nat) : Int), undef, undef, undef, undef] [] []) (fun (i : Nat) => [.func (.func 155) #[] #[.pointer (some ⟨gf, 0, none⟩), .pointer (some ⟨gt, 0, none⟩)], .func (.func 138) #[.agg [.int .u8 s.k, .int .i64 s.d, .int .i64 (strideN s.d : Int)].toArray] #[], undef, .pointer (some ⟨g1, 0, none⟩), .pointer (some ⟨g2, 0, none⟩), undef, .func (.func 155) #[] #[.pointer (some ⟨gf, 0, none⟩), .pointer (some ⟨gt, 0, none⟩)], .int .i64 ((sh (sh z 1) (n - (i + 1)) : Nat) : Int), undef, undef, undef, undef]) (fun _ => by kernel_rfl) ?_ ?_ ?_ ?_ ?_
 ·intro lq i W
  refine c_reg ?_
  refine bI ?_
  refine l_end ?_
  refine n_then ⟨?_, rfl⟩
  exact congrArg (fun x => (fr x [] [] : Act)) (by kernel_rfl)
 ·intro l r i Lc W hi hJ hW
  subst hJ
  refine c_block (c_seq (c_reg ?_))
  refine dC hW 1 tyC192 ?_
  refine aI ?_
  refine l_callB hW (bnd := [.agg [.int .u8 s.k, .int .i64 s.d, .int .i64 (strideN s.d : Int)].toArray]) (args := [.int .i64 ((sh (sh z 1) (n - (i + 1)) : Nat) : Int)]) (g_pspecial s (sh (sh z 1) (n - (i + 1))) (sh_pos hz1 hz2 (by omega)) (Nat.lt_of_le_of_lt (sh_le _ _) hz2)) en138 rfl rfl rfl rfl rfl ?_
  intro W hW
  rw [show specN s.d (sh (sh z 1) (n - (i + 1))) = false from (hnd i (by omega)) ▸ hk1 i (by omega)]
  refine l_end (n_then ?_)
  refine c_false rfl ?_
  refine c_skip (n_block ?_)
  exact ⟨rfl, _, rfl, hW⟩
 ·intro l r Lc W hi hJ hW
  subst hJ
  refine c_block (c_seq (c_reg ?_))
  refine dC hW 1 tyC192 ?_
  refine aI ?_
  refine l_callB hW (bnd := [.agg [.int .u8 s.k, .int .i64 s.d, .int .i64 (strideN s.d : Int)].toArray]) (args := [.int .i64 ((sh (sh z 1) (n - (k + 1)) : Nat) : Int)]) (g_pspecial s (sh (sh z 1) (n - (k + 1))) (sh_pos hz1 hz2 (by omega)) (Nat.lt_of_le_of_lt (sh_le _ _) hz2)) en138 rfl rfl rfl rfl rfl ?_
  intro W hW
  rw [show specN s.d (sh (sh z 1) (n - (k + 1))) = true from (hnd k (by omega)) ▸ hk2 (by omega)]
  refine l_end (n_then ?_)
  refine c_true rfl ?_
  refine c_seq (c_reg ?_)
  refine aI ?_
  refine l_storeC hW 0 tyC177 (v := .int _ _) rfl rfl rfl rfl rfl rfl (by first | rfl | omega | (simp; done) | (simp; omega)) rfl ?_
  intro W hW
  refine l_end (n_then (c_ret (r_block ?_)))
  exact ⟨rfl, _, rfl, hW⟩
 ·intro D r Lc W hkn hDb hJ hW hD
  subst hJ
  refine n_block (n_then (c_seq (c_reg ?_)))
  refine l_storeC hW 0 tyC177 (v := .int _ _) rfl rfl rfl rfl rfl rfl (by first | rfl | omega | (simp; done) | (simp; omega)) rfl ?_
  intro W hW
  refine l_end (n_then (c_ret ?_))
  refine r_mark hW hDb hD ?_
  intro r W hW
  refine ret_cellC hW 0 tyC177 rfl rfl rfl ?_
  exact ⟨_, [], rfl, ⟨by rw [hk3, if_neg (by omega)]; rfl, rfl⟩, (hW.tobase).sub (List.nil_sublist _)⟩
 ·intro D r Lc W hkn hDb hJ hW hD
  subst hJ
  refine r_block (r_then ?_)
  refine r_mark hW hDb hD ?_
  intro r W hW
  refine ret_cellC hW 0 tyC177 rfl rfl rfl ?_
  exact ⟨_, [], rfl, ⟨by rw [hk3, if_pos hkn, hnd k hkn], rfl⟩, (hW.tobase).sub (List.nil_sublist _)⟩

theorem g_pfirst (s : Sc) (z n gf gt : Nat) (z0 : 1 < z) (zz : z < 128) (hn : n ≤ lev (sh z 1)) : GivesR Try.prog 154 [.func (.func 155) #[] #[.pointer (some ⟨gf, 0, none⟩), .pointer (some ⟨gt, 0, none⟩)], .func (.func 138) #[.agg [.int .u8 s.k, .int .i64 s.d, .int .i64 (strideN s.d : Int)].toArray] #[]].toArray (fun w => w.cell? ⟨gf, 0, none⟩ = some (.int .i64 ((sh (sh z 1) n : Nat) : Int)) ∧ w.cell? ⟨gt, 0, none⟩ = some (.int .i64 ((sh z 1 : Nat) : Int))) (.int .i64 ((bet s.d z n : Nat) : Int)) := fun w hp =>
 (g_pfirstX s z n gf gt z0 zz hn w hp).mono fun e w' ⟨v, Bs, he, ⟨hv, hb⟩, hC⟩ => ⟨by rw [he, hv], hC.below⟩
set_option maxRecDepth 10000 in
/-- (headend/cover.tree).cut -/
theorem g_pcut (s : Sc) (v z : Nat) (hz : 1 < z) (hz2 : z < 128) (hb : belowN z v = true) (hne : lev v < lev z) : Gives Try.prog 139 [.agg [.int .u8 s.k, .int .i64 s.d, .int .i64 (strideN s.d : Int)].toArray, .int .i64 (v : Int), .int .i64 (z : Int)].toArray (.int .i64 ((bet s.d z (lev z - lev v - 1) : Nat) : Int)) := by
 refine gives_of Try.func139 rfl (bs := [.agg [.int .u8 s.k, .int .i64 s.d, .int .i64 (strideN s.d : Int)].toArray, .int .i64 (v : Int), .int .i64 (z : Int), undef, undef, undef, undef, undef, undef, undef, undef, undef, undef, undef]) rfl ?_
 intro w hW
 have hb2 := (below_iff.1 hb).2
 have hlz : lev (sh z 1) = lev z - 1 := sh_lev hz2 (by omega)
 have hvs : v = sh (sh z 1) (lev z - lev v - 1) := by rw [sh_add, show 1 + (lev z - lev v - 1) = lev z - lev v by omega]; exact hb2.symm
 refine c_seq (c_reg ?_)
 refine xB hW ?_
 intro g1 W hW
 refine bI ?_
 refine l_end (n_then (c_seq ?_))
 refine c_regM hW [] [.q, .q, .q, .mk 0, .q, .q, .rd 0, .q] [⟨10, fun _ u Bs => ∃ g1 g2, u = .func (.func 155) #[] #[.pointer (some ⟨g1, 0, none⟩), .pointer (some ⟨g2, 0, none⟩)] ∧ Bs = [⟨g2, [.int .i64 ((z / 2 ^ 1 : Nat) : Int)], 177⟩, ⟨g1, [.int .i64 (v : Int)], 177⟩]⟩] [[]] [3] [0, 0, 2, 7, 0, 16, 63, 127] (by kernel_rfl) (by kernel_rfl) rfl (by kernel_rfl) ?_
 refine yI ?_
 refine yI ?_
 refine y_val (r_shr_i64N (n := z) (s := 1) rfl rfl rfl (by omega)) rfl rfl ?_
 refine y_callX 0 (g_ppath v (z / 2 ^ 1)) en140 rfl rfl (fun _ _ _ _ => trivial) rfl rfl ?_
 refine y_loadA 0 tyA124 rfl rfl rfl rfl rfl (by first | rfl | exact kc_len _ | exact kcf_len _ | exact boC_len _ _ | (simp; done)) (by decide) ?_
 refine y_val (r_bound (vs := [.agg [.int .u8 s.k, .int .i64 s.d, .int .i64 (strideN s.d : Int)].toArray]) rfl rfl) rfl rfl ?_
 refine y_callRd (v := .int .i64 ((bet s.d z (lev z - lev v - 1) : Nat) : Int)) 0 rfl rfl ?_ en154 rfl rfl rfl ?_
 ·rintro _ Bs ⟨ga, gb, rfl, rfl⟩
  exact ⟨_, _, g_pfirst s z (lev z - lev v - 1) ga gb hz hz2 (by omega), fun M w hC => ⟨(cell_at ((hC.sub (List.sublist_append_right M _)).holds ⟨ga, [.int .i64 (v : Int)], 177⟩ (by simp)) 0).trans (by rw [← hvs]; rfl), (cell_at ((hC.sub (List.sublist_append_right M _)).holds ⟨gb, [.int .i64 ((z / 2 ^ 1 : Nat) : Int)], 177⟩ (by simp)) 0).trans rfl⟩, rfl⟩
 refine y_val (r_assign (v := .int _ _) rfl rfl) rfl rfl ?_
 refine y_end ?_
 refine y_made ?_
 rintro _ Bs1 -
 intro W hW
 refine n_then (c_ret ?_)
 refine ret_tmp (v := .int .i64 ((bet s.d z (lev z - lev v - 1) : Nat) : Int)) rfl ?_ ⟨rfl, hW.below⟩
 rfl

end Go.Proofs.Ytoegpalacppllaa

/- Paths, yielded to the end. -/
namespace Go.Proofs.Ytoegpalacppllaa
open Go.RowKit Pl
open Tr Hn
set_option maxRecDepth 10000 in
/-- headend/cover.path$1 -/
theorem i_path (y n ga_ gb_ : Nat) (h0 : 0 < y) (hy : y < 128) (hn : n ≤ lev y) : Iter Try.prog 155 #[.pointer (some ⟨ga_, 0, none⟩), .pointer (some ⟨gb_, 0, none⟩)] n (fun i => #[.int .i64 ((sh y (n - (i + 1)) : Nat) : Int)]) [⟨gb_, [.int .i64 (y : Int)], 177⟩, ⟨ga_, [.int .i64 ((sh y n : Nat) : Int)], 177⟩] := by
 refine iter_of (lb := [.pointer (some ⟨ga_, 0, none⟩), .pointer (some ⟨gb_, 0, none⟩)]) (F := fun l => [.func (.yield l) #[] #[], .pointer (some ⟨ga_, 0, none⟩), .pointer (some ⟨gb_, 0, none⟩), undef, undef, undef, undef, undef, undef, undef, undef, undef, undef, undef, undef, undef]) Try.func155 rfl (fun l => rfl) ?_
 intro b l Lc W hY hW
 refine c_seq (c_reg ?_)
 refine l_loadC hW 1 tyC177 (v := .int .i64 ((sh y n : Nat) : Int)) rfl rfl rfl rfl rfl rfl ?_
 refine bI ?_
 refine l_end (n_then (c_block ?_))
 refine c_loop (fun (x : Nat) (j : Nat → Value) => [.func (.yield l) #[] #[], .pointer (some ⟨ga_, 0, none⟩), .pointer (some ⟨gb_, 0, none⟩), j 3, .int .i64 ((sh y (n - x) : Nat) : Int), .int .i64 ((sh y n : Nat) : Int), j 6, j 7, j 8, j 9, j 10, j 11, j 12, j 13, j 14, j 15]) (fun (x : Nat) => [] ++ ([⟨gb_, [.int .i64 (y : Int)], 177⟩, ⟨ga_, [.int .i64 ((sh y n : Nat) : Int)], 177⟩] ++ Lc x)) (fun (x : Nat) => x ≤ n) (fun (x : Nat) => n - x) 0 (by kernel_rfl) hW (Nat.zero_le _) ?_
 intro x j W hx hW
 have hlv := sh_lev hy (i := n - x) (by omega)
 have hle := sh_le y (n - x)
 have hpos : 0 < sh y (n - x) := sh_pos h0 hy (by omega)
 refine c_seq (c_seq (c_reg ?_))
 refine aI ?_
 refine l_loadC hW 0 tyC177 (v := .int .i64 (y : Int)) rfl rfl rfl rfl rfl rfl ?_
 refine l_val (r_neqN rfl rfl rfl rfl) rfl rfl ?_
 refine l_split ?_ ?_
 ·intro hc1
  replace hc1 := of_decide_eq_true hc1
  have hlt : x < n := Nat.lt_of_le_of_ne (by omega) fun e => hc1 (by rw [e, Nat.sub_self]; rfl)
  refine l_end (n_then ?_)
  refine c_true rfl ?_
  refine c_skip (n_then (c_block (c_seq (c_reg ?_))))
  refine aI ?_
  refine l_loadC hW 0 tyC177 (v := .int .i64 (y : Int)) rfl rfl rfl rfl rfl rfl ?_
  refine l_call hW (g_ptoward (sh y (n - x)) y hpos (by omega) h0 hy (by omega)) en156 rfl rfl rfl rfl ?_
  intro W hW
  rw [show lev y - lev (sh y (n - x)) - 1 = n - (x + 1) by omega]
  refine bI ?_
  refine l_end (n_then (c_seq (c_reg ?_)))
  refine l_val (r_move (v := .func _ _ _) rfl rfl) rfl rfl ?_
  refine aI ?_
  refine l_yield (hY x [] W (by omega) hW) rfl rfl rfl rfl rfl ?_
  intro W hW
  refine l_val (r_not rfl rfl) rfl rfl ?_
  refine l_end (n_then ?_)
  refine c_false rfl ?_
  refine c_skip (n_block (n_then ?_))
  exact loop_next (x + 1) (by kernel_rfl) hW (by omega) (by omega)
 ·intro hc1
  replace hc1 := of_decide_eq_false hc1
  have hxn : x = n := Classical.byContradiction fun hne => by rw [show sh y (n - x) = y by omega] at hlv; omega
  refine l_end (n_then ?_)
  refine c_false rfl ?_
  refine c_exit (x_then (x_then ?_))
  refine x_hit ?_
  refine postM_of ?_
  refine end_none rfl ?_
  exact ⟨⟨_, rfl⟩, hxn ▸ hW⟩

end Go.Proofs.Ytoegpalacppllaa

/- Subsets, by the program. -/
namespace Go.Proofs.Ytoegpalacppllaa
open Go.RowKit Pl
open Tr Hn
theorem g_pbelowZZ (y : Int) (v : Int) (hy : 0 < y) (hy2 : y < 128) (hv : 0 < v) (hv2 : v < 128) : Gives Try.prog 137 [.int .i64 y, .int .i64 v].toArray (.bool (belowN y.toNat v.toNat)) := by
 obtain ⟨y', rfl⟩ : ∃ n : Nat, y = n := ⟨y.toNat, by omega⟩
 obtain ⟨v', rfl⟩ : ∃ n : Nat, v = n := ⟨v.toNat, by omega⟩
 exact g_pbelow y' v' (by omega) (by omega) (by omega) (by omega)
theorem g_pspecialZ (s : Sc) (v : Int) (hv : 0 < v) (hv2 : v < 128) : Gives Try.prog 138 [.agg [.int .u8 s.k, .int .i64 s.d, .int .i64 (strideN s.d : Int)].toArray, .int .i64 v].toArray (.bool (specN s.d v.toNat)) := by
 obtain ⟨v', rfl⟩ : ∃ n : Nat, v = n := ⟨v.toNat, by omega⟩
 exact g_pspecial s v' (by omega) (by omega)
theorem g_pcutZ (s : Sc) (v : Int) (z : Int) (hv : 0 < v) (hz : 0 < z) (hz2 : z < 128) (hb : belowN z.toNat v.toNat = true) (hne : z ≠ v) : Gives Try.prog 139 [.agg [.int .u8 s.k, .int .i64 s.d, .int .i64 (strideN s.d : Int)].toArray, .int .i64 v, .int .i64 z].toArray (.int .i64 ((bet s.d z.toNat (lev z.toNat - lev v.toNat - 1) : Nat) : Int)) := by
 obtain ⟨v', rfl⟩ : ∃ n : Nat, v = n := ⟨v.toNat, by omega⟩
 obtain ⟨z', rfl⟩ : ∃ n : Nat, z = n := ⟨z.toNat, by omega⟩
 have hlt : lev v' < lev z' := Nat.lt_of_le_of_ne (below_iff.1 (by simpa using hb)).1 fun e => by
  have h1 := (below_iff.1 (show belowN z' v' = true by simpa using hb)).2
  rw [e, Nat.sub_self] at h1
  exact hne (by rw [show z' = v' from h1])
 exact g_pcut s v' z' (by rcases Nat.lt_or_ge 1 z' with h | h; exact h; rw [lev_one h] at hlt; omega) (by omega) (by simpa using hb) hlt
set_option maxRecDepth 10000 in
/-- (headend/cover.tree).subset -/
theorem g_psubset (s : Sc) (v x : Int) (d0 : 0 ≤ s.d) (d6 : s.d ≤ 6) : Gives Try.prog 116 [.agg [.int .u8 s.k, .int .i64 s.d, .int .i64 (strideN s.d : Int)].toArray, .agg [.int .i64 v, .int .i64 x].toArray].toArray (.bool (subB s v x)) := by
 refine gives_of Try.func116 rfl (bs := [.agg [.int .u8 s.k, .int .i64 s.d, .int .i64 (strideN s.d : Int)].toArray, .agg [.int .i64 v, .int .i64 x].toArray, undef, undef, undef, undef, undef, undef, undef, undef, undef, undef, undef, undef, undef, undef, undef, undef, undef, undef, undef, undef, undef, undef, undef, undef, undef, undef, undef, undef, undef, undef, undef, undef, undef, undef, undef, undef, undef, undef, undef, undef, undef, undef, undef, undef, undef, undef, undef, undef, undef, undef, undef, undef, undef, undef, undef, undef, undef, undef, undef, undef, undef, undef, undef, undef, undef, undef]) rfl ?_
 intro w hW
 refine c_seq (c_reg ?_)
 refine xB hW ?_
 intro g1 W hW
 refine xB hW ?_
 intro g2 W hW
 refine bB ?_
 refine l_end (n_then (c_seq ?_))
 refine c_regY hW [] [.q, .q, .q, .q, .q, .q] [0, 1, 0, 4, 3, 31] (by kernel_rfl) (by kernel_rfl) ?_
 refine y_val (r_fieldAddr 0 Try.underlying112 rfl tyC3.size rfl rfl rfl) rfl rfl ?_
 refine y_loadC 0 tyC3 rfl rfl rfl rfl rfl rfl (by decide) ?_
 refine y_val (r_fieldAddr 1 Try.underlying112 rfl tyC3.size rfl rfl rfl) rfl rfl ?_
 refine y_loadC 0 tyC3 rfl rfl rfl rfl rfl rfl (by decide) ?_
 refine y_val (r_assign (v := .int _ _) rfl rfl) rfl rfl ?_
 refine y_val (r_assign (v := .int _ _) rfl rfl) rfl rfl ?_
 refine y_end ?_
 intro W hW
 refine n_then (c_seq (c_block (c_seq (c_reg ?_))))
 refine dA hW 1 tyA124 ?_
 refine l_val (r_fieldAddr 0 Try.underlying112 rfl tyC3.size rfl rfl rfl) rfl rfl ?_
 refine dC hW 0 tyC3 ?_
 refine l_call hW (g_phas s _ (by omega) (by omega)) en136 rfl rfl rfl rfl ?_
 intro W hW
 refine l_split ?_ ?_
 ·intro hc1
  have hv := node_lt hc1 d6
  refine l_val (r_not rfl rfl) rfl rfl ?_
  refine bB ?_
  refine l_end (n_then ?_)
  refine c_false rfl ?_
  refine c_seq (c_reg ?_)
  refine l_val (r_fieldAddr 0 Try.underlying124 rfl tyC5.size rfl rfl rfl) rfl rfl ?_
  refine dC hW 1 tyC5 ?_
  refine l_val (r_eql rfl rfl rfl rfl) rfl rfl ?_
  refine l_split ?_ ?_
  ·intro hc2
   replace hc2 := of_decide_eq_true hc2
   refine aB ?_
   refine lN ?_
   refine lN ?_
   refine kB ?_
   refine bB ?_
   refine l_end (n_then ?_)
   refine c_true rfl ?_
   refine c_seq (c_reg ?_)
   refine aI ?_
   refine l_val (r_eql rfl rfl rfl rfl) rfl rfl ?_
   refine l_split ?_ ?_
   ·intro hc3
    replace hc3 := of_decide_eq_true hc3
    refine aB ?_
    refine l_valG (r_fieldAddr 0 Try.underlying124 rfl tyC5.size rfl rfl rfl) (by kernel_rfl) rfl ?_
    refine dG hW 1 tyC5 ?_
    refine l_valG (r_eql rfl rfl rfl rfl) (by kernel_rfl) rfl ?_
    refine l_split ?_ ?_
    ·intro hc4
     replace hc4 := of_decide_eq_true hc4
     refine l_valG (r_move (v := .bool _) rfl rfl) (by kernel_rfl) rfl ?_
     refine lN ?_
     refine lN ?_
     refine l_valG (r_pick (v := .bool _) rfl rfl rfl) (by kernel_rfl) rfl ?_
     refine kB ?_
     refine bB ?_
     refine l_end (n_then (c_ret (r_block (r_then ?_))))
     refine ret_tmp (v := .bool (subB s v x)) rfl ?_ ⟨rfl, hW.below⟩
     exact congrArg Value.bool (by rw [sub_k1 hc1 (by omega), decide_eq_true (by omega)])
    ·intro hc4
     replace hc4 := of_decide_eq_false hc4
     refine l_valG (r_move (v := .bool _) rfl rfl) (by kernel_rfl) rfl ?_
     refine gI ?_
     refine l_valG (r_eql rfl rfl rfl rfl) (by kernel_rfl) rfl ?_
     refine l_valG (r_pick (v := .bool _) rfl rfl rfl) (by kernel_rfl) rfl ?_
     refine kB ?_
     refine bB ?_
     refine l_end (n_then (c_ret (r_block (r_then ?_))))
     refine ret_tmp (v := .bool (subB s v x)) rfl ?_ ⟨rfl, hW.below⟩
     exfalso; omega
   ·intro hc3
    replace hc3 := of_decide_eq_false hc3
    refine aB ?_
    refine lN ?_
    refine lN ?_
    refine lN ?_
    refine lN ?_
    refine lN ?_
    refine lN ?_
    refine lN ?_
    refine kB ?_
    refine bB ?_
    refine l_end (n_then (c_ret (r_block (r_then ?_))))
    refine ret_tmp (v := .bool (subB s v x)) rfl ?_ ⟨rfl, hW.below⟩
    exact congrArg Value.bool (by rw [sub_k1 hc1 (by omega), decide_eq_false (by omega)])
  ·intro hc2
   replace hc2 := of_decide_eq_false hc2
   refine aB ?_
   refine gI ?_
   refine l_valG (r_eql rfl rfl rfl rfl) (by kernel_rfl) rfl ?_
   refine l_split ?_ ?_
   ·intro hc5
    replace hc5 := of_decide_eq_true hc5
    refine kB ?_
    refine bB ?_
    refine l_end (n_then ?_)
    refine c_true rfl ?_
    refine c_seq (c_reg ?_)
    refine aI ?_
    refine l_val (r_eql rfl rfl rfl rfl) rfl rfl ?_
    refine l_split ?_ ?_
    ·intro hc6
     replace hc6 := of_decide_eq_true hc6
     refine aB ?_
     refine l_valG (r_fieldAddr 0 Try.underlying124 rfl tyC5.size rfl rfl rfl) (by kernel_rfl) rfl ?_
     refine dG hW 1 tyC5 ?_
     refine l_valG (r_eql rfl rfl rfl rfl) (by kernel_rfl) rfl ?_
     refine l_split ?_ ?_
     ·intro hc7
      replace hc7 := of_decide_eq_true hc7
      refine l_valG (r_move (v := .bool _) rfl rfl) (by kernel_rfl) rfl ?_
      refine lN ?_
      refine lN ?_
      refine l_valG (r_pick (v := .bool _) rfl rfl rfl) (by kernel_rfl) rfl ?_
      refine kB ?_
      refine bB ?_
      refine l_end (n_then (c_ret (r_block (r_then ?_))))
      refine ret_tmp (v := .bool (subB s v x)) rfl ?_ ⟨rfl, hW.below⟩
      exfalso; omega
     ·intro hc7
      replace hc7 := of_decide_eq_false hc7
      refine l_valG (r_move (v := .bool _) rfl rfl) (by kernel_rfl) rfl ?_
      refine gI ?_
      refine l_valG (r_eql rfl rfl rfl rfl) (by kernel_rfl) rfl ?_
      refine l_valG (r_pick (v := .bool _) rfl rfl rfl) (by kernel_rfl) rfl ?_
      refine kB ?_
      refine bB ?_
      refine l_end (n_then (c_ret (r_block (r_then ?_))))
      refine ret_tmp (v := .bool (subB s v x)) rfl ?_ ⟨rfl, hW.below⟩
      exact congrArg Value.bool (sub_w0 hc1 (by omega) (by omega)).symm
    ·intro hc6
     replace hc6 := of_decide_eq_false hc6
     refine aB ?_
     refine lN ?_
     refine lN ?_
     refine lN ?_
     refine lN ?_
     refine lN ?_
     refine lN ?_
     refine lN ?_
     refine kB ?_
     refine bB ?_
     refine l_end (n_then (c_ret (r_block (r_then ?_))))
     refine ret_tmp (v := .bool (subB s v x)) rfl ?_ ⟨rfl, hW.below⟩
     exfalso; omega
   ·intro hc5
    replace hc5 := of_decide_eq_false hc5
    refine kB ?_
    refine bB ?_
    refine l_end (n_then ?_)
    refine c_false rfl ?_
    refine c_seq (c_reg ?_)
    refine dA hW 1 tyA124 ?_
    refine l_val (r_fieldAddr 1 Try.underlying112 rfl tyC3.size rfl rfl rfl) rfl rfl ?_
    refine dC hW 0 tyC3 ?_
    refine l_call hW (g_phas s _ (by omega) (by omega)) en136 rfl rfl rfl rfl ?_
    intro W hW
    refine l_split ?_ ?_
    ·intro hc8
     have hx := node_lt hc8 d6
     refine l_val (r_not rfl rfl) rfl rfl ?_
     refine aB ?_
     refine gI ?_
     refine gI ?_
     refine l_valG (r_eql rfl rfl rfl rfl) (by kernel_rfl) rfl ?_
     refine l_split ?_ ?_
     ·intro hc9
      replace hc9 := of_decide_eq_true hc9
      refine kB ?_
      refine aB ?_
      refine lN ?_
      refine lN ?_
      refine lN ?_
      refine lN ?_
      refine kB ?_
      refine bB ?_
      refine l_end (n_then ?_)
      refine c_true rfl ?_
      refine c_seq (c_reg ?_)
      refine bB ?_
      refine l_end (n_then (c_ret (r_block (r_then ?_))))
      refine ret_tmp (v := .bool (subB s v x)) rfl ?_ ⟨rfl, hW.below⟩
      exact congrArg Value.bool (sub_no hc1 (by omega) (by omega) (.inr (.inl (by omega)))).symm
     ·intro hc9
      replace hc9 := of_decide_eq_false hc9
      refine kB ?_
      refine aB ?_
      refine gI ?_
      refine gI ?_
      refine l_callG hW (g_pbelowZZ x v (by omega) (by omega) (by omega) (by omega)) en137 (by kernel_rfl) rfl rfl rfl ?_
      intro W hW
      refine l_split ?_ ?_
      ·intro hc10
       refine l_valG (r_not rfl rfl) (by kernel_rfl) rfl ?_
       refine kB ?_
       refine bB ?_
       refine l_end (n_then ?_)
       refine c_false rfl ?_
       refine c_skip (n_block (n_then (c_seq (c_reg ?_))))
       refine l_val (r_fieldAddr 0 Try.underlying124 rfl tyC5.size rfl rfl rfl) rfl rfl ?_
       refine dC hW 1 tyC5 ?_
       refine l_val (r_eql rfl rfl rfl rfl) rfl rfl ?_
       refine l_split ?_ ?_
       ·intro hc11
        replace hc11 := of_decide_eq_true hc11
        refine aB ?_
        refine lN ?_
        refine lN ?_
        refine lN ?_
        refine kB ?_
        refine aB ?_
        refine lN ?_
        refine lN ?_
        refine lN ?_
        refine lN ?_
        refine lN ?_
        refine kB ?_
        refine bB ?_
        refine l_end (n_then (c_ret ?_))
        refine ret_tmp (v := .bool (subB s v x)) rfl ?_ ⟨rfl, hW.below⟩
        rw [sub_end hc1 (by omega) (by omega) hc8 (by omega) hc10]
        rw [decide_eq_true (show s.k = 2 by omega)]; rfl
       ·intro hc11
        replace hc11 := of_decide_eq_false hc11
        refine aB ?_
        refine l_loadAG hW 1 tyA124 (by kernel_rfl) rfl rfl rfl rfl (by first | rfl | exact kc_len _ | exact kcf_len _ | exact boC_len _ _ | (simp; done)) ?_
        refine gI ?_
        refine l_callG hW (g_pspecialZ s v (by omega) (by omega)) en138 (by kernel_rfl) rfl rfl rfl ?_
        intro W hW
        refine l_split ?_ ?_
        ·intro hc12
         refine kB ?_
         refine aB ?_
         refine lN ?_
         refine lN ?_
         refine lN ?_
         refine lN ?_
         refine lN ?_
         refine kB ?_
         refine bB ?_
         refine l_end (n_then (c_ret ?_))
         refine ret_tmp (v := .bool (subB s v x)) rfl ?_ ⟨rfl, hW.below⟩
         rw [sub_end hc1 (by omega) (by omega) hc8 (by omega) hc10]
         rw [hc12, Bool.or_true]; rfl
        ·intro hc12
         refine kB ?_
         refine aB ?_
         refine l_loadAG hW 1 tyA124 (by kernel_rfl) rfl rfl rfl rfl (by first | rfl | exact kc_len _ | exact kcf_len _ | exact boC_len _ _ | (simp; done)) ?_
         refine gI ?_
         refine gI ?_
         refine l_callG hW (g_pcutZ s v x (by omega) (by omega) (by omega) hc10 (by omega)) en139 (by kernel_rfl) rfl rfl rfl ?_
         intro W hW
         refine l_valG (r_eqlN (n := 0) rfl rfl rfl rfl) (by kernel_rfl) rfl ?_
         refine kB ?_
         refine bB ?_
         refine l_end (n_then (c_ret ?_))
         refine ret_tmp (v := .bool (subB s v x)) rfl ?_ ⟨rfl, hW.below⟩
         rw [sub_end hc1 (by omega) (by omega) hc8 (by omega) hc10]
         rw [decide_eq_false (show ¬ s.k = 2 by omega), hc12]
         exact congrArg Value.bool (by rw [Bool.eq_iff_iff]; simp)
      ·intro hc10
       refine l_valG (r_not rfl rfl) (by kernel_rfl) rfl ?_
       refine kB ?_
       refine bB ?_
       refine l_end (n_then ?_)
       refine c_true rfl ?_
       refine c_seq (c_reg ?_)
       refine bB ?_
       refine l_end (n_then (c_ret (r_block (r_then ?_))))
       refine ret_tmp (v := .bool (subB s v x)) rfl ?_ ⟨rfl, hW.below⟩
       exact congrArg Value.bool (sub_no hc1 (by omega) (by omega) (.inr (.inr hc10))).symm
    ·intro hc8
     refine l_val (r_not rfl rfl) rfl rfl ?_
     refine aB ?_
     refine lN ?_
     refine lN ?_
     refine lN ?_
     refine kB ?_
     refine aB ?_
     refine lN ?_
     refine lN ?_
     refine lN ?_
     refine lN ?_
     refine kB ?_
     refine bB ?_
     refine l_end (n_then ?_)
     refine c_true rfl ?_
     refine c_seq (c_reg ?_)
     refine bB ?_
     refine l_end (n_then (c_ret (r_block (r_then ?_))))
     refine ret_tmp (v := .bool (subB s v x)) rfl ?_ ⟨rfl, hW.below⟩
     exact congrArg Value.bool (sub_no hc1 (by omega) (by omega) (.inl hc8)).symm
 ·intro hc1
  refine l_val (r_not rfl rfl) rfl rfl ?_
  refine bB ?_
  refine l_end (n_then ?_)
  refine c_true rfl ?_
  refine c_seq (c_reg ?_)
  refine bB ?_
  refine l_end (n_then (c_ret (r_block (r_then ?_))))
  refine ret_tmp (v := .bool (subB s v x)) rfl ?_ ⟨rfl, hW.below⟩
  exact congrArg Value.bool (sub_no1 hc1).symm

end Go.Proofs.Ytoegpalacppllaa

/- Members of subsets, by the program. -/
namespace Go.Proofs.Ytoegpalacppllaa
open Go.RowKit Pl
open Tr Hn
set_option maxRecDepth 10000 in
/-- headend/cover.enter -/
theorem g_enter (s : Sc) (ra : Option Addr) (rn rc : Nat) (l : List (Int × Int)) (hs : schB s = true) (hq : l.length ≤ 100) : GivesR Try.prog 84 [.agg [.int .u8 s.k, .int .i64 s.d, .int .i64 s.g, .int .u64 s.p, .int .u64 s.q, .int .u64 s.r].toArray, .slice ra rn rc].toArray (fun w => RdB w ⟨ra, rn, rc⟩ l) (.tuple #[.agg (entT s l).toArray, .int .i64 (entE s l)]) := by
 refine givesR_of Try.func84 rfl (bs := [.agg [.int .u8 s.k, .int .i64 s.d, .int .i64 s.g, .int .u64 s.p, .int .u64 s.q, .int .u64 s.r].toArray, .slice ra rn rc, undef, undef, undef, undef, undef, undef, undef, undef, undef, undef, undef, undef, undef, undef, undef, undef, undef, undef, undef, undef, undef, undef, undef, undef, undef, undef, undef, undef, undef]) rfl ?_
 intro w hP hW
 obtain ⟨k1, k3, d0, d6, -⟩ := schB_iff.1 hs
 have hn : rn = l.length := hP.len
 refine c_seq (c_reg ?_)
 refine xB hW ?_
 intro g1 W hW
 refine l_alloc hW tyZ124 rfl rfl rfl ?_
 intro g2 W hW
 refine bI ?_
 refine l_end (n_then (c_seq (c_reg ?_)))
 refine dA hW 1 tyA26 ?_
 refine l_call hW (g_treeOf s) en67 rfl rfl rfl rfl ?_
 intro W hW
 rw [treeC_yes hs rfl, hs]
 refine l_val (r_move (v := .tuple _) rfl rfl) rfl rfl ?_
 refine l_val (r_extract (v := .agg _) rfl rfl rfl) rfl rfl ?_
 refine l_val (r_extract (v := .bool _) rfl rfl rfl) rfl rfl ?_
 refine l_alloc hW tyZ124 rfl rfl rfl ?_
 intro g3 W hW
 refine sA hW 0 tyA124 ?_
 intro W hW
 refine bB ?_
 refine l_end (n_then (c_seq (c_seq (c_reg ?_))))
 refine aB ?_
 refine l_val (r_not rfl rfl) rfl rfl ?_
 refine l_end (n_then ?_)
 refine c_false rfl ?_
 refine c_skip (n_then (c_seq (c_seq (c_reg ?_))))
 refine aS ?_
 refine l_val (r_lenSlice Try.underlying40 rfl rfl) rfl rfl ?_
 refine aI ?_
 refine l_end (n_then (c_block ?_))
 refine c_loop (fun (i : Nat) (j : Nat → Value) => [.agg [.int .u8 s.k, .int .i64 s.d, .int .i64 s.g, .int .u64 s.p, .int .u64 s.q, .int .u64 s.r].toArray, .slice ra rn rc, .pointer (some ⟨g1, 0, none⟩), j 3, .pointer (some ⟨g2, 0, none⟩), j 5, .pointer (some ⟨g3, 0, none⟩), .bool true, j 8, j 9, .tuple #[.agg [.int .u8 s.k, .int .i64 s.d, .int .i64 (strideN s.d : Int)].toArray, .bool true], .agg ([.int .u8 s.k, .int .i64 s.d, .int .i64 s.g, .int .u64 s.p, .int .u64 s.q, .int .u64 s.r]).toArray, .tuple #[.agg [.int .u8 s.k, .int .i64 s.d, .int .i64 (strideN s.d : Int)].toArray, .bool true], .agg [.int .u8 s.k, .int .i64 s.d, .int .i64 (strideN s.d : Int)].toArray, .bool true, .bool true, .bool false, j 17, .slice ra rn rc, .int .i64 (rn : Int), .int .i64 (i : Int), j 21, j 22, j 23, j 24, j 25, j 26, j 27, j 28, j 29, j 30]) (fun (i : Nat) => [⟨g3, [.int .u8 s.k, .int .i64 s.d, .int .i64 (strideN s.d : Int)], 124⟩, ⟨g2, z124, 124⟩, ⟨g1, [.int .u8 s.k, .int .i64 s.d, .int .i64 s.g, .int .u64 s.p, .int .u64 s.q, .int .u64 s.r], 26⟩]) (fun (i : Nat) => i ≤ rn ∧ ∀ k, k < i → subB s (qn l k) (qm l k) = true) (fun (i : Nat) => rn - i) 0 (by kernel_rfl) hW ⟨by omega, all_zero⟩ ?_
 intro i j W hx hW
 obtain ⟨hi0, hib⟩ := hx
 refine c_seq (c_reg ?_)
 refine l_val (r_lssN rfl rfl rfl rfl) rfl rfl ?_
 refine l_split ?_ ?_
 ·intro hc1
  replace hc1 := of_decide_eq_true hc1
  obtain ⟨b0, o0, ha, hc⟩ := hP.ptr (by omega)
  simp only at ha
  subst ha
  refine l_end (n_then (c_seq ?_))
  refine c_true rfl ?_
  refine c_skip (n_then (c_seq (c_block (c_seq (c_reg ?_)))))
  refine l_val (r_indexAddrSlB (n := i) Try.underlying40 tyA112.size rfl rfl rfl (by omega)) rfl rfl ?_
  refine l_loadF2 hW tyA112 (hc i (by omega)).1 (hc i (by omega)).2 rfl rfl rfl rfl ?_
  refine l_alloc hW tyZ112 rfl rfl rfl ?_
  intro g4 W hW
  refine sA hW 0 tyA112 ?_
  intro W hW
  refine l_end (n_then (c_seq (c_reg ?_)))
  refine dA hW 1 tyA124 ?_
  refine dA hW 0 tyA112 ?_
  refine l_call hW (g_psubset s _ _ d0 d6) en116 rfl rfl rfl rfl ?_
  intro W hW
  refine l_split ?_ ?_
  ·intro hc2
   refine l_val (r_not rfl rfl) rfl rfl ?_
   refine l_end (n_then ?_)
   refine c_false rfl ?_
   refine c_skip (n_block (n_then (c_reg ?_)))
   refine l_val (r_addN (n := 1) rfl rfl rfl (by omega)) rfl rfl ?_
   refine aI ?_
   refine l_end (n_then ?_)
   exact loop_next (i + 1) (by kernel_rfl) (hW.drop 1) ⟨by omega, all_upto hib hc2⟩ (by omega)
  ·intro hc2
   refine l_val (r_not rfl rfl) rfl rfl ?_
   refine l_end (n_then ?_)
   refine c_true rfl ?_
   refine c_seq (c_reg ?_)
   refine l_val (r_build (ps := []) (bld124_) rfl rfl) rfl rfl ?_
   refine sA hW 2 tyA124 ?_
   intro W hW
   refine bI ?_
   refine l_end (n_then (c_ret (r_block (r_then (r_then (r_block (r_then ?_)))))))
   refine rT hW 2 tyA124 ?_
   exact ⟨by rw [entE_no (i := i) (by omega) hc2, entT_no (entE_no (i := i) (by omega) hc2)]; rfl, hW.below⟩
 ·intro hc1
  replace hc1 := of_decide_eq_false hc1
  refine l_end (n_then (c_seq ?_))
  refine c_false rfl ?_
  refine c_exit (x_then (x_then ?_))
  refine x_hit ?_
  refine n_then (c_seq (c_reg ?_))
  refine dA hW 0 tyA124 ?_
  refine sA hW 1 tyA124 ?_
  intro W hW
  refine bI ?_
  refine l_end (n_then (c_ret ?_))
  refine rT hW 1 tyA124 ?_
  have hall := entE_yes (s := s) (l := l) fun k hk => hib k (by omega)
  exact ⟨by rw [hall, entT_yes hall]; rfl, hW.below⟩

set_option maxRecDepth 10000 in
/-- headend/cover.Members -/
theorem g_Members (s : Sc) (v x : Int) (hs : schB s = true) : GivesX Try.prog 69 [.agg [.int .u8 s.k, .int .i64 s.d, .int .i64 s.g, .int .u64 s.p, .int .u64 s.q, .int .u64 s.r].toArray, .agg [.int .i64 v, .int .i64 x].toArray].toArray (fun _ => True) (fun u Bs => ∃ t : Sl, u = .tuple #[t.v, .int .i64 (if subB s v x then 0 else 31)] ∧ (subB s v x = true → NewI t (membersN s v x (p2 s.d.toNat)) Bs)) := by
 refine givesX_of Try.func69 rfl (bs := [.agg [.int .u8 s.k, .int .i64 s.d, .int .i64 s.g, .int .u64 s.p, .int .u64 s.q, .int .u64 s.r].toArray, .agg [.int .i64 v, .int .i64 x].toArray, undef, undef, undef, undef, undef, undef, undef, undef, undef, undef, undef, undef, undef, undef, undef, undef, undef, undef, undef]) rfl ?_
 intro w hP hW
 obtain ⟨k1, k3, d0, d6, -⟩ := schB_iff.1 hs
 refine c_seq (c_reg ?_)
 refine xB hW ?_
 intro g1 W hW
 refine xB hW ?_
 intro g2 W hW
 refine bS ?_
 refine bI ?_
 refine l_end (n_then (c_seq (c_reg ?_)))
 refine dA hW 1 tyA26 ?_
 refine dA hW 0 tyA112 ?_
 refine l_buildSliceF hW (bsl40_1_0 _ _) rfl rfl rfl rfl ?_
 intro gb W hW
 refine l_callR hW (g_enter s (some ⟨gb, 0, none⟩) 1 1 [(v, x)] hs (by simp)) en84 (RdB.one hW 0 rfl) rfl rfl rfl rfl ?_
 intro W hW
 obtain ⟨ee, hee⟩ : ∃ ee, ee = entE s [(v, x)] := ⟨_, rfl⟩
 have heo := hee.trans (entE_one s v x)
 have he0 : subB s v x = true → ee = 0 := fun h => heo.trans (by rw [h]; rfl)
 have he1 : subB s v x = false → ee = 31 := fun h => heo.trans (by rw [h]; rfl)
 rw [← hee]
 refine l_val (r_move (v := .tuple _) rfl rfl) rfl rfl ?_
 refine l_val (r_extract (v := .agg _) rfl rfl rfl) rfl rfl ?_
 refine l_val (r_extract (v := .int _ _) rfl rfl rfl) rfl rfl ?_
 refine l_alloc hW tyZ124 rfl rfl rfl ?_
 intro g3 W hW
 refine l_storeA hW 0 tyA124 rfl rfl rfl rfl rfl rfl rfl (entT_len _ _) (entT_one _ _) ?_
 intro W hW
 refine bI ?_
 refine l_end (n_then (c_seq (c_seq (c_reg ?_))))
 refine aI ?_
 refine l_val (r_neq rfl rfl rfl rfl) rfl rfl ?_
 refine l_split ?_ ?_
 ·intro hc1
  replace hc1 := of_decide_eq_true hc1
  have hb : subB s v x = false := by
   cases hb : subB s v x with
   | true => exact absurd (he0 hb) hc1
   | false => rfl
  refine l_end (n_then ?_)
  refine c_true rfl ?_
  refine c_seq (c_reg ?_)
  refine aI ?_
  refine bS ?_
  refine bI ?_
  refine l_end (n_then (c_ret (r_then ?_)))
  refine ret_tmp2 rfl rfl rfl ?_
  exact ⟨_, [], rfl, ⟨Sl.no, by rw [hb, he1 hb]; rfl, fun h => by rw [hb] at h; cases h⟩, hW.sub (List.nil_sublist _)⟩
 ·intro hc1
  replace hc1 := of_decide_eq_false hc1
  have hb : subB s v x = true := by
   cases hb : subB s v x with
   | false => have := he1 hb; omega
   | true => rfl
  have htt : entT s [(v, x)] = [.int .u8 s.k, .int .i64 s.d, .int .i64 (strideN s.d : Int)] := entT_yes (by rw [← hee]; omega)
  obtain ⟨hx1, hx2, hx3, hx4⟩ := sub_x d6 hb
  replace hW := (show Cl _ (⟨_, entT s [(v, x)], _⟩ :: _) _ from hW)
  rw [htt] at hW
  refine l_end (n_then ?_)
  refine c_false rfl ?_
  refine c_skip (n_then (c_seq (c_reg ?_)))
  refine dA hW 0 tyA124 ?_
  refine dA hW 2 tyA112 ?_
  refine l_callX hW (g_pmembers s v x d0 d6 hx1 hx2 hx3 hx4) en99 trivial rfl rfl rfl rfl ?_
  rintro _ Bs W ⟨am, cm, rfl, hO⟩ hW
  refine bS ?_
  refine bI ?_
  refine l_end (n_then (c_ret ?_))
  refine ret_tmp2 rfl rfl rfl ?_
  exact ⟨_, Bs, rfl, ⟨⟨am, _, cm⟩, by rw [hb]; rfl, fun _ => hO.newI⟩, hW.sub (List.sublist_append_right _ _)⟩

end Go.Proofs.Ytoegpalacppllaa

/- Keys of subsets, by the program. -/
namespace Go.Proofs.Ytoegpalacppllaa
open Go.RowKit Pl
open Tr Hn
set_option maxRecDepth 10000 in
/-- headend/cover.descend -/
theorem g_descendN (k : Kw) (y n : Nat) (h0 : 0 < y) (hy : y < 128) (hn : n ≤ lev y) : Gives Try.prog 119 [keyV k, .int .i64 ((sh y n : Nat) : Int), .int .i64 (y : Int)].toArray (keyV (dk k y n n)) := by
 refine givesM_of Try.func119 rfl (bs := [keyV k, .int .i64 ((sh y n : Nat) : Int), .int .i64 (y : Int), undef, undef, undef, undef, undef, undef, undef, undef, undef, undef, undef, undef, undef, undef, undef, undef, undef]) rfl ?_
 intro w hW
 refine c_seq (c_reg ?_)
 refine xB hW ?_
 intro g1 W hW
 refine l_alloc hW tyZ37 rfl rfl rfl ?_
 intro g2 W hW
 refine l_end (n_then (c_seq (c_seq (c_reg ?_))))
 refine aI ?_
 refine aI ?_
 refine l_callX hW (g_ppath (sh y n) y) en140 trivial rfl rfl rfl rfl ?_
 rintro _ Bs1 W ⟨ga_, gb_, rfl, rfl⟩ hW
 replace hW := hW.perm List.perm_append_comm
 refine l_end (n_then (c_block ?_))
 refine c_range (i_path y n ga_ gb_ h0 hy hn) en155 rfl (fun _ => rfl) (fun (i : Nat) => [⟨g2, z37, 37⟩, ⟨g1, kc (dk k y n i), 37⟩]) hW (fun (i : Nat) => fr [keyV k, .int .i64 ((sh y n : Nat) : Int), .int .i64 (y : Int), .pointer (some ⟨g1, 0, none⟩), undef, undef, .pointer (some ⟨g2, 0, none⟩), .int .i64 ((sh y (n - (i + 1)) : Nat) : Int), undef, .int .i64 ((sh y n : Nat) : Int), .int .i64 (y : Int), .func (.func 155) #[] #[.pointer (some ⟨ga_, 0, none⟩), .pointer (some ⟨gb_, 0, none⟩)], .int .i64 ((sh y (n - (i + 1)) : Nat) : Int), undef, undef, undef, undef, undef, undef, undef] [] []) (fun (i : Nat) => [keyV k, .int .i64 ((sh y n : Nat) : Int), .int .i64 (y : Int), .pointer (some ⟨g1, 0, none⟩), undef, undef, .pointer (some ⟨g2, 0, none⟩), undef, undef, .int .i64 ((sh y n : Nat) : Int), .int .i64 (y : Int), .func (.func 155) #[] #[.pointer (some ⟨ga_, 0, none⟩), .pointer (some ⟨gb_, 0, none⟩)], .int .i64 ((sh y (n - (i + 1)) : Nat) : Int), undef, undef, undef, undef, undef, undef, undef]) (fun _ => by kernel_rfl) ?_ ?_ ?_
 ·intro l i W
  refine c_reg ?_
  refine bI ?_
  refine l_end ?_
  refine n_then ⟨?_, rfl⟩
  exact congrArg (fun x => (fr x [] [] : Act)) (by kernel_rfl)
 ·intro l r i L W hi hW
  refine c_block (c_seq (c_reg ?_))
  refine bI ?_
  refine l_end (n_then (c_seq (c_seq (c_reg ?_))))
  refine aI ?_
  refine l_val (r_remN (n := 2) rfl rfl rfl (by omega)) rfl rfl ?_
  refine l_val (r_eqlN (n := 1) rfl rfl rfl rfl) rfl rfl ?_
  refine l_split ?_ ?_
  ·intro hc1
   replace hc1 := of_decide_eq_true hc1
   have hst : dk k y n (i + 1) = derive (dk k y n i) 32 0 := if_neg (by omega)
   refine l_end (n_then ?_)
   refine c_true rfl ?_
   refine c_reg ?_
   refine bI ?_
   refine l_end (n_then (c_reg ?_))
   refine dA hW 3 tyA37 ?_
   refine aI ?_
   refine l_call hW (g_Derive (dk k y n i) 32 0) en59 rfl rfl rfl rfl ?_
   intro W hW
   refine sA hW 3 tyA37 ?_
   intro W hW
   refine l_end (n_block ?_)
   exact ⟨rfl, hW.to (by simp only [hst]; rfl)⟩
  ·intro hc1
   replace hc1 := of_decide_eq_false hc1
   have hst : dk k y n (i + 1) = derive (dk k y n i) 31 0 := if_pos (by omega)
   refine l_end (n_then ?_)
   refine c_false rfl ?_
   refine c_skip (n_then (c_reg ?_))
   refine dA hW 3 tyA37 ?_
   refine aI ?_
   refine l_call hW (g_Derive (dk k y n i) 31 0) en59 rfl rfl rfl rfl ?_
   intro W hW
   refine sA hW 3 tyA37 ?_
   intro W hW
   refine l_end (n_block ?_)
   exact ⟨rfl, hW.to (by simp only [hst]; rfl)⟩
 ·intro D r W hDb hW hD
  refine n_block (n_then (c_seq (c_reg ?_)))
  refine dA hW 3 tyA37 ?_
  refine sA hW 2 tyA37 ?_
  intro W hW
  refine l_end (n_then (c_ret ?_))
  refine r_mark hW hDb hD ?_
  intro r W hW
  refine rC hW 2 tyA37 ?_
  exact ⟨rfl, hW.below⟩

/-- the label of a node below -/
theorem g_descend (k : Kw) (v y : Nat) (h0 : 0 < y) (hy : y < 128) (hb : belowN y v = true) : Gives Try.prog 119 [keyV k, .int .i64 (v : Int), .int .i64 (y : Int)].toArray (keyV (descK k v y)) := by
 have h := g_descendN k y (lev y - lev v) h0 hy (Nat.sub_le _ _)
 rw [(below_iff.1 hb).2] at h
 exact h
set_option maxRecDepth 10000 in
/-- headend/cover.nodeKey -/
theorem g_nodeKey (k : Kw) (v : Nat) : Gives Try.prog 117 [keyV k, .int .i64 (v : Int)].toArray (keyV (derive k 30 (BitVec.ofNat 64 v))) := by
 refine gives_of Try.func117 rfl (bs := [keyV k, .int .i64 (v : Int), undef, undef, undef, undef, undef, undef, undef]) rfl ?_
 intro w hW
 refine c_seq (c_reg ?_)
 refine xB hW ?_
 intro g1 W hW
 refine l_alloc hW tyZ37 rfl rfl rfl ?_
 intro g2 W hW
 refine l_end (n_then (c_seq (c_reg ?_)))
 refine dA hW 1 tyA37 ?_
 refine aI ?_
 refine l_val (r_conv_i64_u64 Try.underlying177 Try.underlying22 rfl rfl) rfl rfl ?_
 refine l_call hW (g_Derive k 30 (BitVec.ofNat 64 v)) en59 rfl rfl rfl rfl ?_
 intro W hW
 refine sA hW 0 tyA37 ?_
 intro W hW
 refine l_end (n_then (c_ret ?_))
 refine rC hW 0 tyA37 ?_
 exact ⟨rfl, hW.below⟩

set_option maxRecDepth 10000 in
/-- headend/cover.middle -/
theorem g_middle (k : Kw) : Gives Try.prog 118 [keyV k].toArray (keyV (derive k 33 0)) := by
 refine gives_of Try.func118 rfl (bs := [keyV k, undef, undef, undef, undef]) rfl ?_
 intro w hW
 refine c_seq (c_reg ?_)
 refine xB hW ?_
 intro g1 W hW
 refine l_alloc hW tyZ37 rfl rfl rfl ?_
 intro g2 W hW
 refine l_end (n_then (c_seq (c_reg ?_)))
 refine dA hW 1 tyA37 ?_
 refine l_call hW (g_Derive k 33 0) en59 rfl rfl rfl rfl ?_
 intro W hW
 refine sA hW 0 tyA37 ?_
 intro W hW
 refine l_end (n_then (c_ret ?_))
 refine rC hW 0 tyA37 ?_
 exact ⟨rfl, hW.below⟩

set_option maxRecDepth 10000 in
/-- (headend/cover.tree).key -/
theorem g_pkey (s : Sc) (k : Kw) (v x : Nat) (hx2 : x < 128) (hb : s.k ≠ 1 → x ≠ 0 → belowN x v = true) : Gives Try.prog 85 [.agg [.int .u8 s.k, .int .i64 s.d, .int .i64 (strideN s.d : Int)].toArray, keyV k, .agg [.int .i64 (v : Int), .int .i64 (x : Int)].toArray].toArray (keyV (keyN k s v x)) := by
 refine gives_of Try.func85 rfl (bs := [.agg [.int .u8 s.k, .int .i64 s.d, .int .i64 (strideN s.d : Int)].toArray, keyV k, .agg [.int .i64 (v : Int), .int .i64 (x : Int)].toArray, undef, undef, undef, undef, undef, undef, undef, undef, undef, undef, undef, undef, undef, undef, undef, undef, undef, undef, undef, undef, undef, undef, undef, undef, undef, undef, undef, undef, undef]) rfl ?_
 intro w hW
 refine c_seq (c_reg ?_)
 refine xB hW ?_
 intro g1 W hW
 refine xB hW ?_
 intro g2 W hW
 refine xB hW ?_
 intro g3 W hW
 refine l_alloc hW tyZ37 rfl rfl rfl ?_
 intro g4 W hW
 refine l_end (n_then (c_seq ?_))
 refine c_regY hW [] [.q, .q, .q, .q, .q, .q] [0, 1, 0, 4, 3, 31] (by kernel_rfl) (by kernel_rfl) ?_
 refine y_val (r_fieldAddr 0 Try.underlying112 rfl tyC3.size rfl rfl rfl) rfl rfl ?_
 refine y_loadC 1 tyC3 rfl rfl rfl rfl rfl rfl (by decide) ?_
 refine y_val (r_fieldAddr 1 Try.underlying112 rfl tyC3.size rfl rfl rfl) rfl rfl ?_
 refine y_loadC 1 tyC3 rfl rfl rfl rfl rfl rfl (by decide) ?_
 refine y_val (r_assign (v := .int _ _) rfl rfl) rfl rfl ?_
 refine y_val (r_assign (v := .int _ _) rfl rfl) rfl rfl ?_
 refine y_end ?_
 intro W hW
 refine n_then (c_seq (c_block (c_seq (c_reg ?_))))
 refine l_val (r_fieldAddr 0 Try.underlying124 rfl tyC5.size rfl rfl rfl) rfl rfl ?_
 refine dC hW 3 tyC5 ?_
 refine l_val (r_eql rfl rfl rfl rfl) rfl rfl ?_
 refine l_split ?_ ?_
 ·intro hc1
  replace hc1 := of_decide_eq_true hc1
  refine bB ?_
  refine l_end (n_then ?_)
  refine c_true rfl ?_
  refine c_seq (c_reg ?_)
  refine dA hW 2 tyA37 ?_
  refine aI ?_
  refine l_call hW (g_nodeKey k v) en117 rfl rfl rfl rfl ?_
  intro W hW
  refine sA hW 0 tyA37 ?_
  intro W hW
  refine l_end (n_then (c_ret (r_block (r_then ?_))))
  refine rC hW 0 tyA37 ?_
  exact ⟨by rw [key_1 hc1]; rfl, hW.below⟩
 ·intro hc1
  replace hc1 := of_decide_eq_false hc1
  refine bB ?_
  refine l_end (n_then ?_)
  refine c_false rfl ?_
  refine c_seq (c_reg ?_)
  refine aI ?_
  refine l_val (r_eqlN (n := 0) rfl rfl rfl rfl) rfl rfl ?_
  refine l_split ?_ ?_
  ·intro hc2
   replace hc2 := of_decide_eq_true hc2
   refine bB ?_
   refine l_end (n_then ?_)
   refine c_true rfl ?_
   refine c_seq (c_reg ?_)
   refine dA hW 2 tyA37 ?_
   refine l_call hW (g_Derive k 34 0) en59 rfl rfl rfl rfl ?_
   intro W hW
   refine sA hW 0 tyA37 ?_
   intro W hW
   refine l_end (n_then (c_ret (r_block (r_then ?_))))
   refine rC hW 0 tyA37 ?_
   exact ⟨by rw [key_0 hc1 hc2]; rfl, hW.below⟩
  ·intro hc2
   replace hc2 := of_decide_eq_false hc2
   refine bB ?_
   refine l_end (n_then ?_)
   refine c_false rfl ?_
   refine c_skip (n_block (n_then (c_seq (c_reg ?_))))
   refine dA hW 2 tyA37 ?_
   refine aI ?_
   refine l_call hW (g_nodeKey k v) en117 rfl rfl rfl rfl ?_
   intro W hW
   refine aI ?_
   refine aI ?_
   refine l_call hW (g_descend (derive k 30 (BitVec.ofNat 64 v)) v x (by omega) hx2 (hb hc1 hc2)) en119 rfl rfl rfl rfl ?_
   intro W hW
   refine l_call hW (g_middle (descK (derive k 30 (BitVec.ofNat 64 v)) v x)) en118 rfl rfl rfl rfl ?_
   intro W hW
   refine sA hW 0 tyA37 ?_
   intro W hW
   refine l_end (n_then (c_ret ?_))
   refine rC hW 0 tyA37 ?_
   exact ⟨by rw [key_n hc1 hc2]; rfl, hW.below⟩

set_option maxRecDepth 10000 in
/-- headend/cover.SubsetKey -/
theorem g_SubsetKey (s : Sc) (k : Kw) (v x : Nat) (hs : schB s = true) (hsub : subB s v x = true) : Gives Try.prog 57 [keyV k, .agg [.int .u8 s.k, .int .i64 s.d, .int .i64 s.g, .int .u64 s.p, .int .u64 s.q, .int .u64 s.r].toArray, .agg [.int .i64 (v : Int), .int .i64 (x : Int)].toArray].toArray (.tuple #[keyV (keyN k s v x), .int .i64 0]) := by
 refine gives_of Try.func57 rfl (bs := [keyV k, .agg [.int .u8 s.k, .int .i64 s.d, .int .i64 s.g, .int .u64 s.p, .int .u64 s.q, .int .u64 s.r].toArray, .agg [.int .i64 (v : Int), .int .i64 (x : Int)].toArray, undef, undef, undef, undef, undef, undef, undef, undef, undef, undef, undef, undef, undef, undef, undef, undef, undef, undef, undef, undef, undef, undef]) rfl ?_
 intro w hW
 obtain ⟨k1, k3, d0, d6, -⟩ := schB_iff.1 hs
 obtain ⟨hx1, hx2, hx3, hx4⟩ := sub_x d6 hsub
 refine c_seq (c_reg ?_)
 refine xB hW ?_
 intro g1 W hW
 refine xB hW ?_
 intro g2 W hW
 refine xB hW ?_
 intro g3 W hW
 refine l_alloc hW tyZ37 rfl rfl rfl ?_
 intro g4 W hW
 refine bI ?_
 refine l_end (n_then (c_seq (c_reg ?_)))
 refine dA hW 2 tyA26 ?_
 refine dA hW 1 tyA112 ?_
 refine l_buildSliceF hW (bsl40_1_0 _ _) rfl rfl rfl rfl ?_
 intro gb W hW
 refine l_callR hW (g_enter s (some ⟨gb, 0, none⟩) 1 1 [((v : Int), (x : Int))] hs (by simp)) en84 (RdB.one hW 0 rfl) rfl rfl rfl rfl ?_
 intro W hW
 have he0 : entE s [((v : Int), (x : Int))] = 0 := (entE_one s v x).trans (by rw [hsub]; rfl)
 rw [he0, entT_yes he0]
 refine l_val (r_move (v := .tuple _) rfl rfl) rfl rfl ?_
 refine l_val (r_extract (v := .agg _) rfl rfl rfl) rfl rfl ?_
 refine l_val (r_extract (v := .int _ _) rfl rfl rfl) rfl rfl ?_
 refine l_alloc hW tyZ124 rfl rfl rfl ?_
 intro g5 W hW
 refine sA hW 0 tyA124 ?_
 intro W hW
 refine bI ?_
 refine l_end (n_then (c_seq (c_seq (c_reg ?_))))
 refine aI ?_
 refine l_val (r_neq (b := false) rfl rfl rfl (by decide)) rfl rfl ?_
 refine l_end (n_then ?_)
 refine c_false rfl ?_
 refine c_skip (n_then (c_seq (c_reg ?_)))
 refine dA hW 0 tyA124 ?_
 refine dA hW 5 tyA37 ?_
 refine dA hW 3 tyA112 ?_
 refine l_call hW (g_pkey s k v x (by omega) (fun h1 h2 => sub_below hsub h1 (by omega))) en85 rfl rfl rfl rfl ?_
 intro W hW
 refine sA hW 2 tyA37 ?_
 intro W hW
 refine bI ?_
 refine l_end (n_then (c_ret ?_))
 refine rT hW 2 tyA37 ?_
 exact ⟨rfl, hW.below⟩

end Go.Proofs.Ytoegpalacppllaa

/- Partitions: receivers that are in two subsets; lists in which neighbours are equal. No program is in sight here. -/
namespace Go.Proofs.Ytoegpalacppllaa.Tr
open Hn

/-- how many of the first subsets a receiver is a member of -/
def cntR (s : Sc) (l : List (Int × Int)) (u : Nat) : Nat → Nat
  | 0 => 0
  | i + 1 => cntR s l u i + (if memB s (qn l i) (qm l i) u then 1 else 0)
theorem cntR_yes {s : Sc} {l : List (Int × Int)} {u i : Nat} (h : memB s (qn l i) (qm l i) u = true) : cntR s l u (i + 1) = cntR s l u i + 1 := by rw [cntR, if_pos h]
theorem cntR_no {s : Sc} {l : List (Int × Int)} {u i : Nat} (h : memB s (qn l i) (qm l i) u = false) : cntR s l u (i + 1) = cntR s l u i := by rw [cntR, if_neg (by rw [h]; decide)]; rfl
theorem cntR_le (s : Sc) (l : List (Int × Int)) (u : Nat) : ∀ i, cntR s l u i ≤ i
  | 0 => Nat.le_refl _
  | i + 1 => by
    have := cntR_le s l u i
    rw [cntR]; split <;> omega
theorem count_members {s : Sc} {v w : Int} {n u : Nat} (hu : u < n) : (membersN s v w n).count (u : Int) = if memB s v w u then 1 else 0 := by
  have hn := List.nodup_iff_count.1 (members_nodup s v w n) (u : Int)
  split
  next h =>
    have := List.count_pos_iff.2 (members_mem hu h)
    omega
  next h =>
    rw [List.count_eq_zero]
    intro hm
    exact h (by simpa using (members_lt hm).2.2)
theorem take_q {l : List (Int × Int)} {i : Nat} (hi : i < l.length) : l.take (i + 1) = l.take i ++ [(qn l i, qm l i)] := by
  have e : (qn l i, qm l i) = l[i] := by simp [qn, qm, List.getD_eq_getElem?_getD, hi]
  rw [List.take_succ_eq_append_getElem hi, e]
theorem cntR_take {s : Sc} {l : List (Int × Int)} {u : Nat} (hu : u < p2 s.d.toNat) : ∀ i, i ≤ l.length → cntR s l u i = (allm s (l.take i)).count (u : Int)
  | 0, _ => by simp [cntR, allm, mems]
  | i + 1, h => by
    rw [take_q (by omega), allm_append, List.count_append, ← cntR_take hu i (by omega), allm_cons, show allm s [] = [] from rfl, List.append_nil, count_members hu, cntR]
theorem cntR_all {s : Sc} {l : List (Int × Int)} {u : Nat} (hu : u < p2 s.d.toNat) : cntR s l u l.length = (allm s l).count (u : Int) := by
  rw [cntR_take hu _ (Nat.le_refl _), List.take_length]
theorem parts_two {s : Sc} {l : List (Int × Int)} {u : Nat} (hu : u < p2 s.d.toNat) (h : 1 < cntR s l u l.length) : ¬ (allm s l).Nodup := fun hn => by
  have := List.nodup_iff_count.1 hn (u : Int)
  rw [← cntR_all hu] at this
  omega
theorem parts_one {s : Sc} {l : List (Int × Int)} (h : ∀ u, u < p2 s.d.toNat → ¬ 1 < cntR s l u l.length) : (allm s l).Nodup := by
  refine List.nodup_iff_count.2 fun a => ?_
  by_cases ha : a ∈ allm s l
  · have := all_lt ha
    obtain ⟨u, rfl⟩ : ∃ u : Nat, a = u := ⟨a.toNat, by omega⟩
    have := h u (by omega)
    rw [cntR_all (by omega)] at this
    omega
  · rw [List.count_eq_zero.2 ha]; omega
/-- a list in order is made shorter just if it has something twice -/
theorem compact_lt {l : List Int} (hs : l.Pairwise (fun x y => x ≤ y)) : (Lib.compact l).length < l.length ↔ ¬ l.Nodup := by
  constructor
  · intro h hn
    rw [Lib.compact_all l fun j hj => ?_] at h
    · omega
    · cases j with
      | zero => exact Lib.keeps_lt_one _ 0 (by omega)
      | succ j =>
        refine Lib.keeps_pos ?_
        have h2 := List.pairwise_iff_getElem.1 hn j (j + 1) (by omega) hj (by omega)
        simp only [Nat.add_sub_cancel]
        rw [getElem!_pos _ (j + 1) (by simpa using hj), getElem!_pos _ j (by simp; omega)]
        simpa using h2.symm
  · intro hn
    have hle := Lib.compact_length_le l
    apply Classical.byContradiction
    intro hlt
    have he : (Lib.compact l).length = l.length := by omega
    apply hn
    unfold Lib.compact Lib.compactUpTo at he
    rw [List.length_map] at he
    have hall : ∀ j ∈ List.range l.length, Lib.keeps l.toArray j = true := List.length_filter_eq_length_iff.1 (by rw [he, List.length_range])
    refine List.pairwise_iff_getElem.2 fun i j hi hj hij => ?_
    have h1 := hall j (List.mem_range.2 hj)
    rw [Lib.keeps, decide_eq_true_eq] at h1
    have h2 := h1.resolve_left (by omega)
    rw [getElem!_pos _ j (by simpa using hj), getElem!_pos _ (j - 1) (by simp; omega)] at h2
    have h3 : l[i] ≤ l[j - 1] := by
      rcases Nat.lt_or_ge i (j - 1) with h | h
      · exact List.pairwise_iff_getElem.1 hs i (j - 1) hi (by omega) h
      · obtain rfl : i = j - 1 := by omega
        exact Int.le_refl _
    have h4 : l[j - 1] ≤ l[j] := List.pairwise_iff_getElem.1 hs (j - 1) j (by omega) hj (by omega)
    simp only [List.getElem_toArray] at h2
    omega
theorem compact_sort {l : List Int} : (Lib.compact (sortI l)).length < l.length ↔ ¬ l.Nodup := by
  have := compact_lt (sortI_le l)
  rw [sortI_len] at this
  rw [this, (sortI_perm l).nodup_iff]
end Go.Proofs.Ytoegpalacppllaa.Tr

/- Making numbers in memory of one's own shorter; copies of lists of subsets. No function of the program is in sight here. -/
namespace Go.Proofs.Ytoegpalacppllaa
open Go.RowKit Go.Sort Pl Tr Hn

/-- what slices.Compact does -/
structure CompI (P : Program) (f : FuncId) : Prop where
  some : ∀ (blk off cap : Nat) (zs : List Int) (w : World), Holds (Value.int .i64) w blk off zs.toArray → zs.length ≤ 9223372036854775807 → zs.length ≤ cap →
    Calls P f #[.slice (some ⟨blk, off, none⟩) zs.length cap] w fun e w' => e = .returned (.slice (some ⟨blk, off, none⟩) (Lib.compact zs).length cap) ∧ ∃ q, w' = putRow (Value.int .i64) (Sort.ahead w q) blk off (Lib.compact zs ++ List.replicate (zs.length - (Lib.compact zs).length) 0).toArray
  none : ∀ (a : Option Addr) (cap : Nat) (w : World), Calls P f #[.slice a 0 cap] w fun e w' => e = .returned (.slice a 0 cap) ∧ w' = w
theorem compact_nil : Lib.compact ([] : List Int) = [] := List.eq_nil_of_length_eq_zero (Nat.le_zero.1 (Lib.compact_length_le []))

section
variable {P : Program} {ops : Array Oper} {Q : Exit → Act → World → Prop} {bs : List Value} {us : List (Nat × Value)} {ds : List Deferred} {w0 : Base} {W W' : World} {rest : List Oper} {o : Oper} {L Bs : List Blk} {d : Nat} {v : Value} {r : Option (Option Nat)} {m : Nat}
theorem grownBy_put {w : World} {g n k : Nat} (d : Array Int) : w.grownBy (putRow (Value.int .i64) (Sort.ahead w n) g k d) (some g) := by
  refine ⟨rfl, rfl, rfl, by simp [putRow, mapBlock, Sort.ahead], fun j hj hne => ?_⟩
  have : g ≠ j := fun e => hne (by rw [e])
  simp [putRow, mapBlock, Sort.ahead, Array.getElem?_modify, this]
theorem heap_put {w : World} {g n k : Nat} {cur : Array Value} {e : TypeId} {fr : Nat × Nat} (d : Array Int) (hb : w.heap[g]? = some (.cells cur e fr)) :
    (putRow (Value.int .i64) (Sort.ahead w n) g k d).heap[g]? = some (.cells (putCells (Value.int .i64) k d cur) e fr) := by
  simp [putRow, mapBlock, Sort.ahead, Array.getElem?_modify, hb, onCells]
theorem compact_own {f : FuncId} (hC : CompI P f) {s : Sl} {l : List Int} (hN : NewI s l Bs) (hW : Cl w0 (L ++ Bs) W) (hl : l.length ≤ 4294967296) :
    Calls P f #[s.v] W fun e' w' => e' = .returned (.slice s.a (Lib.compact l).length s.c) ∧ Cl w0 L w' := by
  have hr := hN.rep.at hW (List.sublist_append_right L Bs)
  have hn := hN.n
  obtain ⟨a, n, c⟩ := s
  simp only at hn
  subst hn
  by_cases h0 : l.length = 0
  · obtain rfl : l = [] := List.eq_nil_of_length_eq_zero h0
    refine (hC.none a c W).mono ?_
    rintro e' w' ⟨rfl, rfl⟩
    rw [compact_nil]
    exact ⟨rfl, hW.sub (List.sublist_append_left L Bs)⟩
  · rcases hN.mem with h1 | ⟨x, hx, i, ha, hi⟩
    · exact absurd h1 h0
    · obtain ⟨b, k, hb, hc⟩ := hr.ptr (by omega)
      simp only at ha hb hi
      subst ha
      simp only [Option.some.injEq, Addr.mk.injEq, and_true] at hb
      obtain ⟨rfl, rfl⟩ := hb
      have hg : W.heap[x.id]? = some (.cells x.cs.toArray x.ty (0, 0)) := hW.holds x (List.mem_append_right _ hx)
      have hH : Holds (Value.int .i64) W x.id i l.toArray := by
        intro j hj
        have hj' : j < l.length := by simpa using hj
        refine ⟨?_, by simp [World.frozen?, hg]⟩
        rw [hc j hj']
        simp [hj']
      refine (hC.some x.id i c l W hH (by omega) hr.cap).mono ?_
      rintro e' w' ⟨rfl, q, rfl⟩
      obtain ⟨A, B, rfl⟩ := List.append_of_mem hx
      have hW1 : Cl w0 (⟨x.id, x.cs, x.ty⟩ :: L) W := by
        have hp : (L ++ (A ++ x :: B)).Perm ((x :: L) ++ (A ++ B)) := by
          refine (List.perm_middle (a := x) (l₁ := L ++ A) (l₂ := B) |>.symm.symm |> fun h => ?_)
          rw [← List.append_assoc]
          refine h.trans ?_
          rw [List.cons_append, List.append_assoc]
        exact (hW.perm hp).sub (List.sublist_append_left _ _)
      refine ⟨rfl, (Cl.regrown (cs := (putCells (Value.int .i64) i (Lib.compact l ++ List.replicate (l.length - (Lib.compact l).length) 0).toArray x.cs.toArray).toList) hW1 (grownBy_put (n := q) (k := i) _) (by simpa using heap_put (n := q) (k := i) _ hg)).drop 1⟩
theorem l_compact {f : FuncId} (hC : CompI P f) {s : Sl} {l : List Int} {x : Operand} {ts : Array TypeId} (hN : NewI s l Bs) (hW : Cl w0 (L ++ Bs) W) (hl : l.length ≤ 4294967296) (he : Enters P f) (hg : o.guard = none) (ho : o.op = .call { callee := .value (.func f), args := #[x], argTypes := ts }) (hx : ev bs us x = s.v) (hd : o.dst = some d)
    (h : ∀ W', Cl w0 L W' → LW r m P ops Q rest (fr bs ((d, .slice s.a (Lib.compact l).length s.c) :: us) ds) W') : LW r m P ops Q (o :: rest) (fr bs us ds) W :=
  LW.call (wanted_none hg) (by rw [eval_ev]; exact run_call (args := [s.v]) he ho (by simp [hx]) W) ((compact_own hC hN hW hl).mono fun _ w ⟨he, hc⟩ => ⟨_, he, by show LW r m P ops Q rest ((fr bs us ds).put o.dst _) w; rw [hd, put_st]; exact h w hc⟩)
end
end Go.Proofs.Ytoegpalacppllaa

/- Taking a subset out of a partition, step by step; findings in memory. No function of the program is in sight here. -/
namespace Go.Proofs.Ytoegpalacppllaa.Tr
open Hn
end Go.Proofs.Ytoegpalacppllaa.Tr
namespace Go.Proofs.Ytoegpalacppllaa
open Go.RowKit Pl Tr Hn
/-- some of the blocks -/
theorem Cl.pick {b : Base} {W : World} {L L' : List Blk} (R : List Blk) (h : Cl b L W) (hp : L.Perm (L' ++ R)) : Cl b L' W := (h.perm hp).sub (List.sublist_append_left L' R)
end Go.Proofs.Ytoegpalacppllaa

/- Copies of elements of many cells, appended zeros where there is no room, an element replaced by two. No function of the program is in sight here. -/
namespace Go.Proofs.Ytoegpalacppllaa
open Go.RowKit Pl Tr Hn

section
variable {P : Program} {ops : Array Oper} {Q : Exit → Act → World → Prop} {bs : List Value} {us : List (Nat × Value)} {ds : List Deferred} {w0 : Base} {W W' : World} {rest : List Oper} {o : Oper} {L Bs : List Blk} {d : Nat} {v : Value} {r : Option (Option Nat)} {m : Nat}
variable {a : Act}
section
variable {S : List Nat} {ks : List Kd} {ms : List Mk} {V : List (List Value)} {R : Act → St → Prop} {T : List Oper → Act → St → Prop}
end
theorem RdG.cell {w : World} {b o n c i : Nat} {cs : List Sl} {gs : List (List Int)} {s : Sl} (k : RdG w ⟨some ⟨b, o, none⟩, n, c⟩ cs gs) (hs : cs[i]? = some s) : w.cell? ⟨b, o + i, none⟩ = some s.v := by
  obtain ⟨b', i', ha, hc⟩ := k.rd.rd i s.v (by rw [List.getElem?_map, hs]; rfl)
  simp only [Option.some.injEq, Addr.mk.injEq, and_true] at ha
  obtain ⟨rfl, rfl⟩ := ha
  exact hc
theorem RdB.cells {w : World} {b i n c j : Nat} {l : List (Int × Int)} (k : RdB w ⟨some ⟨b, i, none⟩, n, c⟩ l) (hj : j < l.length) : w.cell? ⟨b, i + j * 2 + 0, none⟩ = some (IV (qn l j)) ∧ w.cell? ⟨b, i + j * 2 + 1, none⟩ = some (IV (qm l j)) := by
  obtain ⟨b', i', ha, hc⟩ := k.ptr (by omega)
  simp only [Option.some.injEq, Addr.mk.injEq, and_true] at ha
  obtain ⟨rfl, rfl⟩ := ha
  exact hc j hj
end
end Go.Proofs.Ytoegpalacppllaa

/- Headers and their items, as cells. No function of the program is in sight here. -/
namespace Go.Proofs.Ytoegpalacppllaa
open Go.RowKit Pl Tr Hn

/-- the cells of a header without points: its items, its check -/
abbrev hdC (s : Sl) (ck : Kw) : List Value := [.slice s.a s.n s.c, .int .u64 0, .slice none 0 0] ++ (kc (0#64, 0#64) ++ kc ck)
theorem hdC_len (s : Sl) (ck : Kw) : (hdC s ck).length = 35 := by simp [hdC, kc_len]
theorem hdC_one (s : Sl) (ck : Kw) : ∀ v ∈ hdC s ck, v.oneCell' = true := by
  intro v hv
  rcases List.mem_append.1 hv with h | h
  · simp only [List.mem_cons, List.not_mem_nil, or_false] at h
    rcases h with rfl | rfl | rfl <;> rfl
  · rcases List.mem_append.1 h with h | h
    · exact kc_one _ v h
    · exact kc_one _ v h
theorem hdC_key (s : Sl) (ck : Kw) : ((hdC s ck).drop 19).take 16 = kc ck := by
  have h : (hdC s ck).drop 19 = kc ck := by
    rw [hdC, ← List.append_assoc, List.drop_append_of_le_length (by simp [kc_len])]
    rw [List.drop_of_length_le (by simp [kc_len]), List.nil_append]
  rw [h, List.take_of_length_le (by rw [kc_len]; decide)]
/-- the cells of an item -/
def it1 (i : It) : List Value := [.int .i64 i.v, .int .i64 i.x] ++ kc i.k
theorem it1_len (i : It) : (it1 i).length = 18 := by simp [it1, kc_len]
theorem it1_one (i : It) : ∀ v ∈ it1 i, v.oneCell' = true := by
  intro v hv
  rcases List.mem_append.1 hv with h | h
  · simp only [List.mem_cons, List.not_mem_nil, or_false] at h
    rcases h with rfl | rfl <;> rfl
  · exact kc_one _ v h
def itL : List It → List Value
  | [] => []
  | i :: l => it1 i ++ itL l
theorem itL_len : ∀ l, (itL l).length = l.length * 18
  | [] => rfl
  | i :: l => by rw [itL, List.length_append, it1_len, itL_len l, List.length_cons]; omega
theorem itL_append : ∀ l m, itL (l ++ m) = itL l ++ itL m
  | [], m => rfl
  | i :: l, m => by rw [List.cons_append, itL, itL, itL_append l m, List.append_assoc]
theorem itL_get : ∀ {l : List It} {i : Nat} {t : It}, l[i]? = some t → ((itL l).drop (i * 18)).take 18 = it1 t
  | [], i, t, h => by simp at h
  | x :: l, 0, t, h => by
    simp only [List.getElem?_cons_zero, Option.some.injEq] at h
    subst h
    rw [Nat.zero_mul, List.drop_zero, itL, List.take_append_of_le_length (by rw [it1_len]; omega), List.take_of_length_le (by rw [it1_len]; omega)]
  | x :: l, i + 1, t, h => by
    rw [List.getElem?_cons_succ] at h
    have := itL_get h
    rw [itL, List.drop_append, List.drop_of_length_le (by rw [it1_len]; omega), it1_len, List.nil_append, show (i + 1) * 18 - 18 = i * 18 by omega]
    exact this
theorem itL_put : ∀ {l : List It} {i : Nat} {t : It} (k : Kw), l[i]? = some t → (itL l).take (i * 18 + 2) ++ kc k ++ (itL l).drop (i * 18 + 2 + 16) = itL (l.set i ⟨t.v, t.x, k⟩)
  | [], i, t, k, h => by simp at h
  | x :: l, 0, t, k, h => by
    simp only [List.getElem?_cons_zero, Option.some.injEq] at h
    subst h
    have e : (it1 x ++ itL l).drop 18 = itL l := by rw [List.drop_append_of_le_length (by rw [it1_len]; omega), List.drop_of_length_le (by rw [it1_len]; omega), List.nil_append]
    simp only [Nat.zero_mul, Nat.zero_add, itL, List.set_cons_zero]
    rw [e]; rfl
  | x :: l, i + 1, t, k, h => by
    rw [List.getElem?_cons_succ] at h
    have ih := itL_put k h
    have hl := it1_len x
    have e1 : (it1 x ++ itL l).take ((i + 1) * 18 + 2) = it1 x ++ (itL l).take (i * 18 + 2) := by
      rw [List.take_append, List.take_of_length_le (by omega), hl]; congr 2; omega
    have e2 : (it1 x ++ itL l).drop ((i + 1) * 18 + 2 + 16) = (itL l).drop (i * 18 + 2 + 16) := by
      rw [List.drop_append, List.drop_of_length_le (by omega), hl, List.nil_append]; congr 1; omega
    simp only [itL, List.set_cons_succ]
    rw [e1, e2, ← ih, List.append_assoc, List.append_assoc, List.append_assoc]
theorem take_put {cur xs vs : List Value} {N j m : Nat} (h : cur.take N = xs) (hj : j + m ≤ N) (hv : vs.length = m) (hc : N ≤ cur.length) : (cur.take j ++ vs ++ cur.drop (j + m)).take N = xs.take j ++ vs ++ xs.drop (j + m) := by
  subst h
  have h1 : (cur.take j ++ vs).length = j + m := by rw [List.length_append, List.length_take, hv]; omega
  rw [List.take_append, h1, List.take_of_length_le (by rw [h1]; omega), List.take_take, Nat.min_eq_left (by omega), List.drop_take]
/-- a row whose element was put anew -/
theorem OwnSl.item {e : TypeId} {g n c i : Nat} {cur : List Value} {l : List It} {t : It} (h : OwnSl e 18 (some ⟨g, 0, none⟩) n c (itL l) [⟨g, cur, e⟩]) (hi : l[i]? = some t) (k : Kw) : OwnSl e 18 (some ⟨g, 0, none⟩) n c (itL (l.set i ⟨t.v, t.x, k⟩)) [⟨g, cur.take (i * 18 + 2) ++ kc k ++ cur.drop (i * 18 + 2 + 16), e⟩] := by
  have hl := h.1
  have hil := (List.getElem?_eq_some_iff.1 hi).1
  rw [itL_len] at hl
  refine ⟨by rw [itL_len, List.length_set]; omega, .inr ⟨g, _, rfl, rfl, ?_⟩⟩
  rcases h.2 with ⟨h0, -⟩ | ⟨g2, cur2, h1, h2, h3, h4, h5, h6⟩
  · cases h0
  · simp only [List.cons.injEq, Blk.mk.injEq, and_true] at h2
    obtain ⟨rfl, rfl⟩ := h2
    have hm : n * 18 ≤ cur.length := by rw [h5]; exact Nat.mul_le_mul_right 18 h3
    refine ⟨h3, h4, ?_, ?_⟩
    · rw [List.length_append, List.length_append, List.length_take, List.length_drop, kc_len]; omega
    · rw [take_put h6 (by omega) (kc_len k) hm]; exact itL_put k hi
section
variable {P : Program} {ops : Array Oper} {Q : Exit → Act → World → Prop} {bs : List Value} {us : List (Nat × Value)} {ds : List Deferred} {w0 : Base} {W : World} {rest : List Oper} {o : Oper} {L : List Blk} {d : Nat} {S : List Nat} {ks : List Kd} {ms : List Mk} {V : List (List Value)} {R : Act → St → Prop} {T : List Oper → Act → St → Prop}
/-- cells in a row that lie there in each world -/
theorem y_loadRA {t : TypeId} {n : Nat} (ht : TyA P t n) {x : Operand} {b i : Nat} {vs : List Value} (hc : ∀ L2 w, Sim S L L2 → Cl w0 L2 w → ∀ j v, vs[j]? = some v → w.cell? ⟨b, i + j, none⟩ = some v) (hn : vs.length = n) (hw : Region.wanted o (yielded ops (fr bs us ds).tmps) = true) (ho : o.op = .load t x) (hx : ev bs us x = .pointer (some ⟨b, i, none⟩)) (hd : o.dst = some d)
    (h : lx P ops w0 S ms R T ks rest (fr bs ((d, .agg vs.toArray) :: us) ds) (L, V)) : lx P ops w0 S ms R T (.q :: ks) (o :: rest) (fr bs us ds) (L, V) :=
  ⟨.agg vs.toArray, (L, V), ⟨fun L2 hs => yields_run hw fun w hC => by
    rw [eval_ev]
    have hl : (loadCells ⟨b, i, none⟩ vs.length).run P w = .ok vs.toArray w := run_loadCells_list (P := P) w ⟨b, i, none⟩ vs (fun j v hv => by
      rw [Addr.add_lit]
      exact hc L2 w hs hC j v hv)
    rw [hn] at hl
    unfold execOp
    simp only [ho, hx, Instr.loadAt, Instr.sureAddr, Sem.run_bind, Sem.run_pure, Result.andThen_ok]
    simp [loadVar, ht.agg w, ht.size w, hl], rfl⟩, by simp only [putK, hd, put_st]; exact h⟩
end
/-- an item that is read -/
theorem OwnSl.itAt {e : TypeId} {a : Option Addr} {n c i : Nat} {l : List It} {Bs : List Blk} {t : It} (h : OwnSl e 18 a n c (itL l) Bs) (hi : l[i]? = some t) : ∃ g, a = some ⟨g, 0, none⟩ ∧ Rep Bs fun W => ∀ j v, (it1 t)[j]? = some v → W.cell? ⟨g, i * 18 + j, none⟩ = some v := by
  have hl := h.1
  have hil := (List.getElem?_eq_some_iff.1 hi).1
  rw [itL_len] at hl
  obtain ⟨g, cur, ha, hB, h1, h2, h3⟩ := h.row (by omega)
  refine ⟨g, ha, fun b W hW j v hv => ?_⟩
  subst hB
  rw [← Addr.add_lit, cells_of (hW.at 0 rfl)]
  have hj := (List.getElem?_eq_some_iff.1 hv).1
  rw [it1_len] at hj
  have h4 := itL_get hi
  rw [← h3] at h4
  rw [← h4, List.getElem?_take_of_lt hj, List.getElem?_drop, List.getElem?_take_of_lt (by omega)] at hv
  exact hv
end Go.Proofs.Ytoegpalacppllaa

/- Headers, by the program. -/
namespace Go.Proofs.Ytoegpalacppllaa
open Go.RowKit Pl
open Tr Hn
theorem bld_hd (k : Kw) : ∀ w, (Instr.build 75 [(4, keyV k)].toArray).run Try.prog w = .ok (.agg (hdC Sl.no k).toArray) w := fun _ => by kernel_rfl
theorem bld_it (v x : Int) (k : Kw) : ∀ w, (Instr.build 116 [(0, .agg [.int .i64 v, .int .i64 x].toArray), (1, keyV k)].toArray).run Try.prog w = .ok (.agg (it1 ⟨v, x, k⟩).toArray) w := fun _ => by kernel_rfl
theorem bsl_it (i : It) : ∀ w, (Instr.buildSlice 72 1 [(0, .agg (it1 i).toArray)].toArray).run Try.prog w = .ok (.slice (some ⟨w.heap.size, 0, none⟩) 1 1) (w.alloc (.cells (it1 i).toArray 116)) := fun _ => by kernel_rfl
/-- the key of a subset, of whole numbers -/
theorem g_pkeyZ (s : Sc) (k : Kw) (v x : Int) (hs : schB s = true) (hsub : subB s v x = true) : Gives Try.prog 85 [.agg [.int .u8 s.k, .int .i64 s.d, .int .i64 (strideN s.d : Int)].toArray, keyV k, .agg [.int .i64 v, .int .i64 x].toArray].toArray (keyV (keyN k s v.toNat x.toNat)) := by
 obtain ⟨hx1, hx2, hx3, hx4⟩ := sub_x (schB_iff.1 hs).2.2.2.1 hsub
 obtain ⟨v', rfl⟩ : ∃ n : Nat, v = n := ⟨v.toNat, by omega⟩
 obtain ⟨x', rfl⟩ : ∃ n : Nat, x = n := ⟨x.toNat, by omega⟩
 exact g_pkey s k v' x' (by omega) fun h1 h2 => sub_below hsub h1 (by omega)
theorem g_SubsetKeyZ (s : Sc) (k : Kw) (v x : Int) (hs : schB s = true) (hsub : subB s v x = true) : Gives Try.prog 57 [keyV k, .agg [.int .u8 s.k, .int .i64 s.d, .int .i64 s.g, .int .u64 s.p, .int .u64 s.q, .int .u64 s.r].toArray, .agg [.int .i64 v, .int .i64 x].toArray].toArray (.tuple #[keyV (keyN k s v.toNat x.toNat), .int .i64 0]) := by
 obtain ⟨hx1, hx2, hx3, hx4⟩ := sub_x (schB_iff.1 hs).2.2.2.1 hsub
 obtain ⟨v', rfl⟩ : ∃ n : Nat, v = n := ⟨v.toNat, by omega⟩
 obtain ⟨x', rfl⟩ : ∃ n : Nat, x = n := ⟨x.toNat, by omega⟩
 exact g_SubsetKey s k v' x' hs hsub
set_option maxRecDepth 10000 in
set_option maxHeartbeats 1000000 in
/-- headend/cover.Seal -/
theorem g_Seal (root : Kw) (s : Sc) (ra : Option Addr) (rn rc : Nat) (l : List (Int × Int)) (se : Kw) (hq : l.length ≤ 100) : GivesX Try.prog 56 [keyV root, .agg [.int .u8 s.k, .int .i64 s.d, .int .i64 s.g, .int .u64 s.p, .int .u64 s.q, .int .u64 s.r].toArray, .slice ra rn rc, keyV se].toArray (fun w => RdB w ⟨ra, rn, rc⟩ l) (fun u Bs => ∃ (h : Sl) (ck : Kw), u = .tuple #[.agg (hdC h ck).toArray, .int .i64 (sealE s l)] ∧ (sealE s l ≠ 0 → h = Sl.no ∧ ck = (0#64, 0#64)) ∧ (sealE s l = 0 → ck = derive se 53 0 ∧ h.n = l.length ∧ OwnSl 116 18 h.a h.n h.c (itL (sealL root se s l)) Bs)) := by
 refine givesX_of Try.func56 rfl (bs := [keyV root, .agg [.int .u8 s.k, .int .i64 s.d, .int .i64 s.g, .int .u64 s.p, .int .u64 s.q, .int .u64 s.r].toArray, .slice ra rn rc, keyV se, undef, undef, undef, undef, undef, undef, undef, undef, undef, undef, undef, undef, undef, undef, undef, undef, undef, undef, undef, undef, undef, undef, undef, undef, undef, undef, undef, undef, undef, undef, undef, undef, undef, undef, undef, undef, undef, undef, undef, undef, undef, undef, undef, undef, undef, undef, undef, undef, undef, undef, undef, undef, undef, undef, undef, undef]) rfl ?_
 intro w hP hW
 have hn : rn = l.length := hP.len
 refine c_seq (c_reg ?_)
 refine xB hW ?_
 intro g1 W hW
 refine xB hW ?_
 intro g2 W hW
 refine xB hW ?_
 intro g3 W hW
 refine l_alloc hW tyZ75 rfl rfl rfl ?_
 intro g4 W hW
 refine bI ?_
 refine l_end (n_then (c_seq (c_seq (c_reg ?_))))
 refine dA hW 2 tyA26 ?_
 refine l_call hW (g_Check _) en35 rfl rfl rfl rfl ?_
 intro W hW
 refine bI ?_
 refine l_end (n_then (c_seq (c_reg ?_)))
 refine aI ?_
 refine l_val (r_neq rfl rfl rfl rfl) rfl rfl ?_
 refine l_split ?_ ?_
 ·intro hc1
  replace hc1 := of_decide_eq_true hc1
  refine l_end (n_then ?_)
  refine c_true rfl ?_
  refine c_seq (c_reg ?_)
  refine l_val (r_build (ps := []) (bld75_) rfl rfl) rfl rfl ?_
  refine aI ?_
  refine sA hW 0 tyA75 ?_
  intro W hW
  refine bI ?_
  refine l_end (n_then (c_ret (r_then ?_)))
  refine ret_cell_tmp hW 0 tyA75 rfl rfl rfl (by first | exact hdC_len _ _ | rfl | (simp; done)) rfl ?_
  have eE : sealE s l = chk s := sealE_s hc1
  exact ⟨_, [], rfl, ⟨Sl.no, (0#64, 0#64), by rw [eE]; rfl, fun _ => ⟨rfl, rfl⟩, fun h => absurd (eE.symm.trans h) hc1⟩, hW.sub (List.nil_sublist _)⟩
 ·intro hc1
  replace hc1 := of_decide_eq_false hc1
  have hs := chk_zero hc1
  refine l_end (n_then ?_)
  refine c_false rfl ?_
  refine c_skip (n_then (c_seq (c_seq (c_reg ?_))))
  refine aS ?_
  refine l_val (r_lenSlice Try.underlying40 rfl rfl) rfl rfl ?_
  refine l_val (r_gtrN (n := 64) rfl rfl rfl rfl) rfl rfl ?_
  refine l_split ?_ ?_
  ·intro hc2
   replace hc2 := of_decide_eq_true hc2
   refine l_end (n_then ?_)
   refine c_true rfl ?_
   refine c_seq (c_reg ?_)
   refine l_val (r_build (ps := []) (bld75_) rfl rfl) rfl rfl ?_
   refine sA hW 0 tyA75 ?_
   intro W hW
   refine bI ?_
   refine l_end (n_then (c_ret (r_then ?_)))
   refine ret_cell_tmp hW 0 tyA75 rfl rfl rfl (by first | exact hdC_len _ _ | rfl | (simp; done)) rfl ?_
   have eE : sealE s l = 4 := (sealE_l hc1).trans (subsE_many (by omega))
   exact ⟨_, [], rfl, ⟨Sl.no, (0#64, 0#64), by rw [eE]; rfl, fun _ => ⟨rfl, rfl⟩, fun h => absurd (eE.symm.trans h) (by decide)⟩, hW.sub (List.nil_sublist _)⟩
  ·intro hc2
   replace hc2 := of_decide_eq_false hc2
   refine l_end (n_then ?_)
   refine c_false rfl ?_
   refine c_skip (n_then (c_seq (c_reg ?_)))
   refine dA hW 2 tyA26 ?_
   refine aS ?_
   refine l_callR hW (g_enter s ra rn rc l hs hq) en84 (hP.past hW.below) rfl rfl rfl rfl ?_
   intro W hW
   refine l_val (r_move (v := .tuple _) rfl rfl) rfl rfl ?_
   refine l_val (r_extract (v := .agg _) rfl rfl rfl) rfl rfl ?_
   refine l_val (r_extract (v := .int _ _) rfl rfl rfl) rfl rfl ?_
   refine l_alloc hW tyZ124 rfl rfl rfl ?_
   intro g5 W hW
   refine l_storeA hW 0 tyA124 rfl rfl rfl rfl rfl rfl rfl (entT_len _ _) (entT_one _ _) ?_
   intro W hW
   refine bI ?_
   refine l_end (n_then (c_seq (c_seq (c_reg ?_))))
   refine aI ?_
   refine l_val (r_neq rfl rfl rfl rfl) rfl rfl ?_
   refine l_split ?_ ?_
   ·intro hc3
    replace hc3 := of_decide_eq_true hc3
    refine l_end (n_then ?_)
    refine c_true rfl ?_
    refine c_seq (c_reg ?_)
    refine l_val (r_build (ps := []) (bld75_) rfl rfl) rfl rfl ?_
    refine aI ?_
    refine sA hW 1 tyA75 ?_
    intro W hW
    refine bI ?_
    refine l_end (n_then (c_ret (r_then ?_)))
    refine ret_cell_tmp hW 1 tyA75 rfl rfl rfl (by first | exact hdC_len _ _ | rfl | (simp; done)) rfl ?_
    have eE : sealE s l = entE s l := by rw [sealE_l hc1, subsE, if_neg (by omega)]; rfl
    exact ⟨_, [], rfl, ⟨Sl.no, (0#64, 0#64), by rw [eE]; rfl, fun _ => ⟨rfl, rfl⟩, fun h => absurd (eE.symm.trans h) hc3⟩, hW.sub (List.nil_sublist _)⟩
   ·intro hc3
    replace hc3 := of_decide_eq_false hc3
    have hent0 : entE s l = 0 := by omega
    replace hW := (show Cl _ (⟨_, entT s l, _⟩ :: _) _ from hW)
    rw [entT_yes hent0] at hW
    have hsb : ∀ i, i < l.length → subB s (qn l i) (qm l i) = true := fun i hi => by
     cases hb : subB s (qn l i) (qm l i) with
     | true => rfl
     | false => rw [entE_no hi hb] at hent0; exact absurd hent0 (by decide)
    refine l_end (n_then ?_)
    refine c_false rfl ?_
    refine c_skip (n_then (c_seq (c_reg ?_)))
    refine dA hW 2 tyA37 ?_
    refine l_call hW (g_Derive se 53 0) en59 rfl rfl rfl rfl ?_
    intro W hW
    refine l_val (r_build (ps := [(4, .agg _)]) (bld_hd _) rfl rfl) rfl rfl ?_
    refine l_alloc hW tyZ75 rfl rfl rfl ?_
    intro g6 W hW
    refine l_storeA hW 0 tyA75 rfl rfl rfl rfl rfl rfl rfl (hdC_len _ _) (hdC_one _ _) ?_
    intro W hW
    refine l_end (n_then (c_seq (c_seq (c_reg ?_))))
    refine aS ?_
    refine l_val (r_lenSlice Try.underlying40 rfl rfl) rfl rfl ?_
    refine aI ?_
    refine l_end (n_then (c_block ?_))
    refine c_loop (fun (z : Nat × Option Addr × Nat × List Blk) (j : Nat → Value) => [keyV root, .agg [.int .u8 s.k, .int .i64 s.d, .int .i64 s.g, .int .u64 s.p, .int .u64 s.q, .int .u64 s.r].toArray, .slice ra rn rc, keyV se, .pointer (some ⟨g1, 0, none⟩), .pointer (some ⟨g2, 0, none⟩), j 6, .pointer (some ⟨g3, 0, none⟩), .pointer (some ⟨g4, 0, none⟩), .int .i64 0, .int .i64 (chk s), .pointer (some ⟨g5, 0, none⟩), .int .i64 (entE s l), .pointer (some ⟨g6, 0, none⟩), j 14, j 15, .agg ([.int .u8 s.k, .int .i64 s.d, .int .i64 s.g, .int .u64 s.p, .int .u64 s.q, .int .u64 s.r]).toArray, .int .i64 (chk s), .int .i64 (chk s), .bool false, j 20, j 21, .slice ra rn rc, .int .i64 (rn : Int), .bool false, j 25, .tuple #[.agg (entT s l).toArray, .int .i64 (entE s l)], .agg ([.int .u8 s.k, .int .i64 s.d, .int .i64 s.g, .int .u64 s.p, .int .u64 s.q, .int .u64 s.r]).toArray, .slice ra rn rc, .tuple #[.agg (entT s l).toArray, .int .i64 (entE s l)], .agg (entT s l).toArray, .int .i64 (entE s l), .int .i64 (entE s l), .bool false, j 34, j 35, .agg (kc se).toArray, j 37, .agg (hdC Sl.no (derive se 53 0)).toArray, .slice ra rn rc, .int .i64 (rn : Int), .int .i64 (z.1 : Int), j 42, j 43, j 44, j 45, j 46, j 47, j 48, j 49, j 50, j 51, j 52, j 53, j 54, j 55, j 56, j 57, j 58, j 59]) (fun (z : Nat × Option Addr × Nat × List Blk) => [⟨g6, (hdC ⟨z.2.1, z.1, z.2.2.1⟩ (derive se 53 0)), 75⟩, ⟨g5, [.int .u8 s.k, .int .i64 s.d, .int .i64 (strideN s.d : Int)], 124⟩, ⟨g4, z75, 75⟩, ⟨g3, kc se, 37⟩, ⟨g2, [.int .u8 s.k, .int .i64 s.d, .int .i64 s.g, .int .u64 s.p, .int .u64 s.q, .int .u64 s.r], 26⟩, ⟨g1, kc root, 37⟩] ++ z.2.2.2) (fun (z : Nat × Option Addr × Nat × List Blk) => z.1 ≤ rn ∧ OwnSl 116 18 z.2.1 z.1 z.2.2.1 (itL (sealL root se s (l.take z.1))) z.2.2.2) (fun (z : Nat × Option Addr × Nat × List Blk) => rn - z.1) (0, none, 0, []) (by kernel_rfl) (by simpa using hW) ⟨Nat.zero_le _, OwnSl.nil 116 18⟩ ?_
    intro z j W hx hW
    obtain ⟨hz, hO⟩ := hx
    refine c_seq (c_reg ?_)
    refine l_val (r_lssN rfl rfl rfl rfl) rfl rfl ?_
    refine l_split ?_ ?_
    ·intro hc4
     replace hc4 := of_decide_eq_true hc4
     obtain ⟨b0, o0, ha, hc⟩ := hP.ptr (by omega)
     refine l_end (n_then (c_seq ?_))
     refine c_true rfl ?_
     refine c_skip (n_then (c_seq (c_block (c_seq (c_reg ?_)))))
     refine l_val (r_indexAddrSlB (n := z.1) Try.underlying40 tyA112.size rfl (congrArg (fun a => Value.slice a rn rc) ha) rfl (by omega)) rfl rfl ?_
     refine l_loadF2 hW tyA112 (hc z.1 (by omega)).1 (hc z.1 (by omega)).2 rfl rfl rfl rfl ?_
     refine l_alloc hW tyZ112 rfl rfl rfl ?_
     intro g7 W hW
     refine sA hW 0 tyA112 ?_
     intro W hW
     refine l_end (n_then ?_)
     refine c_regM hW [] [.q, .q, .q, .q, .q, .q, .q, .q, .q, .q, .mk 0, .tail, .tail, .tail] [⟨55, bslX 116 1⟩] [it1 (sealI root se s (qn l z.1, qm l z.1))] [10] [0, 1, 0, 0, 0, 0, 56, 0, 248, 508, 1020, 2047, 4095, 8191] (by kernel_rfl) (by kernel_rfl) rfl (by kernel_rfl) ?_
     refine y_val (r_fieldAddr 0 Try.underlying75 rfl tyC72.size rfl rfl rfl) rfl rfl ?_
     refine y_loadC 1 tyC72 rfl rfl rfl rfl rfl rfl (by decide) ?_
     refine y_loadA 0 tyA112 rfl rfl rfl rfl rfl (by first | rfl | exact kc_len _ | exact kcf_len _ | exact boC_len _ _ | (simp; done)) (by decide) ?_
     refine y_loadA 2 tyA124 rfl rfl rfl rfl rfl (by first | rfl | exact kc_len _ | exact kcf_len _ | exact boC_len _ _ | (simp; done)) (by decide) ?_
     refine y_loadA 6 tyA37 rfl rfl rfl rfl rfl (by first | rfl | exact kc_len _ | exact kcf_len _ | exact boC_len _ _ | (simp; done)) (by decide) ?_
     refine y_loadA 0 tyA112 rfl rfl rfl rfl rfl (by first | rfl | exact kc_len _ | exact kcf_len _ | exact boC_len _ _ | (simp; done)) (by decide) ?_
     refine y_call (g_pkeyZ s root (qn l z.1) (qm l z.1) hs (hsb z.1 (by omega))) en85 rfl rfl rfl rfl ?_
     refine y_loadA 4 tyA37 rfl rfl rfl rfl rfl (by first | rfl | exact kc_len _ | exact kcf_len _ | exact boC_len _ _ | (simp; done)) (by decide) ?_
     refine y_call (g_Encrypt (keyN root s (qn l z.1).toNat (qm l z.1).toNat) se) en58 rfl rfl rfl rfl ?_
     refine y_val (r_build (ps := [(0, .agg _), (1, .agg _)]) (bld_it _ _ _) rfl rfl) rfl rfl ?_
     refine y_buildSliceF 0 (bsl_it _) rfl rfl rfl rfl ?_
     refine y_tail ?_
     refine y_made ?_
     rintro _ _ ⟨gs, rfl, rfl⟩
     intro W hW
     refine l_appendB tyE72 (L := [_, _, _, _, _, _, _, _]) hO hW 0 (N := z.1 + 1) rfl rfl rfl rfl rfl rfl rfl (it1_len _) (it1_one _) (by unfold maxLen; omega) (by omega) ?_
     intro a1 c1 Bs1 W hO1 hW
     replace hO1 := hO1.castx rfl (xs' := itL (sealL root se s (l.take (z.1 + 1)))) (by rw [sealL_take (by omega), itL_append]; simp [itL])
     refine l_val (r_fieldAddr 0 Try.underlying75 rfl tyC72.size rfl rfl rfl) rfl rfl ?_
     refine l_storeC hW 2 tyC72 (v := .slice a1 (z.1 + 1) c1) rfl rfl rfl rfl rfl rfl (by rw [hdC_len]; decide) rfl ?_
     intro W hW
     refine l_end (n_block (n_then (c_reg ?_)))
     refine l_val (r_addN (n := 1) rfl rfl rfl (by omega)) rfl rfl ?_
     refine aI ?_
     refine l_end (n_then ?_)
     exact loop_next (z.1 + 1, a1, c1, Bs1) (by kernel_rfl) (hW.drop 2) ⟨by simp only; omega, hO1⟩ (by simp only; omega)
    ·intro hc4
     replace hc4 := of_decide_eq_false hc4
     refine l_end (n_then (c_seq ?_))
     refine c_false rfl ?_
     refine c_exit (x_then (x_then ?_))
     refine x_hit ?_
     refine n_then (c_seq (c_reg ?_))
     refine l_loadA hW 0 tyA75 rfl rfl rfl rfl rfl (hdC_len _ _) ?_
     refine l_storeA hW 2 tyA75 rfl rfl rfl rfl rfl rfl rfl (hdC_len _ _) (hdC_one _ _) ?_
     intro W hW
     refine bI ?_
     refine l_end (n_then (c_ret ?_))
     refine ret_cell_tmp hW 2 tyA75 rfl rfl rfl (by first | exact hdC_len _ _ | rfl | (simp; done)) rfl ?_
     have eE : sealE s l = 0 := by rw [sealE_l hc1, subsE, if_neg (by omega)]; exact hent0
     have ez : z.1 = l.length := by omega
     rw [ez, List.take_of_length_le (Nat.le_refl _)] at hO
     exact ⟨_, z.2.2.2, rfl, ⟨⟨z.2.1, z.1, z.2.2.1⟩, derive se 53 0, by rw [eE]; rfl, fun h => absurd eE h, fun _ => ⟨rfl, ez, by rw [ez]; exact hO⟩⟩, (show Cl _ ([_, _, _, _, _, _] ++ z.2.2.2) _ from hW).sub (List.sublist_append_right _ _)⟩

end Go.Proofs.Ytoegpalacppllaa

/- Partitions, by the reference. -/
namespace Go.Proofs.Ytoegpalacppllaa
open Go.RowKit Pl
open Tr Hn
set_option maxRecDepth 10000 in
/-- headend/headendref08.CheckParts -/
theorem g_rCheckParts (s : Sc) (ba : Option Addr) (bn bc : Nat) (l : List (Int × Int)) (hl : l.length ≤ 100) : GivesR Try.prog 33 [.agg [.int .u8 s.k, .int .i64 s.d, .int .i64 s.g, .int .u64 s.p, .int .u64 s.q, .int .u64 s.r].toArray, .slice ba bn bc].toArray (fun w => RdB w ⟨ba, bn, bc⟩ l) (.int .i64 (partsE s l)) := by
 refine givesR_of Try.func33 rfl (bs := [.agg [.int .u8 s.k, .int .i64 s.d, .int .i64 s.g, .int .u64 s.p, .int .u64 s.q, .int .u64 s.r].toArray, .slice ba bn bc, undef, undef, undef, undef, undef, undef, undef, undef, undef, undef, undef, undef, undef, undef, undef, undef, undef, undef, undef, undef, undef, undef, undef, undef, undef, undef, undef, undef, undef, undef, undef, undef, undef, undef, undef, undef, undef, undef, undef, undef, undef, undef, undef]) rfl ?_
 intro w hP hW
 have hn : bn = l.length := hP.len
 refine c_seq (c_reg ?_)
 refine xB hW ?_
 intro g1 W hW
 refine bI ?_
 refine l_end (n_then (c_seq (c_seq (c_reg ?_))))
 refine dA hW 0 tyA26 ?_
 refine l_call hW (g_rCheck _) en36 rfl rfl rfl rfl ?_
 intro W hW
 refine bI ?_
 refine l_end (n_then (c_seq (c_reg ?_)))
 refine aI ?_
 refine l_val (r_neq rfl rfl rfl rfl) rfl rfl ?_
 refine l_split ?_ ?_
 ·intro hc1
  replace hc1 := of_decide_eq_true hc1
  have hs := chk_bad hc1
  refine l_end (n_then ?_)
  refine c_true rfl ?_
  refine c_seq (c_reg ?_)
  refine aI ?_
  refine bI ?_
  refine l_end (n_then (c_ret (r_then ?_)))
  refine ret_tmp (v := .int .i64 (partsE s l)) rfl ?_ ⟨rfl, hW.below⟩
  exact congrArg (Value.int .i64) (parts_s hc1).symm
 ·intro hc1
  replace hc1 := of_decide_eq_false hc1
  have hs := chk_zero hc1
  obtain ⟨k1, k3, d0, d6, -⟩ := schB_iff.1 hs
  have hp := p2_le (n := s.d.toNat) (by omega)
  refine l_end (n_then ?_)
  refine c_false rfl ?_
  refine c_skip (n_then (c_seq (c_seq (c_reg ?_))))
  refine dA hW 0 tyA26 ?_
  refine aS ?_
  refine l_callR hW (g_rsubsets s ba bn bc l hs hl) en42 (hP.past hW.below) rfl rfl rfl rfl ?_
  intro W hW
  refine bI ?_
  refine l_end (n_then (c_seq (c_reg ?_)))
  refine aI ?_
  refine l_val (r_neq rfl rfl rfl rfl) rfl rfl ?_
  refine l_split ?_ ?_
  ·intro hc2
   replace hc2 := of_decide_eq_true hc2
   refine l_end (n_then ?_)
   refine c_true rfl ?_
   refine c_seq (c_reg ?_)
   refine aI ?_
   refine bI ?_
   refine l_end (n_then (c_ret (r_then ?_)))
   refine ret_tmp (v := .int .i64 (partsE s l)) rfl ?_ ⟨rfl, hW.below⟩
   have hz : ¬ chk s ≠ 0 := hc1
   exact congrArg (Value.int .i64) (parts_l hz hc2).symm
  ·intro hc2
   replace hc2 := of_decide_eq_false hc2
   obtain ⟨hq2, hbb⟩ := subsE_ok hc2
   refine l_end (n_then ?_)
   refine c_false rfl ?_
   refine c_skip (n_then (c_seq (c_seq (c_reg ?_))))
   refine bI ?_
   refine l_end (n_then (c_block ?_))
   refine c_loop (fun (u : Nat) (j : Nat → Value) => [.agg [.int .u8 s.k, .int .i64 s.d, .int .i64 s.g, .int .u64 s.p, .int .u64 s.q, .int .u64 s.r].toArray, .slice ba bn bc, .pointer (some ⟨g1, 0, none⟩), j 3, j 4, .int .i64 (chk s), .int .i64 (subsE s l), .int .i64 (u : Int), j 8, j 9, .agg ([.int .u8 s.k, .int .i64 s.d, .int .i64 s.g, .int .u64 s.p, .int .u64 s.q, .int .u64 s.r]).toArray, .int .i64 (chk s), .int .i64 (chk s), .bool false, j 14, .agg ([.int .u8 s.k, .int .i64 s.d, .int .i64 s.g, .int .u64 s.p, .int .u64 s.q, .int .u64 s.r]).toArray, .slice ba bn bc, .int .i64 (subsE s l), .int .i64 (subsE s l), .bool false, j 20, j 21, j 22, j 23, j 24, j 25, j 26, j 27, j 28, j 29, j 30, j 31, j 32, j 33, j 34, j 35, j 36, j 37, j 38, j 39, j 40, j 41, j 42, j 43, j 44]) (fun (u : Nat) => [⟨g1, [.int .u8 s.k, .int .i64 s.d, .int .i64 s.g, .int .u64 s.p, .int .u64 s.q, .int .u64 s.r], 26⟩]) (fun (u : Nat) => u ≤ p2 s.d.toNat ∧ ∀ k, k < u → ¬ 1 < cntR s l k l.length) (fun (u : Nat) => p2 s.d.toNat - u) 0 (by kernel_rfl) hW ⟨by omega, all_zero⟩ ?_
   intro u j W hx hW
   obtain ⟨hu0, hub⟩ := hx
   refine c_seq (c_seq (c_reg ?_))
   refine aI ?_
   refine l_val (r_fieldAddr 1 Try.underlying26 rfl tyC3.size rfl rfl rfl) rfl rfl ?_
   refine dC hW 0 tyC3 ?_
   refine l_call hW (g_Receivers _ (by omega) (by omega)) en65 rfl rfl rfl rfl ?_
   intro W hW
   refine l_val (r_lssN rfl rfl rfl rfl) rfl rfl ?_
   refine l_split ?_ ?_
   ·intro hc3
    replace hc3 := of_decide_eq_true hc3
    refine l_end (n_then ?_)
    refine c_true rfl ?_
    refine c_skip (n_then (c_seq (c_block (c_seq (c_reg ?_)))))
    refine bI ?_
    refine l_end (n_then (c_seq (c_seq (c_reg ?_))))
    refine bI ?_
    refine l_end (n_then (c_block ?_))
    refine c_loop (fun (y : Nat × Nat) (j : Nat → Value) => [.agg [.int .u8 s.k, .int .i64 s.d, .int .i64 s.g, .int .u64 s.p, .int .u64 s.q, .int .u64 s.r].toArray, .slice ba bn bc, .pointer (some ⟨g1, 0, none⟩), j 3, j 4, .int .i64 (chk s), .int .i64 (subsE s l), .int .i64 (u : Int), .int .i64 (y.2 : Int), .int .i64 (y.1 : Int), .agg ([.int .u8 s.k, .int .i64 s.d, .int .i64 s.g, .int .u64 s.p, .int .u64 s.q, .int .u64 s.r]).toArray, .int .i64 (chk s), .int .i64 (chk s), .bool false, j 14, .agg ([.int .u8 s.k, .int .i64 s.d, .int .i64 s.g, .int .u64 s.p, .int .u64 s.q, .int .u64 s.r]).toArray, .slice ba bn bc, .int .i64 (subsE s l), .int .i64 (subsE s l), .bool false, j 20, .int .i64 (u : Int), .pointer (some ⟨g1, 1, none⟩), .int .i64 s.d, .int .i64 ((p2 s.d.toNat : Nat) : Int), .bool true, j 26, j 27, j 28, j 29, j 30, j 31, j 32, j 33, j 34, j 35, j 36, j 37, j 38, j 39, j 40, j 41, j 42, j 43, j 44]) (fun (y : Nat × Nat) => [⟨g1, [.int .u8 s.k, .int .i64 s.d, .int .i64 s.g, .int .u64 s.p, .int .u64 s.q, .int .u64 s.r], 26⟩]) (fun (y : Nat × Nat) => y.1 ≤ bn ∧ y.2 = cntR s l u y.1) (fun (y : Nat × Nat) => bn - y.1) (0, 0) (by kernel_rfl) hW ⟨Nat.zero_le _, rfl⟩ ?_
    intro y j W hx hW
    obtain ⟨hy0, hy⟩ := hx
    have hyl := cntR_le s l u y.1
    refine c_seq (c_seq (c_reg ?_))
    refine aI ?_
    refine aS ?_
    refine l_val (r_lenSlice Try.underlying40 rfl rfl) rfl rfl ?_
    refine l_val (r_lssN rfl rfl rfl rfl) rfl rfl ?_
    refine l_split ?_ ?_
    ·intro hc4
     replace hc4 := of_decide_eq_true hc4
     obtain ⟨b0, o0, ha, hc⟩ := hP.ptr (by omega)
     simp only at ha
     subst ha
     refine l_end (n_then ?_)
     refine c_true rfl ?_
     refine c_skip (n_then (c_seq (c_block (c_seq ?_))))
     refine c_regY hW [] [.q, .q, .q, .q, .q, .q, .q] [0, 0, 0, 6, 14, 0, 63] (by kernel_rfl) (by kernel_rfl) ?_
     refine y_loadA 0 tyA26 rfl rfl rfl rfl rfl (by first | rfl | exact kc_len _ | exact kcf_len _ | exact boC_len _ _ | (simp; done)) (by decide) ?_
     refine yS ?_
     refine yI ?_
     refine y_val (r_indexAddrSlB (n := y.1) Try.underlying40 tyA112.size rfl rfl rfl (by omega)) rfl rfl ?_
     refine y_loadF2 tyA112 (hc y.1 (by omega)).1 (hc y.1 (by omega)).2 (by kernel_rfl) rfl rfl rfl ?_
     refine yI ?_
     refine y_call (g_rHas s (qn l y.1) (qm l y.1) u hs (hbb y.1 (by omega)) (by omega)) en66 rfl rfl rfl rfl ?_
     refine y_split ?_ ?_
     ·intro hc5
      refine y_end ?_
      intro W hW
      refine n_then ?_
      refine c_true rfl ?_
      refine c_reg ?_
      refine aI ?_
      refine l_val (r_addN (n := 1) rfl rfl rfl (by omega)) rfl rfl ?_
      refine bI ?_
      refine l_end (n_block (n_then (c_reg ?_)))
      refine aI ?_
      refine l_val (r_addN (n := 1) rfl rfl rfl (by omega)) rfl rfl ?_
      refine bI ?_
      refine l_end (n_then ?_)
      exact loop_next (y.1 + 1, y.2 + 1) (by kernel_rfl) hW ⟨by simp only; omega, by simp only; rw [cntR_yes hc5]; omega⟩ (by simp only; omega)
     ·intro hc5
      refine y_end ?_
      intro W hW
      refine n_then ?_
      refine c_false rfl ?_
      refine c_skip (n_block (n_then (c_reg ?_)))
      refine aI ?_
      refine l_val (r_addN (n := 1) rfl rfl rfl (by omega)) rfl rfl ?_
      refine bI ?_
      refine l_end (n_then ?_)
      exact loop_next (y.1 + 1, y.2) (by kernel_rfl) hW ⟨by simp only; omega, by simp only; rw [cntR_no hc5]; omega⟩ (by simp only; omega)
    ·intro hc4
     replace hc4 := of_decide_eq_false hc4
     refine l_end (n_then ?_)
     refine c_false rfl ?_
     refine c_exit (x_then (x_then ?_))
     refine x_hit ?_
     refine n_then (c_seq (c_reg ?_))
     refine aI ?_
     refine l_val (r_gtrN (n := 1) rfl rfl rfl rfl) rfl rfl ?_
     refine l_split ?_ ?_
     ·intro hc6
      replace hc6 := of_decide_eq_true hc6
      refine l_end (n_then ?_)
      refine c_true rfl ?_
      refine c_seq (c_reg ?_)
      refine bI ?_
      refine l_end (n_then (c_ret (r_block (r_then (r_then (r_block (r_then ?_)))))))
      refine ret_tmp (v := .int .i64 (partsE s l)) rfl ?_ ⟨rfl, hW.below⟩
      have hz : ¬ chk s ≠ 0 := hc1
      have e2 : y.1 = l.length := by omega
      rw [e2] at hy
      exact congrArg (Value.int .i64) (parts_n hz hc2 (parts_two (u := u) (by omega) (by omega))).symm
     ·intro hc6
      replace hc6 := of_decide_eq_false hc6
      have hnot : ¬ 1 < cntR s l u l.length := by
       have e2 : y.1 = l.length := by omega
       rw [e2] at hy
       omega
      refine l_end (n_then ?_)
      refine c_false rfl ?_
      refine c_skip (n_block (n_then (c_reg ?_)))
      refine aI ?_
      refine l_val (r_addN (n := 1) rfl rfl rfl (by omega)) rfl rfl ?_
      refine bI ?_
      refine l_end (n_then ?_)
      exact loop_next (u + 1) (by kernel_rfl) hW ⟨by omega, all_upto hub hnot⟩ (by omega)
   ·intro hc3
    replace hc3 := of_decide_eq_false hc3
    refine l_end (n_then ?_)
    refine c_false rfl ?_
    refine c_exit (x_then (x_then ?_))
    refine x_hit ?_
    refine n_then (c_seq (c_reg ?_))
    refine bI ?_
    refine l_end (n_then (c_ret ?_))
    refine ret_tmp (v := .int .i64 (partsE s l)) rfl ?_ ⟨rfl, hW.below⟩
    have hz : ¬ chk s ≠ 0 := hc1
    exact congrArg (Value.int .i64) (parts_y hz hc2 (parts_one fun k hk => hub k (by omega))).symm

end Go.Proofs.Ytoegpalacppllaa

/- Headers, by the reference. -/
namespace Go.Proofs.Ytoegpalacppllaa
open Go.RowKit Pl
open Tr Hn
set_option maxRecDepth 10000 in
set_option maxHeartbeats 1000000 in
/-- headend/headendref03.Seal -/
theorem g_rSeal (root : Kw) (s : Sc) (ra : Option Addr) (rn rc : Nat) (l : List (Int × Int)) (se : Kw) : GivesX Try.prog 60 [keyV root, .agg [.int .u8 s.k, .int .i64 s.d, .int .i64 s.g, .int .u64 s.p, .int .u64 s.q, .int .u64 s.r].toArray, .slice ra rn rc, keyV se].toArray (fun w => RdB w ⟨ra, rn, rc⟩ l) (fun u Bs => ∃ (h : Sl) (ck : Kw), u = .tuple #[.agg (hdC h ck).toArray, .int .i64 (sealE s l)] ∧ (sealE s l ≠ 0 → h = Sl.no ∧ ck = (0#64, 0#64)) ∧ (sealE s l = 0 → ck = derive se 53 0 ∧ h.n = l.length ∧ OwnSl 116 18 h.a h.n h.c (itL (sealL root se s l)) Bs)) := by
 refine givesX_of Try.func60 rfl (bs := [keyV root, .agg [.int .u8 s.k, .int .i64 s.d, .int .i64 s.g, .int .u64 s.p, .int .u64 s.q, .int .u64 s.r].toArray, .slice ra rn rc, keyV se, undef, undef, undef, undef, undef, undef, undef, undef, undef, undef, undef, undef, undef, undef, undef, undef, undef, undef, undef, undef, undef, undef, undef, undef, undef, undef, undef, undef, undef, undef, undef, undef, undef, undef, undef, undef, undef, undef, undef, undef, undef, undef, undef, undef, undef, undef, undef, undef, undef, undef, undef, undef, undef, undef, undef, undef, undef, undef, undef, undef]) rfl ?_
 intro w hP hW
 have hn : rn = l.length := hP.len
 refine c_seq (c_reg ?_)
 refine xB hW ?_
 intro g1 W hW
 refine xB hW ?_
 intro g2 W hW
 refine xB hW ?_
 intro g3 W hW
 refine l_alloc hW tyZ75 rfl rfl rfl ?_
 intro g4 W hW
 refine bI ?_
 refine l_end (n_then (c_seq (c_seq (c_reg ?_))))
 refine dA hW 2 tyA26 ?_
 refine l_call hW (g_rValid _) en68 rfl rfl rfl rfl ?_
 intro W hW
 refine l_split ?_ ?_
 ·intro hc1
  have hs := hc1
  refine l_val (r_not rfl rfl) rfl rfl ?_
  refine l_end (n_then ?_)
  refine c_false rfl ?_
  refine c_skip (n_then (c_seq (c_seq (c_reg ?_))))
  refine aS ?_
  refine l_val (r_lenSlice Try.underlying40 rfl rfl) rfl rfl ?_
  refine l_val (r_gtrN (n := 64) rfl rfl rfl rfl) rfl rfl ?_
  refine l_split ?_ ?_
  ·intro hc2
   replace hc2 := of_decide_eq_true hc2
   refine l_end (n_then ?_)
   refine c_true rfl ?_
   refine c_seq (c_reg ?_)
   refine l_val (r_build (ps := []) (bld75_) rfl rfl) rfl rfl ?_
   refine sA hW 0 tyA75 ?_
   intro W hW
   refine bI ?_
   refine l_end (n_then (c_ret (r_then ?_)))
   refine ret_cell_tmp hW 0 tyA75 rfl rfl rfl (by first | exact hdC_len _ _ | rfl | (simp; done)) rfl ?_
   have hcz : ¬ chk s ≠ 0 := by rw [chk_yes hc1]; decide
   have eE : sealE s l = 4 := (sealE_l hcz).trans (subsE_many (by omega))
   exact ⟨_, [], rfl, ⟨Sl.no, (0#64, 0#64), by rw [eE]; rfl, fun _ => ⟨rfl, rfl⟩, fun h => absurd (eE.symm.trans h) (by decide)⟩, hW.sub (List.nil_sublist _)⟩
  ·intro hc2
   replace hc2 := of_decide_eq_false hc2
   refine l_end (n_then ?_)
   refine c_false rfl ?_
   refine c_skip (n_then (c_seq (c_seq (c_reg ?_))))
   refine bI ?_
   refine l_end (n_then (c_block ?_))
   refine c_loop (fun (i : Nat) (j : Nat → Value) => [keyV root, .agg [.int .u8 s.k, .int .i64 s.d, .int .i64 s.g, .int .u64 s.p, .int .u64 s.q, .int .u64 s.r].toArray, .slice ra rn rc, keyV se, .pointer (some ⟨g1, 0, none⟩), .pointer (some ⟨g2, 0, none⟩), j 6, .pointer (some ⟨g3, 0, none⟩), .pointer (some ⟨g4, 0, none⟩), j 9, .int .i64 (i : Int), j 11, j 12, .agg ([.int .u8 s.k, .int .i64 s.d, .int .i64 s.g, .int .u64 s.p, .int .u64 s.q, .int .u64 s.r]).toArray, .bool true, .bool false, j 16, .slice ra rn rc, .int .i64 (rn : Int), .bool false, j 20, j 21, j 22, j 23, j 24, j 25, j 26, j 27, j 28, j 29, j 30, j 31, j 32, j 33, j 34, j 35, j 36, j 37, j 38, j 39, j 40, j 41, j 42, j 43, j 44, j 45, j 46, j 47, j 48, j 49, j 50, j 51, j 52, j 53, j 54, j 55, j 56, j 57, j 58, j 59, j 60, j 61, j 62, j 63]) (fun (i : Nat) => [⟨g4, z75, 75⟩, ⟨g3, kc se, 37⟩, ⟨g2, [.int .u8 s.k, .int .i64 s.d, .int .i64 s.g, .int .u64 s.p, .int .u64 s.q, .int .u64 s.r], 26⟩, ⟨g1, kc root, 37⟩]) (fun (i : Nat) => i ≤ rn ∧ ∀ k, k < i → subB s (qn l k) (qm l k) = true) (fun (i : Nat) => rn - i) 0 (by kernel_rfl) hW ⟨by omega, fun k hk => by omega⟩ ?_
   intro i j W hx hW
   obtain ⟨hi0, hib⟩ := hx
   refine c_seq (c_seq (c_reg ?_))
   refine aI ?_
   refine aS ?_
   refine l_val (r_lenSlice Try.underlying40 rfl rfl) rfl rfl ?_
   refine l_val (r_lssN rfl rfl rfl rfl) rfl rfl ?_
   refine l_split ?_ ?_
   ·intro hc3
    replace hc3 := of_decide_eq_true hc3
    obtain ⟨b0, o0, ha, hc⟩ := hP.ptr (by omega)
    refine l_end (n_then ?_)
    refine c_true rfl ?_
    refine c_skip (n_then (c_seq (c_block (c_seq ?_))))
    refine c_regY hW [] [.q, .q, .q, .q, .q, .q, .q] [0, 0, 0, 6, 14, 31, 63] (by kernel_rfl) (by kernel_rfl) ?_
    refine y_loadA 2 tyA26 rfl rfl rfl rfl rfl (by first | rfl | exact kc_len _ | exact kcf_len _ | exact boC_len _ _ | (simp; done)) (by decide) ?_
    refine yS ?_
    refine yI ?_
    refine y_val (r_indexAddrSlB (n := i) Try.underlying40 tyA112.size rfl (congrArg (fun a => Value.slice a rn rc) ha) rfl (by omega)) rfl rfl ?_
    refine y_loadF2 tyA112 (hc i (by omega)).1 (hc i (by omega)).2 (by kernel_rfl) rfl rfl rfl ?_
    refine y_call (g_rIsSubset s (qn l i) (qm l i) hs) en75 rfl rfl rfl rfl ?_
    refine y_split ?_ ?_
    ·intro hc4
     refine y_val (r_not rfl rfl) rfl rfl ?_
     refine y_end ?_
     intro W hW
     refine n_then ?_
     refine c_false rfl ?_
     refine c_skip (n_block (n_then (c_reg ?_)))
     refine aI ?_
     refine l_val (r_addN (n := 1) rfl rfl rfl (by omega)) rfl rfl ?_
     refine bI ?_
     refine l_end (n_then ?_)
     exact loop_next (i + 1) (by kernel_rfl) hW ⟨by omega, all_upto hib hc4⟩ (by omega)
    ·intro hc4
     refine y_val (r_not rfl rfl) rfl rfl ?_
     refine y_end ?_
     intro W hW
     refine n_then ?_
     refine c_true rfl ?_
     refine c_seq (c_reg ?_)
     refine l_val (r_build (ps := []) (bld75_) rfl rfl) rfl rfl ?_
     refine sA hW 0 tyA75 ?_
     intro W hW
     refine bI ?_
     refine l_end (n_then (c_ret (r_block (r_then (r_then (r_block (r_then ?_)))))))
     refine ret_cell_tmp hW 0 tyA75 rfl rfl rfl (by first | exact hdC_len _ _ | rfl | (simp; done)) rfl ?_
     have hcz : ¬ chk s ≠ 0 := by rw [chk_yes hc1]; decide
     have eE : sealE s l = 31 := (sealE_l hcz).trans (subsE_no (by omega) (i := i) (by omega) hc4)
     exact ⟨_, [], rfl, ⟨Sl.no, (0#64, 0#64), by rw [eE]; rfl, fun _ => ⟨rfl, rfl⟩, fun h => absurd (eE.symm.trans h) (by decide)⟩, hW.sub (List.nil_sublist _)⟩
   ·intro hc3
    replace hc3 := of_decide_eq_false hc3
    have hsb : ∀ k, k < l.length → subB s (qn l k) (qm l k) = true := fun k hk => hib k (by omega)
    refine l_end (n_then ?_)
    refine c_false rfl ?_
    refine c_exit (x_then (x_then ?_))
    refine x_hit ?_
    refine n_then (c_seq (c_reg ?_))
    refine dA hW 1 tyA37 ?_
    refine l_call hW (g_rDerive se 53 0) en63 rfl rfl rfl rfl ?_
    intro W hW
    refine l_val (r_build (ps := [(4, .agg _)]) (bld_hd _) rfl rfl) rfl rfl ?_
    refine l_alloc hW tyZ75 rfl rfl rfl ?_
    intro g5 W hW
    refine l_storeA hW 0 tyA75 rfl rfl rfl rfl rfl rfl rfl (hdC_len _ _) (hdC_one _ _) ?_
    intro W hW
    refine l_end (n_then (c_seq (c_seq (c_reg ?_))))
    refine bI ?_
    refine l_end (n_then (c_block ?_))
    refine c_loop (fun (z : Nat × Option Addr × Nat × List Blk) (j : Nat → Value) => [keyV root, .agg [.int .u8 s.k, .int .i64 s.d, .int .i64 s.g, .int .u64 s.p, .int .u64 s.q, .int .u64 s.r].toArray, .slice ra rn rc, keyV se, .pointer (some ⟨g1, 0, none⟩), .pointer (some ⟨g2, 0, none⟩), j 6, .pointer (some ⟨g3, 0, none⟩), .pointer (some ⟨g4, 0, none⟩), j 9, j 10, .pointer (some ⟨g5, 0, none⟩), .int .i64 (z.1 : Int), .agg ([.int .u8 s.k, .int .i64 s.d, .int .i64 s.g, .int .u64 s.p, .int .u64 s.q, .int .u64 s.r]).toArray, .bool true, .bool false, j 16, .slice ra rn rc, .int .i64 (rn : Int), .bool false, j 20, j 21, .slice ra rn rc, .int .i64 (rn : Int), .bool false, j 25, j 26, j 27, j 28, j 29, j 30, j 31, j 32, j 33, j 34, .agg (kc se).toArray, j 36, .agg (hdC Sl.no (derive se 53 0)).toArray, j 38, j 39, j 40, j 41, j 42, j 43, j 44, j 45, j 46, j 47, j 48, j 49, j 50, j 51, j 52, j 53, j 54, j 55, j 56, j 57, j 58, j 59, j 60, j 61, j 62, j 63]) (fun (z : Nat × Option Addr × Nat × List Blk) => [⟨g5, (hdC ⟨z.2.1, z.1, z.2.2.1⟩ (derive se 53 0)), 75⟩, ⟨g4, z75, 75⟩, ⟨g3, kc se, 37⟩, ⟨g2, [.int .u8 s.k, .int .i64 s.d, .int .i64 s.g, .int .u64 s.p, .int .u64 s.q, .int .u64 s.r], 26⟩, ⟨g1, kc root, 37⟩] ++ z.2.2.2) (fun (z : Nat × Option Addr × Nat × List Blk) => z.1 ≤ rn ∧ OwnSl 116 18 z.2.1 z.1 z.2.2.1 (itL (sealL root se s (l.take z.1))) z.2.2.2) (fun (z : Nat × Option Addr × Nat × List Blk) => rn - z.1) (0, none, 0, []) (by kernel_rfl) (by simpa using hW) ⟨Nat.zero_le _, OwnSl.nil 116 18⟩ ?_
    intro z j W hx hW
    obtain ⟨hz, hO⟩ := hx
    refine c_seq (c_seq (c_reg ?_))
    refine aI ?_
    refine aS ?_
    refine l_val (r_lenSlice Try.underlying40 rfl rfl) rfl rfl ?_
    refine l_val (r_lssN rfl rfl rfl rfl) rfl rfl ?_
    refine l_split ?_ ?_
    ·intro hc5
     replace hc5 := of_decide_eq_true hc5
     obtain ⟨b1, o1, ha, hd⟩ := hP.ptr (by omega)
     refine l_end (n_then ?_)
     refine c_true rfl ?_
     refine c_skip (n_then (c_seq (c_block ?_)))
     refine c_regM hW [] [.q, .q, .q, .q, .q, .q, .q, .q, .q, .q, .q, .q, .q, .q, .q, .q, .mk 0, .tail, .tail, .tail] [⟨60, bslX 116 1⟩] [it1 (sealI root se s (qn l z.1, qm l z.1))] [16] [0, 1, 0, 0, 12, 28, 0, 0, 0, 0, 768, 1792, 4032, 0, 16320, 32764, 65532, 131071, 262143, 524287] (by kernel_rfl) (by kernel_rfl) rfl (by kernel_rfl) ?_
     refine y_val (r_fieldAddr 0 Try.underlying75 rfl tyC72.size rfl rfl rfl) rfl rfl ?_
     refine y_loadC 0 tyC72 rfl rfl rfl rfl rfl rfl (by decide) ?_
     refine yS ?_
     refine yI ?_
     refine y_val (r_indexAddrSlB (n := z.1) Try.underlying40 tyA112.size rfl (congrArg (fun a => Value.slice a rn rc) ha) rfl (by omega)) rfl rfl ?_
     refine y_loadF2 tyA112 (hd z.1 (by omega)).1 (hd z.1 (by omega)).2 (by kernel_rfl) rfl rfl rfl ?_
     refine y_loadA 4 tyA37 rfl rfl rfl rfl rfl (by first | rfl | exact kc_len _ | exact kcf_len _ | exact boC_len _ _ | (simp; done)) (by decide) ?_
     refine y_loadA 3 tyA26 rfl rfl rfl rfl rfl (by first | rfl | exact kc_len _ | exact kcf_len _ | exact boC_len _ _ | (simp; done)) (by decide) ?_
     refine yS ?_
     refine yI ?_
     refine y_val (r_indexAddrSlB (n := z.1) Try.underlying40 tyA112.size rfl (congrArg (fun a => Value.slice a rn rc) ha) rfl (by omega)) rfl rfl ?_
     refine y_loadF2 tyA112 (hd z.1 (by omega)).1 (hd z.1 (by omega)).2 (by kernel_rfl) rfl rfl rfl ?_
     refine y_call (g_rKeyOfZ s root (qn l z.1) (qm l z.1) hs (hsb z.1 (by omega))) en62 rfl rfl rfl rfl ?_
     refine y_loadA 2 tyA37 rfl rfl rfl rfl rfl (by first | rfl | exact kc_len _ | exact kcf_len _ | exact boC_len _ _ | (simp; done)) (by decide) ?_
     refine y_call (g_rEncrypt (keyN root s (qn l z.1).toNat (qm l z.1).toNat) se) en61 rfl rfl rfl rfl ?_
     refine y_val (r_build (ps := [(0, .agg _), (1, .agg _)]) (bld_it _ _ _) rfl rfl) rfl rfl ?_
     refine y_buildSliceF 0 (bsl_it _) rfl rfl rfl rfl ?_
     refine y_tail ?_
     refine y_made ?_
     rintro _ _ ⟨gs, rfl, rfl⟩
     intro W hW
     refine l_appendB tyE72 (L := [_, _, _, _, _, _]) hO hW 0 (N := z.1 + 1) rfl rfl rfl rfl rfl rfl rfl (it1_len _) (it1_one _) (by unfold maxLen; omega) (by omega) ?_
     intro a1 c1 Bs1 W hO1 hW
     replace hO1 := hO1.castx rfl (xs' := itL (sealL root se s (l.take (z.1 + 1)))) (by rw [sealL_take (by omega), itL_append]; simp [itL])
     refine l_val (r_fieldAddr 0 Try.underlying75 rfl tyC72.size rfl rfl rfl) rfl rfl ?_
     refine l_storeC hW 1 tyC72 (v := .slice a1 (z.1 + 1) c1) rfl rfl rfl rfl rfl rfl (by rw [hdC_len]; decide) rfl ?_
     intro W hW
     refine l_end (n_block (n_then (c_reg ?_)))
     refine aI ?_
     refine l_val (r_addN (n := 1) rfl rfl rfl (by omega)) rfl rfl ?_
     refine bI ?_
     refine l_end (n_then ?_)
     exact loop_next (z.1 + 1, a1, c1, Bs1) (by kernel_rfl) (hW.drop 1) ⟨by simp only; omega, hO1⟩ (by simp only; omega)
    ·intro hc5
     replace hc5 := of_decide_eq_false hc5
     refine l_end (n_then ?_)
     refine c_false rfl ?_
     refine c_exit (x_then (x_then ?_))
     refine x_hit ?_
     refine n_then (c_seq (c_reg ?_))
     refine l_loadA hW 0 tyA75 rfl rfl rfl rfl rfl (hdC_len _ _) ?_
     refine l_storeA hW 1 tyA75 rfl rfl rfl rfl rfl rfl rfl (hdC_len _ _) (hdC_one _ _) ?_
     intro W hW
     refine bI ?_
     refine l_end (n_then (c_ret ?_))
     refine ret_cell_tmp hW 1 tyA75 rfl rfl rfl (by first | exact hdC_len _ _ | rfl | (simp; done)) rfl ?_
     have hcz : ¬ chk s ≠ 0 := by rw [chk_yes hc1]; decide
     have eE : sealE s l = 0 := (sealE_l hcz).trans (subsE_all.2 ⟨by omega, hsb⟩)
     have ez : z.1 = l.length := by omega
     rw [ez, List.take_of_length_le (Nat.le_refl _)] at hO
     exact ⟨_, z.2.2.2, rfl, ⟨⟨z.2.1, z.1, z.2.2.1⟩, derive se 53 0, by rw [eE]; rfl, fun h => absurd eE h, fun _ => ⟨rfl, ez, by rw [ez]; exact hO⟩⟩, (show Cl _ ([_, _, _, _, _] ++ z.2.2.2) _ from hW).sub (List.sublist_append_right _ _)⟩
 ·intro hc1
  refine l_val (r_not rfl rfl) rfl rfl ?_
  refine l_end (n_then ?_)
  refine c_true rfl ?_
  refine c_seq (c_reg ?_)
  refine l_val (r_build (ps := []) (bld75_) rfl rfl) rfl rfl ?_
  refine sA hW 0 tyA75 ?_
  intro W hW
  refine bI ?_
  refine l_end (n_then (c_ret (r_then ?_)))
  refine ret_cell_tmp hW 0 tyA75 rfl rfl rfl (by first | exact hdC_len _ _ | rfl | (simp; done)) rfl ?_
  have eE : sealE s l = 30 := (sealE_s (by rw [chk_no hc1]; decide)).trans (chk_no hc1)
  exact ⟨_, [], rfl, ⟨Sl.no, (0#64, 0#64), by rw [eE]; rfl, fun _ => ⟨rfl, rfl⟩, fun h => absurd (eE.symm.trans h) (by decide)⟩, hW.sub (List.nil_sublist _)⟩

set_option maxRecDepth 10000 in
set_option maxHeartbeats 1000000 in
/-- headend/headendref08.Hybrid -/
theorem g_rHybrid (root : Kw) (s : Sc) (ra : Option Addr) (rn rc : Nat) (l : List (Int × Int)) (f : Int) (se : Kw) (hq : l.length ≤ 100) : GivesX Try.prog 31 [keyV root, .agg [.int .u8 s.k, .int .i64 s.d, .int .i64 s.g, .int .u64 s.p, .int .u64 s.q, .int .u64 s.r].toArray, .slice ra rn rc, .int .i64 f, keyV se].toArray (fun w => RdB w ⟨ra, rn, rc⟩ l) (fun u Bs => ∃ (h : Sl) (ck : Kw), u = .tuple #[.agg (hdC h ck).toArray, .int .i64 (hybE s l f)] ∧ (hybE s l f ≠ 0 → h = Sl.no ∧ ck = (0#64, 0#64)) ∧ (hybE s l f = 0 → ck = derive se 53 0 ∧ h.n = l.length ∧ OwnSl 116 18 h.a h.n h.c (itL (hybL root se s l f.toNat)) Bs)) := by
 refine givesX_of Try.func31 rfl (bs := [keyV root, .agg [.int .u8 s.k, .int .i64 s.d, .int .i64 s.g, .int .u64 s.p, .int .u64 s.q, .int .u64 s.r].toArray, .slice ra rn rc, .int .i64 f, keyV se, undef, undef, undef, undef, undef, undef, undef, undef, undef, undef, undef, undef, undef, undef, undef, undef, undef, undef, undef, undef, undef, undef, undef, undef, undef, undef, undef, undef, undef, undef, undef, undef, undef, undef, undef, undef, undef, undef, undef, undef, undef, undef, undef, undef, undef, undef, undef, undef, undef, undef, undef, undef, undef, undef, undef, undef, undef, undef, undef, undef, undef, undef]) rfl ?_
 intro w hP hW
 have hn : rn = l.length := hP.len
 refine c_seq (c_reg ?_)
 refine xB hW ?_
 intro g1 W hW
 refine xB hW ?_
 intro g2 W hW
 refine xB hW ?_
 intro g3 W hW
 refine l_alloc hW tyZ75 rfl rfl rfl ?_
 intro g4 W hW
 refine bI ?_
 refine l_end (n_then (c_seq (c_seq (c_reg ?_))))
 refine dA hW 2 tyA26 ?_
 refine aS ?_
 refine l_callR hW (g_rCheckParts s ra rn rc l hq) en33 (hP.past hW.below) rfl rfl rfl rfl ?_
 intro W hW
 refine bI ?_
 refine l_end (n_then (c_seq (c_reg ?_)))
 refine aI ?_
 refine l_val (r_neq rfl rfl rfl rfl) rfl rfl ?_
 refine l_split ?_ ?_
 ·intro hc1
  replace hc1 := of_decide_eq_true hc1
  refine l_end (n_then ?_)
  refine c_true rfl ?_
  refine c_seq (c_reg ?_)
  refine l_val (r_build (ps := []) (bld75_) rfl rfl) rfl rfl ?_
  refine aI ?_
  refine sA hW 0 tyA75 ?_
  intro W hW
  refine bI ?_
  refine l_end (n_then (c_ret (r_then ?_)))
  refine ret_cell_tmp hW 0 tyA75 rfl rfl rfl (by first | exact hdC_len _ _ | rfl | (simp; done)) rfl ?_
  have eE : hybE s l f = partsE s l := hybE_p hc1
  exact ⟨_, [], rfl, ⟨Sl.no, (0#64, 0#64), by rw [eE]; rfl, fun _ => ⟨rfl, rfl⟩, fun h => absurd (eE.symm.trans h) hc1⟩, hW.sub (List.nil_sublist _)⟩
 ·intro hc1
  replace hc1 := of_decide_eq_false hc1
  obtain ⟨hs, hq2, -⟩ := parts_ok hc1
  obtain ⟨hll, hsb⟩ := subsE_all.1 hq2
  have hsE : sealE s l = 0 := by rw [sealE_l (by rw [chk_yes hs]; decide), hq2]
  refine l_end (n_then ?_)
  refine c_false rfl ?_
  refine c_skip (n_then (c_seq (c_seq (c_reg ?_))))
  refine aI ?_
  refine l_val (r_lss rfl rfl rfl rfl) rfl rfl ?_
  refine l_split ?_ ?_
  ·intro hc2
   replace hc2 := of_decide_eq_true hc2
   refine aB ?_
   refine lN ?_
   refine lN ?_
   refine lN ?_
   refine lN ?_
   refine kB ?_
   refine l_end (n_then ?_)
   refine c_true rfl ?_
   refine c_seq (c_reg ?_)
   refine l_val (r_build (ps := []) (bld75_) rfl rfl) rfl rfl ?_
   refine sA hW 0 tyA75 ?_
   intro W hW
   refine bI ?_
   refine l_end (n_then (c_ret (r_then ?_)))
   refine ret_cell_tmp hW 0 tyA75 rfl rfl rfl (by first | exact hdC_len _ _ | rfl | (simp; done)) rfl ?_
   have eE : hybE s l f = 2 := hybE_f hc1 (by omega)
   exact ⟨_, [], rfl, ⟨Sl.no, (0#64, 0#64), by rw [eE]; rfl, fun _ => ⟨rfl, rfl⟩, fun h => absurd (eE.symm.trans h) (by decide)⟩, hW.sub (List.nil_sublist _)⟩
  ·intro hc2
   replace hc2 := of_decide_eq_false hc2
   refine aB ?_
   refine gI ?_
   refine l_valG (r_move (v := .slice _ _ _) rfl rfl) (by kernel_rfl) rfl ?_
   refine l_valG (r_lenSlice Try.underlying40 rfl rfl) (by kernel_rfl) rfl ?_
   refine l_valG (r_gtr rfl rfl rfl rfl) (by kernel_rfl) rfl ?_
   refine l_split ?_ ?_
   ·intro hc3
    replace hc3 := of_decide_eq_true hc3
    refine kB ?_
    refine l_end (n_then ?_)
    refine c_true rfl ?_
    refine c_seq (c_reg ?_)
    refine l_val (r_build (ps := []) (bld75_) rfl rfl) rfl rfl ?_
    refine sA hW 0 tyA75 ?_
    intro W hW
    refine bI ?_
    refine l_end (n_then (c_ret (r_then ?_)))
    refine ret_cell_tmp hW 0 tyA75 rfl rfl rfl (by first | exact hdC_len _ _ | rfl | (simp; done)) rfl ?_
    have eE : hybE s l f = 2 := hybE_f hc1 (by omega)
    exact ⟨_, [], rfl, ⟨Sl.no, (0#64, 0#64), by rw [eE]; rfl, fun _ => ⟨rfl, rfl⟩, fun h => absurd (eE.symm.trans h) (by decide)⟩, hW.sub (List.nil_sublist _)⟩
   ·intro hc3
    replace hc3 := of_decide_eq_false hc3
    refine kB ?_
    refine l_end (n_then ?_)
    refine c_false rfl ?_
    refine c_skip (n_then (c_seq (c_reg ?_)))
    refine dA hW 3 tyA37 ?_
    refine dA hW 2 tyA26 ?_
    refine aS ?_
    refine dA hW 1 tyA37 ?_
    refine l_callX hW (g_rSeal root s ra rn rc l se) en60 (hP.past hW.below) rfl rfl rfl rfl ?_
    rintro _ BS W ⟨hh, ck, rfl, -, hok⟩ hW
    obtain ⟨rfl, hhn, hO0⟩ := hok hsE
    rw [hsE]
    refine l_val (r_move (v := .tuple _) rfl rfl) rfl rfl ?_
    refine l_val (r_extract (v := .agg _) rfl rfl rfl) rfl rfl ?_
    refine l_val (r_extract (v := .int _ _) rfl rfl rfl) rfl rfl ?_
    refine l_alloc hW tyZ75 rfl rfl rfl ?_
    intro g5 W hW
    refine l_storeA hW 0 tyA75 rfl rfl rfl rfl rfl rfl rfl (hdC_len _ _) (hdC_one _ _) ?_
    intro W hW
    refine bI ?_
    refine l_end (n_then (c_seq (c_seq (c_reg ?_))))
    refine aI ?_
    refine l_val (r_neq (b := false) rfl rfl rfl (by decide)) rfl rfl ?_
    refine l_end (n_then ?_)
    refine c_false rfl ?_
    refine c_skip (n_then (c_seq (c_seq (c_reg ?_))))
    refine bI ?_
    refine l_end (n_then (c_block ?_))
    refine c_loop (fun (z : Nat × List Blk) (j : Nat → Value) => [keyV root, .agg [.int .u8 s.k, .int .i64 s.d, .int .i64 s.g, .int .u64 s.p, .int .u64 s.q, .int .u64 s.r].toArray, .slice ra rn rc, .int .i64 f, keyV se, .pointer (some ⟨g1, 0, none⟩), .pointer (some ⟨g2, 0, none⟩), j 7, j 8, .pointer (some ⟨g3, 0, none⟩), .pointer (some ⟨g4, 0, none⟩), .int .i64 0, .int .i64 (partsE s l), .pointer (some ⟨g5, 0, none⟩), .int .i64 0, .int .i64 (z.1 : Int), .agg ([.int .u8 s.k, .int .i64 s.d, .int .i64 s.g, .int .u64 s.p, .int .u64 s.q, .int .u64 s.r]).toArray, .slice ra rn rc, .int .i64 (partsE s l), .int .i64 (partsE s l), .bool false, j 21, j 22, .int .i64 f, .bool false, .bool false, .int .i64 f, .slice ra rn rc, .int .i64 (rn : Int), .bool false, .bool false, j 31, .tuple #[.agg (hdC hh (derive se 53 0)).toArray, .int .i64 0], .agg (kc root).toArray, .agg ([.int .u8 s.k, .int .i64 s.d, .int .i64 s.g, .int .u64 s.p, .int .u64 s.q, .int .u64 s.r]).toArray, .slice ra rn rc, .agg (kc se).toArray, .tuple #[.agg (hdC hh (derive se 53 0)).toArray, .int .i64 0], .agg (hdC hh (derive se 53 0)).toArray, .int .i64 0, .int .i64 0, .bool false, j 42, j 43, j 44, j 45, j 46, j 47, j 48, j 49, j 50, j 51, j 52, j 53, j 54, j 55, j 56, j 57, j 58, j 59, j 60, j 61, j 62, j 63, j 64, j 65, j 66]) (fun (z : Nat × List Blk) => [⟨g5, (hdC hh (derive se 53 0)), 75⟩, ⟨g4, z75, 75⟩, ⟨g3, kc se, 37⟩, ⟨g2, [.int .u8 s.k, .int .i64 s.d, .int .i64 s.g, .int .u64 s.p, .int .u64 s.q, .int .u64 s.r], 26⟩, ⟨g1, kc root, 37⟩] ++ z.2) (fun (z : Nat × List Blk) => (z.1 : Int) ≤ f ∧ OwnSl 116 18 hh.a hh.n hh.c (itL (hybL root se s l z.1)) z.2) (fun (z : Nat × List Blk) => f.toNat - z.1) (0, BS) (by kernel_rfl) hW ⟨by simp only; omega, by simp only; rw [hybL_zero]; exact hO0⟩ ?_
    intro z j W hx hW
    obtain ⟨hz, hO⟩ := hx
    refine c_seq (c_seq (c_reg ?_))
    refine aI ?_
    refine aI ?_
    refine l_val (r_lss rfl rfl rfl rfl) rfl rfl ?_
    refine l_split ?_ ?_
    ·intro hc4
     replace hc4 := of_decide_eq_true hc4
     obtain ⟨b0, o0, ha, hc⟩ := hP.ptr (by omega)
     obtain ⟨gi, cur, hag, hbl, hnc, hcl, htk⟩ := hO.row (by omega)
     have hO2 := hO
     rw [hag, hbl] at hO2
     rw [hbl] at hW
     refine l_end (n_then ?_)
     refine c_true rfl ?_
     refine c_skip (n_then (c_seq (c_block ?_)))
     refine c_regM hW [] [.q, .q, .q, .q, .q, .q, .q, .q, .q, .q, .q, .q, .q, .q, .q, .q, .q, .tail] [] [] [] [0, 1, 0, 0, 0, 0, 0, 96, 224, 504, 0, 0, 2048, 8184, 16376, 32767, 65535, 131071] (by kernel_rfl) (by kernel_rfl) rfl (by kernel_rfl) ?_
     refine y_val (r_fieldAddr 0 Try.underlying75 rfl tyC72.size rfl rfl rfl) rfl rfl ?_
     refine y_loadC 0 tyC72 rfl rfl rfl rfl rfl rfl (by decide) ?_
     refine yI ?_
     refine y_loadA 4 tyA37 rfl rfl rfl rfl rfl (by first | rfl | exact kc_len _ | exact kcf_len _ | exact boC_len _ _ | (simp; done)) (by decide) ?_
     refine y_loadA 3 tyA26 rfl rfl rfl rfl rfl (by first | rfl | exact kc_len _ | exact kcf_len _ | exact boC_len _ _ | (simp; done)) (by decide) ?_
     refine yS ?_
     refine yI ?_
     refine y_val (r_indexAddrSlB (n := z.1) Try.underlying40 tyA112.size rfl (congrArg (fun a => Value.slice a rn rc) ha) rfl (by omega)) rfl rfl ?_
     refine y_loadF2 tyA112 (hc z.1 (by omega)).1 (hc z.1 (by omega)).2 (by kernel_rfl) rfl rfl rfl ?_
     refine y_call (g_rKeyOfZ s root (qn l z.1) (qm l z.1) hs (hsb z.1 (by omega))) en62 rfl rfl rfl rfl ?_
     refine y_loadA 2 tyA37 rfl rfl rfl rfl rfl (by first | rfl | exact kc_len _ | exact kcf_len _ | exact boC_len _ _ | (simp; done)) (by decide) ?_
     refine yI ?_
     refine y_val (r_conv_i64_u64 Try.underlying3 Try.underlying22 rfl rfl) rfl rfl ?_
     refine y_call (g_rDerive se 80 (BitVec.ofNat 64 z.1)) en63 rfl rfl rfl rfl ?_
     refine y_call (g_rEncrypt (keyN root s (qn l z.1).toNat (qm l z.1).toNat) (derive se 80 (BitVec.ofNat 64 z.1))) en61 rfl rfl rfl rfl ?_
     refine y_val (r_indexAddrSl (n := z.1) Try.underlying72 tyA116.size rfl (congrArg (fun a => Value.slice a hh.n hh.c) hag) rfl (by omega)) rfl rfl ?_
     refine y_val (r_fieldAddr _ Try.underlying116 rfl tyA37.size rfl rfl rfl) rfl rfl ?_
     refine y_tail ?_
     intro W hW
     refine l_storeP hW 5 tyA37 (g := gi) (i := 0 + z.1 * 18 + 2) (cs := cur) (vs := kc (enc (keyN root s (qn l z.1).toNat (qm l z.1).toNat) (derive se 80 (BitVec.ofNat 64 z.1)))) rfl rfl rfl rfl rfl rfl (by rw [hcl]; have := Nat.mul_le_mul_right 18 (show z.1 + 1 ≤ hh.c by omega); omega) (kc_len _) (kc_one _) ?_
     intro W hW
     rw [Nat.zero_add] at hW
     refine l_end (n_block (n_then (c_reg ?_)))
     refine aI ?_
     refine l_val (r_addN (n := 1) rfl rfl rfl (by omega)) rfl rfl ?_
     refine bI ?_
     refine l_end (n_then ?_)
     have hit := OwnSl.item hO2 (i := z.1) (t := sealI root se s (qn l z.1, qm l z.1)) (by rw [hybL_get (by omega), if_neg (by omega)]) (enc (keyN root s (qn l z.1).toNat (qm l z.1).toNat) (derive se 80 (BitVec.ofNat 64 z.1)))
     exact loop_next (z.1 + 1, [⟨gi, cur.take (z.1 * 18 + 2) ++ kc (enc (keyN root s (qn l z.1).toNat (qm l z.1).toNat) (derive se 80 (BitVec.ofNat 64 z.1))) ++ cur.drop (z.1 * 18 + 2 + 16), 116⟩]) (by kernel_rfl) hW ⟨by simp only; omega, by simp only; rw [← hybL_set (by omega), hag]; exact hit⟩ (by simp only; omega)
    ·intro hc4
     replace hc4 := of_decide_eq_false hc4
     refine l_end (n_then ?_)
     refine c_false rfl ?_
     refine c_exit (x_then (x_then ?_))
     refine x_hit ?_
     refine n_then (c_seq (c_reg ?_))
     refine l_loadA hW 0 tyA75 rfl rfl rfl rfl rfl (hdC_len _ _) ?_
     refine l_storeA hW 1 tyA75 rfl rfl rfl rfl rfl rfl rfl (hdC_len _ _) (hdC_one _ _) ?_
     intro W hW
     refine bI ?_
     refine l_end (n_then (c_ret ?_))
     refine ret_cell_tmp hW 1 tyA75 rfl rfl rfl (by first | exact hdC_len _ _ | rfl | (simp; done)) rfl ?_
     have eE : hybE s l f = 0 := hybE_0 hc1 (by omega)
     have ez : z.1 = f.toNat := by omega
     rw [ez] at hO
     exact ⟨_, z.2, rfl, ⟨hh, derive se 53 0, by rw [eE]; rfl, fun h => absurd eE h, fun _ => ⟨rfl, hhn, hO⟩⟩, (show Cl _ ([_, _, _, _, _] ++ z.2) _ from hW).sub (List.sublist_append_right _ _)⟩

end Go.Proofs.Ytoegpalacppllaa

/- Whether two headers are the same. -/
namespace Go.Proofs.Ytoegpalacppllaa
open Go.RowKit Pl
open Tr Hn
/-- a slice that reads as these items -/
structure RdH (W : World) (s : Sl) (l : List It) : Prop where
 n : s.n = l.length
 rd : ∀ (i : Nat) t, l[i]? = some t → ∃ g, s.a = some ⟨g, 0, none⟩ ∧ ∀ j v, (it1 t)[j]? = some v → W.cell? ⟨g, i * 18 + j, none⟩ = some v
theorem RdH.past {w W : World} {s : Sl} {l : List It} (h : RdH w s l) (hb : Below w.heap.size w W) : RdH W s l := ⟨h.n, fun i t ht => by
 obtain ⟨g, h1, h2⟩ := h.rd i t ht
 exact ⟨g, h1, fun j v hv => cell_past hb (h2 j v hv)⟩⟩
theorem RdH.no (W : World) : RdH W Sl.no [] := ⟨rfl, fun i t h => by simp at h⟩
theorem OwnSl.rdH {e : TypeId} {h : Sl} {l : List It} {Bs : List Blk} (hO : OwnSl e 18 h.a h.n h.c (itL l) Bs) : Rep Bs fun W => RdH W h l := fun b W hW => by
 have hl := hO.1
 rw [itL_len] at hl
 refine ⟨by omega, fun i t ht => ?_⟩
 obtain ⟨g, h1, h2⟩ := hO.itAt ht
 exact ⟨g, h1, h2 b W hW⟩
theorem hdC_k0 (s : Sl) (ck : Kw) : ((hdC s ck).drop 3).take 16 = kc (0#64, 0#64) := by
 show (kc (0#64, 0#64) ++ kc ck).take 16 = _
 rw [List.take_append_of_le_length (by rw [kc_len]; decide), List.take_of_length_le (by rw [kc_len]; decide)]
theorem hyb_same {root se : Kw} {s : Sc} {l : List (Int × Int)} {f : Int} {e : TypeId} {h1 h2 : Sl} {c1 c2 : Kw} {B1 B2 : List Blk} (hq : l.length ≤ 100)
  (hb1 : hybE s l f ≠ 0 → h1 = Sl.no ∧ c1 = (0#64, 0#64)) (ho1 : hybE s l f = 0 → c1 = derive se 53 0 ∧ h1.n = l.length ∧ OwnSl e 18 h1.a h1.n h1.c (itL (hybL root se s l f.toNat)) B1)
  (hb2 : hybE s l f ≠ 0 → h2 = Sl.no ∧ c2 = (0#64, 0#64)) (ho2 : hybE s l f = 0 → c2 = derive se 53 0 ∧ h2.n = l.length ∧ OwnSl e 18 h2.a h2.n h2.c (itL (hybL root se s l f.toNat)) B2) :
  ∃ LL : List It, LL.length ≤ 100 ∧ c1 = c2 ∧ (Rep B1 fun W => RdH W h1 LL) ∧ (Rep B2 fun W => RdH W h2 LL) := by
 by_cases h0 : hybE s l f = 0
 ·obtain ⟨a1, a2, a3⟩ := ho1 h0
  obtain ⟨b1, b2, b3⟩ := ho2 h0
  exact ⟨_, by rw [hybL_len]; exact hq, by rw [a1, b1], a3.rdH, b3.rdH⟩
 ·obtain ⟨rfl, a2⟩ := hb1 h0
  obtain ⟨rfl, b2⟩ := hb2 h0
  exact ⟨[], Nat.zero_le _, by rw [a2, b2], fun b W _ => RdH.no W, fun b W _ => RdH.no W⟩
set_option maxRecDepth 10000 in
/-- headend/headendref03.SameHeader -/
theorem g_SameHeader (h1 h2 : Sl) (c1 c2 : Kw) (l : List It) (hq : l.length ≤ 100) (hck : c1 = c2) : GivesR Try.prog 34 [.agg (hdC h1 c1).toArray, .agg (hdC h2 c2).toArray].toArray (fun w => RdH w h1 l ∧ RdH w h2 l) (.bool true) := by
 refine givesR_of Try.func34 rfl (bs := [.agg (hdC h1 c1).toArray, .agg (hdC h2 c2).toArray, undef, undef, undef, undef, undef, undef, undef, undef, undef, undef, undef, undef, undef, undef, undef, undef, undef, undef, undef, undef, undef, undef, undef, undef, undef, undef, undef, undef, undef, undef, undef, undef, undef, undef, undef, undef, undef, undef, undef, undef, undef, undef, undef, undef, undef, undef, undef, undef, undef, undef, undef, undef, undef, undef, undef, undef, undef, undef, undef, undef, undef, undef, undef, undef, undef, undef, undef, undef, undef, undef, undef, undef, undef, undef, undef, undef, undef, undef]) rfl ?_
 intro w hP hW
 have hn1 := hP.1.n
 have hn2 := hP.2.n
 refine c_seq (c_reg ?_)
 refine xB hW ?_
 intro g1 W hW
 refine xB hW ?_
 intro g2 W hW
 refine bB ?_
 refine l_end (n_then (c_seq (c_seq (c_reg ?_))))
 refine l_val (r_fieldAddr 0 Try.underlying75 rfl tyC72.size rfl rfl rfl) rfl rfl ?_
 refine dC hW 1 tyC72 ?_
 refine l_val (r_lenSlice Try.underlying72 rfl rfl) rfl rfl ?_
 refine l_val (r_fieldAddr 0 Try.underlying75 rfl tyC72.size rfl rfl rfl) rfl rfl ?_
 refine dC hW 0 tyC72 ?_
 refine l_val (r_lenSlice Try.underlying72 rfl rfl) rfl rfl ?_
 refine l_val (r_neqN (b := false) rfl rfl rfl (decide_eq_false (by omega))) rfl rfl ?_
 refine aB ?_
 refine l_valG (r_fieldAddr 2 Try.underlying75 rfl tyC73.size rfl rfl rfl) (by kernel_rfl) rfl ?_
 refine dG hW 1 tyC73 ?_
 refine l_valG (r_lenSlice Try.underlying73 rfl rfl) (by kernel_rfl) rfl ?_
 refine l_valG (r_fieldAddr 2 Try.underlying75 rfl tyC73.size rfl rfl rfl) (by kernel_rfl) rfl ?_
 refine dG hW 0 tyC73 ?_
 refine l_valG (r_lenSlice Try.underlying73 rfl rfl) (by kernel_rfl) rfl ?_
 refine l_valG (r_neq (b := false) rfl rfl rfl (by decide)) (by kernel_rfl) rfl ?_
 refine kB ?_
 refine aB ?_
 refine l_valG (r_fieldAddr 1 Try.underlying75 rfl tyC22.size rfl rfl rfl) (by kernel_rfl) rfl ?_
 refine dG hW 1 tyC22 ?_
 refine l_valG (r_fieldAddr 1 Try.underlying75 rfl tyC22.size rfl rfl rfl) (by kernel_rfl) rfl ?_
 refine dG hW 0 tyC22 ?_
 refine l_valG (r_neq (b := false) rfl rfl rfl (by decide)) (by kernel_rfl) rfl ?_
 refine kB ?_
 refine aB ?_
 refine l_valG (r_fieldAddr 3 Try.underlying75 rfl tyA37.size rfl rfl rfl) (by kernel_rfl) rfl ?_
 refine l_loadPG hW 1 tyA37 (by kernel_rfl) rfl rfl rfl rfl (by rw [hdC_len]; decide) (hdC_k0 _ _) ?_
 refine l_valG (r_fieldAddr 3 Try.underlying75 rfl tyA37.size rfl rfl rfl) (by kernel_rfl) rfl ?_
 refine l_loadPG hW 0 tyA37 (by kernel_rfl) rfl rfl rfl rfl (by rw [hdC_len]; decide) (hdC_k0 _ _) ?_
 refine l_valG (r_neqK tyK37 _ _ (c := false) rfl rfl rfl (by simp)) (by kernel_rfl) rfl ?_
 refine kB ?_
 refine aB ?_
 refine l_valG (r_fieldAddr 19 Try.underlying75 rfl tyA37.size rfl rfl rfl) (by kernel_rfl) rfl ?_
 refine l_loadPG hW 1 tyA37 (by kernel_rfl) rfl rfl rfl rfl (by rw [hdC_len]; decide) (hdC_key _ _) ?_
 refine l_valG (r_fieldAddr 19 Try.underlying75 rfl tyA37.size rfl rfl rfl) (by kernel_rfl) rfl ?_
 refine l_loadPG hW 0 tyA37 (by kernel_rfl) rfl rfl rfl rfl (by rw [hdC_len]; decide) (hdC_key _ _) ?_
 refine l_valG (r_neqK tyK37 _ _ (c := false) rfl rfl rfl (by rw [hck]; simp)) (by kernel_rfl) rfl ?_
 refine kB ?_
 refine l_end (n_then ?_)
 refine c_false rfl ?_
 refine c_skip (n_then (c_seq (c_seq (c_reg ?_))))
 refine bI ?_
 refine l_end (n_then (c_block ?_))
 refine c_loop (fun (i : Nat) (j : Nat → Value) => [.agg (hdC h1 c1).toArray, .agg (hdC h2 c2).toArray, .pointer (some ⟨g1, 0, none⟩), .pointer (some ⟨g2, 0, none⟩), j 4, .int .i64 (i : Int), j 6, .pointer (some ⟨g1, 0, none⟩), .slice h1.a h1.n h1.c, .int .i64 (h1.n : Int), .pointer (some ⟨g2, 0, none⟩), .slice h2.a h2.n h2.c, .int .i64 (h2.n : Int), .bool false, .bool false, .pointer (some ⟨g1, 2, none⟩), .slice none 0 0, .int .i64 0, .pointer (some ⟨g2, 2, none⟩), .slice none 0 0, .int .i64 0, .bool false, .bool false, .bool false, .pointer (some ⟨g1, 1, none⟩), .int .u64 0, .pointer (some ⟨g2, 1, none⟩), .int .u64 0, .bool false, .bool false, .bool false, .pointer (some ⟨g1, 3, none⟩), keyV (0#64, 0#64), .pointer (some ⟨g2, 3, none⟩), keyV (0#64, 0#64), .bool false, .bool false, .bool false, .pointer (some ⟨g1, 19, none⟩), keyV c1, .pointer (some ⟨g2, 19, none⟩), keyV c2, .bool false, .bool false, j 44, j 45, j 46, j 47, j 48, j 49, j 50, j 51, j 52, j 53, j 54, j 55, j 56, j 57, j 58, j 59, j 60, j 61, j 62, j 63, j 64, j 65, j 66, j 67, j 68, j 69, j 70, j 71, j 72, j 73, j 74, j 75, j 76, j 77, j 78, j 79]) (fun (i : Nat) => [⟨g2, hdC h2 c2, 75⟩, ⟨g1, hdC h1 c1, 75⟩]) (fun (i : Nat) => i ≤ h1.n) (fun (i : Nat) => h1.n - i) 0 (by kernel_rfl) hW (Nat.zero_le _) ?_
 intro i j W hx hW
 refine c_seq (c_seq (c_reg ?_))
 refine aI ?_
 refine l_val (r_fieldAddr 0 Try.underlying75 rfl tyC72.size rfl rfl rfl) rfl rfl ?_
 refine dC hW 1 tyC72 ?_
 refine l_val (r_lenSlice Try.underlying72 rfl rfl) rfl rfl ?_
 refine l_val (r_lssN rfl rfl rfl rfl) rfl rfl ?_
 refine l_split ?_ ?_
 ·intro hc1
  replace hc1 := of_decide_eq_true hc1
  obtain ⟨tt, htt⟩ : ∃ tt, l[i]? = some tt := ⟨l[i], List.getElem?_eq_getElem (by omega)⟩
  obtain ⟨gi1, hag1, hrd1⟩ := hP.1.rd i tt htt
  obtain ⟨gi2, hag2, hrd2⟩ := hP.2.rd i tt htt
  refine l_end (n_then ?_)
  refine c_true rfl ?_
  refine c_skip (n_then (c_seq (c_block (c_seq ?_))))
  refine c_regY hW [] [.q, .q, .q, .q, .q, .q, .q, .q, .q, .q, .q] [0, 1, 0, 7, 15, 0, 32, 0, 224, 480, 1023] (by kernel_rfl) (by kernel_rfl) ?_
  refine y_val (r_fieldAddr 0 Try.underlying75 rfl tyC72.size rfl rfl rfl) rfl rfl ?_
  refine y_loadC 1 tyC72 rfl rfl rfl rfl rfl rfl (by decide) ?_
  refine yI ?_
  refine y_val (r_indexAddrSl (n := i) Try.underlying72 tyA116.size rfl (congrArg (fun a => Value.slice a h1.n h1.c) hag1) rfl (by omega)) rfl rfl ?_
  refine y_loadRA tyA116 (vs := [.int .i64 tt.v, .int .i64 tt.x] ++ kc tt.k) (fun L2 w' hs hC j v hv => by
   rw [Nat.zero_add]
   exact cell_past hC.below (hrd1 j v hv)) (by rw [List.length_append, kc_len]; rfl) rfl rfl rfl rfl ?_
  refine y_val (r_fieldAddr 0 Try.underlying75 rfl tyC72.size rfl rfl rfl) rfl rfl ?_
  refine y_loadC 0 tyC72 rfl rfl rfl rfl rfl rfl (by decide) ?_
  refine yI ?_
  refine y_val (r_indexAddrSl (n := i) Try.underlying72 tyA116.size rfl (congrArg (fun a => Value.slice a h2.n h2.c) hag2) rfl (by omega)) rfl rfl ?_
  refine y_loadRA tyA116 (vs := [.int .i64 tt.v, .int .i64 tt.x] ++ kc tt.k) (fun L2 w' hs hC j v hv => by
   rw [Nat.zero_add]
   exact cell_past hC.below (hrd2 j v hv)) (by rw [List.length_append, kc_len]; rfl) rfl rfl rfl rfl ?_
  refine y_val (r_neqS gd116 (eqS116 _ _ _ _ _ _) (c := false) rfl rfl rfl (decide_eq_false (by simp))) rfl rfl ?_
  refine y_end ?_
  intro W hW
  refine n_then ?_
  refine c_false rfl ?_
  refine c_skip (n_block (n_then (c_reg ?_)))
  refine aI ?_
  refine l_val (r_addN (n := 1) rfl rfl rfl (by omega)) rfl rfl ?_
  refine bI ?_
  refine l_end (n_then ?_)
  exact loop_next (i + 1) (by kernel_rfl) hW (by omega) (by omega)
 ·intro hc1
  replace hc1 := of_decide_eq_false hc1
  refine l_end (n_then ?_)
  refine c_false rfl ?_
  refine c_exit (x_then (x_then ?_))
  refine x_hit ?_
  refine n_then (c_seq (c_seq (c_reg ?_)))
  refine bI ?_
  refine l_end (n_then (c_block ?_))
  refine c_loop (fun (y : Nat) (j : Nat → Value) => [.agg (hdC h1 c1).toArray, .agg (hdC h2 c2).toArray, .pointer (some ⟨g1, 0, none⟩), .pointer (some ⟨g2, 0, none⟩), j 4, j 5, .int .i64 (y : Int), .pointer (some ⟨g1, 0, none⟩), .slice h1.a h1.n h1.c, .int .i64 (h1.n : Int), .pointer (some ⟨g2, 0, none⟩), .slice h2.a h2.n h2.c, .int .i64 (h2.n : Int), .bool false, .bool false, .pointer (some ⟨g1, 2, none⟩), .slice none 0 0, .int .i64 0, .pointer (some ⟨g2, 2, none⟩), .slice none 0 0, .int .i64 0, .bool false, .bool false, .bool false, .pointer (some ⟨g1, 1, none⟩), .int .u64 0, .pointer (some ⟨g2, 1, none⟩), .int .u64 0, .bool false, .bool false, .bool false, .pointer (some ⟨g1, 3, none⟩), keyV (0#64, 0#64), .pointer (some ⟨g2, 3, none⟩), keyV (0#64, 0#64), .bool false, .bool false, .bool false, .pointer (some ⟨g1, 19, none⟩), keyV c1, .pointer (some ⟨g2, 19, none⟩), keyV c2, .bool false, .bool false, j 44, .pointer (some ⟨g1, 0, none⟩), .slice h1.a h1.n h1.c, .int .i64 (h1.n : Int), .bool false, j 49, j 50, j 51, j 52, j 53, j 54, j 55, j 56, j 57, j 58, j 59, j 60, j 61, j 62, j 63, j 64, j 65, j 66, j 67, j 68, j 69, j 70, j 71, j 72, j 73, j 74, j 75, j 76, j 77, j 78, j 79]) (fun (y : Nat) => [⟨g2, hdC h2 c2, 75⟩, ⟨g1, hdC h1 c1, 75⟩]) (fun (y : Nat) => y = 0) (fun (y : Nat) => 1 - y) 0 (by kernel_rfl) hW rfl ?_
  intro y j W hx hW
  refine c_seq (c_seq (c_reg ?_))
  refine aI ?_
  refine l_val (r_fieldAddr 2 Try.underlying75 rfl tyC73.size rfl rfl rfl) rfl rfl ?_
  refine dC hW 1 tyC73 ?_
  refine l_val (r_lenSlice Try.underlying73 rfl rfl) rfl rfl ?_
  refine l_val (r_lssN rfl rfl rfl rfl) rfl rfl ?_
  refine l_split ?_ ?_
  ·intro hc2
   replace hc2 := of_decide_eq_true hc2
   omega
  ·intro hc2
   replace hc2 := of_decide_eq_false hc2
   refine l_end (n_then ?_)
   refine c_false rfl ?_
   refine c_exit (x_then (x_then ?_))
   refine x_hit ?_
   refine n_then (c_seq (c_reg ?_))
   refine bB ?_
   refine l_end (n_then (c_ret ?_))
   refine ret_tmp (v := .bool true) rfl ?_ ⟨rfl, hW.below⟩
   rfl

end Go.Proofs.Ytoegpalacppllaa

/- Lists of subsets, by the program. -/
namespace Go.Proofs.Ytoegpalacppllaa
open Go.RowKit Pl
open Tr Hn
set_option maxRecDepth 10000 in
/-- headend/trace.subsets -/
theorem g_psubsets (s : Sc) (ra : Option Addr) (rn rc : Nat) (l : List (Int × Int)) (hs : schB s = true) (hq : l.length ≤ 100) : GivesX Try.prog 38 [.agg [.int .u8 s.k, .int .i64 s.d, .int .i64 s.g, .int .u64 s.p, .int .u64 s.q, .int .u64 s.r].toArray, .slice ra rn rc].toArray (fun w => RdB w ⟨ra, rn, rc⟩ l) (fun u Bs => ∃ (t : Sl) (ss : List Sl), u = .tuple #[t.v, .int .i64 (subsE s l)] ∧ (subsE s l = 0 → Rep Bs fun W => RdG W t ss (mems s l))) := by
 refine givesX_of Try.func38 rfl (bs := [.agg [.int .u8 s.k, .int .i64 s.d, .int .i64 s.g, .int .u64 s.p, .int .u64 s.q, .int .u64 s.r].toArray, .slice ra rn rc, undef, undef, undef, undef, undef, undef, undef, undef, undef, undef, undef, undef, undef, undef, undef, undef, undef, undef, undef, undef, undef, undef, undef, undef, undef, undef, undef, undef, undef, undef, undef, undef, undef]) rfl ?_
 intro w hP hW
 obtain ⟨k1, k3, d0, d6, -⟩ := schB_iff.1 hs
 have hn : rn = l.length := hP.len
 refine c_seq (c_reg ?_)
 refine xB hW ?_
 intro g1 W hW
 refine bS ?_
 refine bI ?_
 refine l_end (n_then (c_seq (c_seq (c_reg ?_))))
 refine aS ?_
 refine l_val (r_lenSlice Try.underlying40 rfl rfl) rfl rfl ?_
 refine l_val (r_gtrN (n := 64) rfl rfl rfl rfl) rfl rfl ?_
 refine l_split ?_ ?_
 ·intro hc1
  replace hc1 := of_decide_eq_true hc1
  refine l_end (n_then ?_)
  refine c_true rfl ?_
  refine c_seq (c_reg ?_)
  refine bS ?_
  refine bI ?_
  refine l_end (n_then (c_ret (r_then ?_)))
  refine ret_tmp2 rfl rfl rfl ?_
  exact ⟨_, [], rfl, ⟨Sl.no, [], by rw [subsE_many (by omega)]; rfl, fun h => absurd h (by rw [subsE_many (by omega)]; decide)⟩, hW.sub (List.nil_sublist _)⟩
 ·intro hc1
  replace hc1 := of_decide_eq_false hc1
  refine l_end (n_then ?_)
  refine c_false rfl ?_
  refine c_skip (n_then (c_seq (c_reg ?_)))
  refine bS ?_
  refine l_end (n_then (c_seq (c_seq (c_reg ?_))))
  refine aS ?_
  refine l_val (r_lenSlice Try.underlying40 rfl rfl) rfl rfl ?_
  refine aI ?_
  refine l_end (n_then (c_block ?_))
  refine c_loop (fun (z : Nat × Option Addr × Nat × List Blk × List Blk × List Sl) (j : Nat → Value) => [.agg [.int .u8 s.k, .int .i64 s.d, .int .i64 s.g, .int .u64 s.p, .int .u64 s.q, .int .u64 s.r].toArray, .slice ra rn rc, .pointer (some ⟨g1, 0, none⟩), j 3, j 4, j 5, .slice z.2.1 z.1 z.2.2.1, j 7, j 8, j 9, j 10, .slice ra rn rc, j 12, .bool false, .slice ra rn rc, .int .i64 (rn : Int), .int .i64 (z.1 : Int), j 17, j 18, j 19, j 20, j 21, j 22, j 23, j 24, j 25, j 26, j 27, j 28, j 29, j 30, j 31, j 32, j 33, j 34]) (fun (z : Nat × Option Addr × Nat × List Blk × List Blk × List Sl) => [⟨g1, [.int .u8 s.k, .int .i64 s.d, .int .i64 s.g, .int .u64 s.p, .int .u64 s.q, .int .u64 s.r], 26⟩] ++ (z.2.2.2.1 ++ z.2.2.2.2.1)) (fun (z : Nat × Option Addr × Nat × List Blk × List Blk × List Sl) => z.1 ≤ rn ∧ (∀ k, k < z.1 → subB s (qn l k) (qm l k) = true) ∧ OwnSl 35 1 z.2.1 z.1 z.2.2.1 (z.2.2.2.2.2.map Sl.v) z.2.2.2.1 ∧ z.2.2.2.2.2.length = z.1 ∧ NewSs z.2.2.2.2.2 (mems s l) z.2.2.2.2.1) (fun (z : Nat × Option Addr × Nat × List Blk × List Blk × List Sl) => rn - z.1) (0, none, 0, [], [], []) (by kernel_rfl) (by simpa using hW) ⟨Nat.zero_le _, fun k hk => by omega, OwnSl.nil 35 1, rfl, NewSs.nil _ _⟩ ?_
  intro z j W hx hW
  obtain ⟨hi0, hib, hO, hzl, hN⟩ := hx
  refine c_seq (c_reg ?_)
  refine l_val (r_lssN rfl rfl rfl rfl) rfl rfl ?_
  refine l_split ?_ ?_
  ·intro hc2
   replace hc2 := of_decide_eq_true hc2
   obtain ⟨b0, o0, ha, hc⟩ := hP.ptr (by omega)
   simp only at ha
   subst ha
   refine l_end (n_then (c_seq ?_))
   refine c_true rfl ?_
   refine c_skip (n_then (c_seq (c_block (c_seq (c_reg ?_)))))
   refine l_val (r_indexAddrSlB (n := z.1) Try.underlying40 tyA112.size rfl rfl rfl (by omega)) rfl rfl ?_
   refine l_loadF2 hW tyA112 (hc z.1 (by omega)).1 (hc z.1 (by omega)).2 rfl rfl rfl rfl ?_
   refine l_alloc hW tyZ112 rfl rfl rfl ?_
   intro g2 W hW
   refine sA hW 0 tyA112 ?_
   intro W hW
   refine l_end (n_then (c_seq (c_reg ?_)))
   refine dA hW 1 tyA26 ?_
   refine dA hW 0 tyA112 ?_
   refine l_callX hW (g_Members s (qn l z.1) (qm l z.1) hs) en69 trivial rfl rfl rfl rfl ?_
   rintro _ BsM W ⟨tm, rfl, hm⟩ hW
   obtain ⟨ee, hee⟩ : ∃ ee : Int, ee = (if subB s (qn l z.1) (qm l z.1) = true then 0 else 31) := ⟨_, rfl⟩
   have he0 : subB s (qn l z.1) (qm l z.1) = true → ee = 0 := fun h => hee.trans (by rw [h]; rfl)
   have he1 : subB s (qn l z.1) (qm l z.1) = false → ee = 31 := fun h => hee.trans (by rw [h]; rfl)
   rw [← hee]
   refine l_val (r_move (v := .tuple _) rfl rfl) rfl rfl ?_
   refine l_val (r_extract (v := .slice _ _ _) rfl rfl rfl) rfl rfl ?_
   refine l_val (r_extract (v := .int _ _) rfl rfl rfl) rfl rfl ?_
   refine bS ?_
   refine bI ?_
   refine l_end (n_then (c_seq (c_seq (c_reg ?_))))
   refine aI ?_
   refine l_val (r_neq rfl rfl rfl rfl) rfl rfl ?_
   refine l_split ?_ ?_
   ·intro hc3
    replace hc3 := of_decide_eq_true hc3
    have hb : subB s (qn l z.1) (qm l z.1) = false := by
     cases hb : subB s (qn l z.1) (qm l z.1) with
     | true => exact absurd (he0 hb) hc3
     | false => rfl
    refine l_end (n_then ?_)
    refine c_true rfl ?_
    refine c_seq (c_reg ?_)
    refine aI ?_
    refine bS ?_
    refine bI ?_
    refine l_end (n_then (c_ret (r_then (r_block (r_then (r_then (r_block (r_then ?_))))))))
    refine ret_tmp2 rfl rfl rfl ?_
    exact ⟨_, [], rfl, ⟨Sl.no, [], by rw [subsE_no (i := z.1) (by omega) (by omega) hb, he1 hb]; rfl, fun h => absurd h (by rw [subsE_no (i := z.1) (by omega) (by omega) hb]; decide)⟩, hW.sub (List.nil_sublist _)⟩
   ·intro hc3
    replace hc3 := of_decide_eq_false hc3
    have hb : subB s (qn l z.1) (qm l z.1) = true := by
     cases hb : subB s (qn l z.1) (qm l z.1) with
     | false => have := he1 hb; omega
     | true => rfl
    refine l_end (n_then ?_)
    refine c_false rfl ?_
    refine c_skip (n_then (c_reg ?_))
    refine aS ?_
    refine aS ?_
    refine l_buildSliceF hW (bsl69_1_0 _ _ _) rfl rfl rfl rfl ?_
    intro gb W hW
    replace hW := (show Cl _ (_ :: (([_, _] ++ (z.2.2.2.1 ++ z.2.2.2.2.1)) ++ BsM)) _ from hW).perm permS
    refine l_appendB tyE69 (L := _ :: ([_, _] ++ (z.2.2.2.2.1 ++ BsM))) hO hW 0 (N := z.1 + 1) rfl rfl rfl rfl rfl rfl rfl rfl (by simp [Value.oneCell']) (by unfold maxLen; omega) (by omega) ?_
    intro a1 c1 Bs1 W hO1 hW
    replace hO1 := hO1.castx rfl (xs' := (z.2.2.2.2.2 ++ [tm]).map Sl.v) (by simp)
    refine bS ?_
    refine l_end (n_block (n_then (c_reg ?_)))
    refine l_val (r_addN (n := 1) rfl rfl rfl (by omega)) rfl rfl ?_
    refine aI ?_
    refine l_end (n_then ?_)
    exact loop_next (z.1 + 1, a1, c1, Bs1, z.2.2.2.2.1 ++ BsM, z.2.2.2.2.2 ++ [tm]) (by kernel_rfl) ((show Cl _ (_ :: ((z.2.2.2.2.1 ++ BsM) ++ Bs1)) _ from (hW.drop 2)).perm (List.Perm.cons _ List.perm_append_comm)) ⟨by simp only; omega, all_upto hib hb, hO1, by simp only [List.length_append, hzl]; rfl, hN.one (by rw [hzl]; exact mems_get (by omega)) (hm hb) (List.sublist_append_left _ _) (List.sublist_append_right _ _)⟩ (by simp only; omega)
  ·intro hc2
   replace hc2 := of_decide_eq_false hc2
   refine l_end (n_then (c_seq ?_))
   refine c_false rfl ?_
   refine c_exit (x_then (x_then ?_))
   refine x_hit ?_
   refine n_then (c_seq (c_reg ?_))
   refine aS ?_
   refine bS ?_
   refine bI ?_
   refine l_end (n_then (c_ret ?_))
   refine ret_tmp2 rfl rfl rfl ?_
   have hall := subsE_yes (s := s) (l := l) (by omega) fun k hk => hib k (by omega)
   exact ⟨_, _, rfl, ⟨⟨z.2.1, z.1, z.2.2.1⟩, z.2.2.2.2.2, by rw [hall]; rfl, fun _ => RdG.of hO hN (by rw [mems_len]; omega) (List.sublist_append_left _ _) (List.sublist_append_right _ _)⟩, hW.drop 1⟩

end Go.Proofs.Ytoegpalacppllaa

/- Lists, by the library. -/
namespace Go.Proofs.Ytoegpalacppllaa
open Go.RowKit Pl
open Tr Hn
set_option maxRecDepth 10000 in
/-- slices.Clone[[]int,int] -/
theorem g_Clone (aa : Option Addr) (an ac : Nat) (l : List Int) (hl : l.length ≤ 4294967296) : GivesX Try.prog 39 [.slice aa an ac].toArray (fun w => RdI w ⟨aa, an, ac⟩ l) (fun v Bs => ∃ s : Sl, v = s.v ∧ NewI s l Bs) := by
 refine givesX_of Try.func39 rfl (bs := [.slice aa an ac, undef, undef, undef, undef, undef, undef, undef]) rfl ?_
 intro w hP hW
 have hn : an = l.length := hP.len
 refine c_seq (c_reg ?_)
 refine bS ?_
 refine l_end (n_then (c_seq (c_seq (c_reg ?_))))
 refine aS ?_
 refine l_val (r_eqlNil Try.underlying35 rfl rfl rfl rfl) rfl rfl ?_
 refine l_split ?_ ?_
 ·intro hc1
  replace hc1 := of_decide_eq_true hc1
  refine l_end (n_then ?_)
  refine c_true rfl ?_
  refine c_seq (c_reg ?_)
  refine bS ?_
  refine l_end (n_then (c_ret (r_then ?_)))
  refine ret_tmp (v := .slice _ _ _) rfl rfl ?_
  exact ⟨_, [], rfl, ⟨Sl.no, rfl, by rw [show l = [] from List.eq_nil_of_length_eq_zero (by have := hP.ok.nil0 hc1; simp only at this; omega)]; exact NewI.no⟩, hW.sub (List.nil_sublist _)⟩
 ·intro hc1
  replace hc1 := of_decide_eq_false hc1
  refine l_end (n_then ?_)
  refine c_false rfl ?_
  refine c_skip (n_then (c_seq (c_reg ?_)))
  refine l_buildSliceF hW bsl35_0_ rfl rfl rfl rfl ?_
  intro ge W hW
  refine aS ?_
  refine l_twin tyE35 hW (s := ⟨aa, an, ac⟩) (RdI.past hP hW.below) (by omega) hl rfl rfl rfl rfl rfl ?_
  intro s2 Bs W hs hW
  refine bS ?_
  refine l_end (n_then (c_ret ?_))
  refine ret_tmp (v := .slice _ _ _) rfl rfl ?_
  exact ⟨_, _, rfl, ⟨s2, rfl, hs⟩, hW.sub (List.sublist_append_right _ _)⟩

end Go.Proofs.Ytoegpalacppllaa

/- An iterator over a list that lay there. -/
namespace Go.Proofs.Ytoegpalacppllaa
open Go.RowKit Pl
open Tr Hn
set_option maxRecDepth 10000 in
/-- slices.Values[[]int,int]$1 -/
theorem j_Values {w : World} (l0 : List Int) (g : Nat) (aa : Option Addr) (an ac : Nat) (hl : l0.length ≤ 4294967296) (hP : RdV w g ⟨aa, an, ac⟩ l0) : IterJ Try.prog w 114 #[.pointer (some ⟨g, 0, none⟩)] an (fun i => #[.int .i64 (at_ l0 i)]) := by
 refine iterJ_of (lb := [.pointer (some ⟨g, 0, none⟩)]) (F := fun l => [.func (.yield l) #[] #[], .pointer (some ⟨g, 0, none⟩), undef, undef, undef, undef, undef, undef, undef, undef, undef, undef, undef, undef, undef, undef]) Try.func114 rfl (fun l => rfl) ?_
 intro r l J L0 W hY hJ hW
 have hn : an = l0.length := hP.rd.len
 refine c_seq (c_reg ?_)
 refine l_loadW tyC35 (v := .slice aa an ac) (hP.past hW.below).box rfl rfl rfl rfl ?_
 refine l_val (r_lenSlice Try.underlying35 rfl rfl) rfl rfl ?_
 refine aI ?_
 refine l_end (n_then (c_block ?_))
 refine c_loop (fun (x : Nat × List Blk) (j : Nat → Value) => [.func (.yield l) #[] #[], .pointer (some ⟨g, 0, none⟩), j 2, j 3, j 4, .slice aa an ac, .int .i64 (an : Int), .int .i64 (x.1 : Int), j 8, j 9, j 10, j 11, j 12, j 13, j 14, j 15]) (fun (x : Nat × List Blk) => [] ++ x.2) (fun (x : Nat × List Blk) => x.1 ≤ an ∧ J x.1 x.2) (fun (x : Nat × List Blk) => an - x.1) (0, L0) (by kernel_rfl) hW ⟨Nat.zero_le _, hJ⟩ ?_
 intro x j W hx hW
 obtain ⟨hx, hJx⟩ := hx
 refine c_seq (c_reg ?_)
 refine l_val (r_lssN rfl rfl rfl rfl) rfl rfl ?_
 refine l_split ?_ ?_
 ·intro hc1
  replace hc1 := of_decide_eq_true hc1
  obtain ⟨b0, o0, ha, hc⟩ := hP.rd.ptr (by omega)
  simp only at ha
  subst ha
  refine l_end (n_then (c_seq ?_))
  refine c_true rfl ?_
  refine c_skip (n_then (c_seq (c_block (c_seq (c_reg ?_)))))
  refine l_val (r_indexAddrSl2 (n := x.1) Try.underlying35 tyC3.size rfl rfl rfl (by omega)) rfl rfl ?_
  refine l_loadF hW tyC3 (v := .int .i64 (at_ l0 (x.1))) (hc (x.1) (by omega)) rfl rfl rfl rfl ?_
  refine bI ?_
  refine l_end (n_then (c_seq (c_reg ?_)))
  refine l_val (r_move (v := .func _ _ _) rfl rfl) rfl rfl ?_
  refine aI ?_
  refine l_yieldJ (hY x.1 [] x.2 W (by omega) hJx (by rw [List.append_nil]; exact hW)) rfl rfl rfl rfl rfl ?_
  intro Lc1 W hJ1 hW
  rw [List.append_nil] at hW
  refine l_val (r_not rfl rfl) rfl rfl ?_
  refine l_end (n_then ?_)
  refine c_false rfl ?_
  refine c_skip (n_block (n_then (c_reg ?_)))
  refine l_val (r_addN (n := 1) rfl rfl rfl (by omega)) rfl rfl ?_
  refine aI ?_
  refine l_end (n_then ?_)
  exact loop_next (x.1 + 1, Lc1) (by kernel_rfl) hW ⟨by simp only; omega, hJ1⟩ (by simp only; omega)
 ·intro hc1
  replace hc1 := of_decide_eq_false hc1
  have e : x.1 = an := by omega
  rw [e] at hJx
  refine l_end (n_then (c_seq ?_))
  refine c_false rfl ?_
  refine c_exit (x_then (x_then ?_))
  refine x_hit ?_
  refine postM_of ?_
  refine end_none rfl ?_
  exact ⟨⟨_, rfl⟩, x.2, hJx, hW⟩

end Go.Proofs.Ytoegpalacppllaa

/- Lists, collected and sorted by the library. -/
namespace Go.Proofs.Ytoegpalacppllaa
open Go.RowKit Pl
open Tr Hn
set_option maxRecDepth 10000 in
/-- slices.AppendSeq[[]int,int] -/
theorem g_AppendSeq (g : Nat) (aa : Option Addr) (an ac : Nat) (l : List Int) (hl : l.length ≤ 4294967296) : GivesX Try.prog 133 [.slice none 0 0, .func (.func 114) #[] #[.pointer (some ⟨g, 0, none⟩)]].toArray (fun w => RdV w g ⟨aa, an, ac⟩ l) (NewSl 3 1 an (il l)) := by
 refine givesXM_of Try.func133 rfl (bs := [.slice none 0 0, .func (.func 114) #[] #[.pointer (some ⟨g, 0, none⟩)], undef, undef, undef, undef, undef, undef, undef, undef, undef, undef, undef]) rfl ?_
 intro w hP hW
 have hn : an = l.length := hP.rd.len
 refine c_seq (c_reg ?_)
 refine l_boxC hW (v := .slice _ _ _) rfl rfl rfl rfl rfl ?_
 intro g1 W hW
 refine bS ?_
 refine l_end (n_then (c_seq (c_seq (c_reg ?_))))
 refine l_val (r_move (v := .func _ _ _) rfl rfl) rfl rfl ?_
 refine l_end (n_then (c_block ?_))
 refine c_rangeJ (j_Values l g aa an ac hl hP) en114 rfl (fun _ => rfl) (fun i Lc => ∃ a c Bs, Lc = ⟨g1, [.slice a i c], 35⟩ :: Bs ∧ OwnSl 3 1 a i c (il (l.take i)) Bs) ⟨none, 0, [], rfl, by rw [List.take_zero]; exact OwnSl.nil 3 1⟩ hW (fun (i : Nat) => fr [.slice none 0 0, .func (.func 114) #[] #[.pointer (some ⟨g, 0, none⟩)], .pointer (some ⟨g1, 0, none⟩), undef, .slice none 0 0, .int .i64 (at_ l i), .func (.func 114) #[] #[.pointer (some ⟨g, 0, none⟩)], .int .i64 (at_ l i), undef, undef, undef, undef, undef] [] []) (fun (i : Nat) => [.slice none 0 0, .func (.func 114) #[] #[.pointer (some ⟨g, 0, none⟩)], .pointer (some ⟨g1, 0, none⟩), undef, .slice none 0 0, undef, .func (.func 114) #[] #[.pointer (some ⟨g, 0, none⟩)], .int .i64 (at_ l i), undef, undef, undef, undef, undef]) (fun _ => by kernel_rfl) ?_ ?_ ?_
 ·intro lq i W
  refine c_reg ?_
  refine bI ?_
  refine l_end ?_
  refine n_then ⟨?_, rfl⟩
  exact congrArg (fun x => (fr x [] [] : Act)) (by kernel_rfl)
 ·intro lq r i L Lc W hi hJ hW
  obtain ⟨a, c, Bs, rfl, hO⟩ := hJ
  replace hW := (show Cl _ (_ :: (Bs ++ L)) _ from hW).perm (List.Perm.cons _ List.perm_append_comm)
  refine c_block (c_reg ?_)
  refine dC hW 0 tyC35 ?_
  refine aI ?_
  refine l_buildSliceF hW (bsl35_1_0 _) rfl rfl rfl rfl ?_
  intro gb W hW
  refine l_appendB tyE35 (L := ⟨gb, _, _⟩ :: ⟨g1, _, _⟩ :: L) hO hW 0 (N := i + 1) rfl rfl rfl rfl rfl rfl rfl rfl (by simp [Value.oneCell']) (by unfold maxLen; omega) (by omega) ?_
  intro a1 c1 Bs1 W hO1 hW
  replace hO1 := hO1.castx rfl (xs' := il (l.take (i + 1))) (il_snoc (by omega))
  refine l_storeC hW 1 tyC35 (v := .slice _ _ _) rfl rfl rfl rfl rfl rfl (by first | rfl | omega | (simp; done) | (simp; omega)) rfl ?_
  intro W hW
  refine l_end (n_block ?_)
  exact ⟨rfl, _, ⟨a1, c1, Bs1, rfl, hO1⟩, (show Cl _ (_ :: (L ++ Bs1)) _ from hW.drop 1).perm (List.Perm.cons _ List.perm_append_comm)⟩
 ·intro D r Lc W hDb hJ hW hD
  obtain ⟨a, c, Bs, rfl, hO⟩ := hJ
  rw [List.take_of_length_le (by omega)] at hO
  refine n_block (n_then (c_seq (c_reg ?_)))
  refine dC hW 0 tyC35 ?_
  refine bS ?_
  refine l_end (n_then (c_ret ?_))
  refine r_mark hW hDb hD ?_
  intro r W hW
  refine ret_tmp (v := .slice _ _ _) rfl rfl ?_
  exact ⟨_, _, rfl, ⟨a, c, rfl, hO⟩, (show Cl _ (_ :: Bs) _ from hW).tobase.drop 1⟩

set_option maxRecDepth 10000 in
/-- slices.Collect[int] -/
theorem g_Collect (g : Nat) (aa : Option Addr) (an ac : Nat) (l : List Int) (hl : l.length ≤ 4294967296) : GivesX Try.prog 112 [.func (.func 114) #[] #[.pointer (some ⟨g, 0, none⟩)]].toArray (fun w => RdV w g ⟨aa, an, ac⟩ l) (NewSl 3 1 an (il l)) := by
 refine givesX_of Try.func112 rfl (bs := [.func (.func 114) #[] #[.pointer (some ⟨g, 0, none⟩)], undef, undef, undef, undef]) rfl ?_
 intro w hP hW
 refine c_seq (c_reg ?_)
 refine bS ?_
 refine l_end (n_then (c_seq (c_reg ?_)))
 refine l_val (r_move (v := .func _ _ _) rfl rfl) rfl rfl ?_
 refine l_callX hW (g_AppendSeq g aa an ac l hl) en133 (hP.past hW.below) rfl rfl rfl rfl ?_
 rintro _ Bs W ⟨a1, c1, rfl, hO⟩ hW
 refine bS ?_
 refine l_end (n_then (c_ret ?_))
 refine ret_tmp (v := .slice _ _ _) rfl rfl ?_
 exact ⟨_, _, rfl, ⟨a1, c1, rfl, hO⟩, hW⟩

theorem sortsI : SortsI Try.prog 113 := ⟨Try.slices_Sort_int, Try.slices_Sort_int_none⟩
set_option maxRecDepth 10000 in
/-- slices.Sorted[int] -/
theorem g_Sorted (g : Nat) (aa : Option Addr) (an ac : Nat) (l : List Int) (hl : l.length ≤ 4294967296) : GivesX Try.prog 81 [.func (.func 114) #[] #[.pointer (some ⟨g, 0, none⟩)]].toArray (fun w => RdV w g ⟨aa, an, ac⟩ l) (NewSl 3 1 an (il (sortI l))) := by
 refine givesX_of Try.func81 rfl (bs := [.func (.func 114) #[] #[.pointer (some ⟨g, 0, none⟩)], undef, undef, undef, undef, undef, undef, undef, undef]) rfl ?_
 intro w hP hW
 have hn : an = l.length := hP.rd.len
 refine c_seq (c_reg ?_)
 refine bS ?_
 refine l_end (n_then (c_seq (c_reg ?_)))
 refine l_val (r_move (v := .func _ _ _) rfl rfl) rfl rfl ?_
 refine l_callX hW (g_Collect g aa an ac l hl) en112 (hP.past hW.below) rfl rfl rfl rfl ?_
 rintro _ Bs W ⟨a1, c1, rfl, hO⟩ hW
 refine bS ?_
 refine l_end (n_then (c_seq (c_reg ?_)))
 refine aS ?_
 refine l_sort sortsI (L := []) hO hW (by omega) en113 rfl rfl rfl rfl ?_
 intro Bs1 W hO1 hW
 refine l_end (n_then (c_seq (c_reg ?_)))
 refine aS ?_
 refine bS ?_
 refine l_end (n_then (c_ret ?_))
 refine ret_tmp (v := .slice _ _ _) rfl rfl ?_
 exact ⟨_, _, rfl, ⟨a1, c1, rfl, hO1⟩, hW⟩

set_option maxRecDepth 10000 in
/-- slices.Grow[[]int,int] -/
theorem g_Grow (n : Nat) (hn : n ≤ 17592186043904) : GivesX Try.prog 115 [.slice none 0 0, .int .i64 (n : Int)].toArray (fun _ => True) (NewSl 3 1 0 []) := by
 refine givesX_of Try.func115 rfl (bs := [.slice none 0 0, .int .i64 (n : Int), undef, undef, undef, undef, undef, undef, undef, undef, undef, undef, undef, undef, undef, undef, undef, undef, undef, undef, undef, undef, undef, undef, undef, undef, undef]) rfl ?_
 intro w hP hW
 refine c_seq (c_reg ?_)
 refine bS ?_
 refine l_end (n_then (c_seq (c_seq (c_reg ?_))))
 refine aI ?_
 refine l_val (r_lssN (b := false) (n := 0) rfl rfl rfl (decide_eq_false (by omega))) rfl rfl ?_
 refine l_end (n_then ?_)
 refine c_false rfl ?_
 refine c_skip (n_then (c_seq (c_seq (c_reg ?_))))
 refine aI ?_
 refine aS ?_
 refine l_val (r_cap Try.underlying35 rfl rfl) rfl rfl ?_
 refine aS ?_
 refine l_val (r_lenSlice Try.underlying35 rfl rfl) rfl rfl ?_
 refine l_val (r_subN rfl rfl rfl (by omega) (by omega)) rfl rfl ?_
 refine l_val (r_subN rfl rfl rfl (by omega) (by omega)) rfl rfl ?_
 refine bI ?_
 refine l_end (n_then (c_seq (c_reg ?_)))
 refine aI ?_
 refine l_val (r_gtrN (n := 0) rfl rfl rfl rfl) rfl rfl ?_
 refine l_split ?_ ?_
 ·intro hc1
  replace hc1 := of_decide_eq_true hc1
  refine l_end (n_then ?_)
  refine c_true rfl ?_
  refine c_reg ?_
  refine aS ?_
  refine aS ?_
  refine l_val (r_cap Try.underlying35 rfl rfl) rfl rfl ?_
  refine l_val (r_sliceTo (h := 0) Try.underlying35 tyC3.size rfl rfl rfl (by omega) (fun _ => rfl)) rfl rfl ?_
  refine aI ?_
  refine l_appendZ (k := n) tyE35 Try.underlying3 hW (by omega) (by omega) (by omega) rfl rfl rfl rfl rfl ?_
  intro gn cn cur W h1 h2 h3 hW
  refine aS ?_
  refine l_val (r_lenSlice Try.underlying35 rfl rfl) rfl rfl ?_
  refine l_val (r_sliceTo (h := 0) Try.underlying35 tyC3.size rfl rfl rfl (by omega) (fun h => by cases h)) rfl rfl ?_
  refine bS ?_
  refine l_end (n_then (c_seq (c_reg ?_)))
  refine aS ?_
  refine bS ?_
  refine l_end (n_then (c_ret ?_))
  refine ret_tmp (v := .slice _ _ _) rfl rfl ?_
  exact ⟨_, _, rfl, ⟨_, _, rfl, ⟨by simp, .inr ⟨gn, cur, rfl, rfl, by omega, h2, by omega, by simp⟩⟩⟩, hW⟩
 ·intro hc1
  replace hc1 := of_decide_eq_false hc1
  refine l_end (n_then ?_)
  refine c_false rfl ?_
  refine c_skip (n_then (c_seq (c_reg ?_)))
  refine aS ?_
  refine bS ?_
  refine l_end (n_then (c_ret ?_))
  refine ret_tmp (v := .slice _ _ _) rfl rfl ?_
  exact ⟨_, _, rfl, ⟨_, _, rfl, OwnSl.nil 3 1⟩, hW⟩

end Go.Proofs.Ytoegpalacppllaa

/- An iterator over a list. -/
namespace Go.Proofs.Ytoegpalacppllaa
open Go.RowKit Pl
open Tr Hn
set_option maxRecDepth 10000 in
/-- slices.Values[[]int,int] -/
theorem g_Values (aa : Option Addr) (an ac : Nat) : GivesX Try.prog 82 [.slice aa an ac].toArray (fun _ => True) (fun v Bs => ∃ g, v = .func (.func 114) #[] #[.pointer (some ⟨g, 0, none⟩)] ∧ Bs = [⟨g, [.slice aa an ac], 35⟩]) := by
 refine givesX_of Try.func82 rfl (bs := [.slice aa an ac, undef, undef, undef]) rfl ?_
 intro w hP hW
 refine c_seq (c_reg ?_)
 refine l_boxC hW (v := .slice _ _ _) rfl rfl rfl rfl rfl ?_
 intro g1 W hW
 refine l_val (r_assign (v := .nilFunc) rfl rfl) rfl rfl ?_
 refine l_end (n_then (c_seq (c_reg ?_)))
 refine l_val (r_closure (vs := [.pointer (some ⟨g1, 0, none⟩)]) rfl rfl) rfl rfl ?_
 refine l_val (r_assign (v := .func _ _ _) rfl rfl) rfl rfl ?_
 refine l_end (n_then (c_ret ?_))
 refine ret_tmp (v := .func _ _ _) rfl rfl ?_
 exact ⟨_, _, rfl, ⟨g1, rfl, rfl⟩, hW⟩

end Go.Proofs.Ytoegpalacppllaa

/- Merged lists, by the program. -/
namespace Go.Proofs.Ytoegpalacppllaa
open Go.RowKit Pl
open Tr Hn
set_option maxRecDepth 10000 in
/-- slices.Concat[[]int,int] -/
theorem g_Concat (aa : Option Addr) (an ac : Nat) (cs : List Sl) (gs : List (List Int)) (hm : sumL gs ≤ 4294967296) (han : an ≤ 4294967296) : GivesX Try.prog 83 [.slice aa an ac].toArray (fun w => RdG w ⟨aa, an, ac⟩ cs gs) (NewSl 3 1 (sumL gs) (il gs.flatten)) := by
 refine givesX_of Try.func83 rfl (bs := [.slice aa an ac, undef, undef, undef, undef, undef, undef, undef, undef, undef, undef, undef, undef, undef, undef, undef, undef, undef, undef, undef, undef, undef, undef, undef, undef, undef, undef, undef, undef, undef, undef, undef, undef, undef, undef, undef]) rfl ?_
 intro w hP hW
 have hn : an = gs.length := by have h1 := hP.n; have h2 := hP.len; simp only at h1; omega
 refine c_seq (c_reg ?_)
 refine bS ?_
 refine l_end (n_then (c_seq (c_reg ?_)))
 refine bI ?_
 refine l_end (n_then (c_seq (c_seq (c_reg ?_))))
 refine aS ?_
 refine l_val (r_lenSlice Try.underlying69 rfl rfl) rfl rfl ?_
 refine aI ?_
 refine l_end (n_then (c_block ?_))
 refine c_loop (fun (x : Nat × Nat) (j : Nat → Value) => [.slice aa an ac, j 1, j 2, .int .i64 (x.2 : Int), j 4, j 5, j 6, j 7, j 8, .slice aa an ac, .int .i64 (an : Int), .int .i64 (x.1 : Int), j 12, j 13, j 14, j 15, j 16, j 17, j 18, j 19, j 20, j 21, j 22, j 23, j 24, j 25, j 26, j 27, j 28, j 29, j 30, j 31, j 32, j 33, j 34, j 35]) (fun (x : Nat × Nat) => []) (fun (x : Nat × Nat) => x.1 ≤ an ∧ x.2 = sumL (gs.take x.1)) (fun (x : Nat × Nat) => an - x.1) (0, 0) (by kernel_rfl) hW ⟨Nat.zero_le _, rfl⟩ ?_
 intro x j W hx hW
 obtain ⟨i, m⟩ := x
 obtain ⟨hx, hm2⟩ := hx
 simp only at hx hm2
 have hle := sumL_take_le gs i
 refine c_seq (c_reg ?_)
 refine l_val (r_lssN rfl rfl rfl rfl) rfl rfl ?_
 refine l_split ?_ ?_
 ·intro hc1
  replace hc1 := of_decide_eq_true hc1
  obtain ⟨b0, o0, ha⟩ := hP.ptr (by omega)
  subst ha
  obtain ⟨s, l, e, f, hc, hr⟩ := hP.get (i := i) (by omega)
  have hsl := hr.len
  have htk := sumL_take_le gs (i + 1)
  rw [sumL_take f] at htk
  refine l_end (n_then (c_seq ?_))
  refine c_true rfl ?_
  refine c_skip (n_then (c_seq (c_block (c_seq (c_reg ?_)))))
  refine l_val (r_indexAddrSl2 (n := i) Try.underlying69 tyC35.size rfl rfl rfl (by omega)) rfl rfl ?_
  refine l_loadF hW tyC35 (v := s.v) hc rfl rfl rfl rfl ?_
  refine bS ?_
  refine l_end (n_then (c_seq (c_reg ?_)))
  refine aI ?_
  refine aS ?_
  refine l_val (r_lenSlice Try.underlying35 rfl rfl) rfl rfl ?_
  refine l_val (r_addN rfl rfl rfl (by omega)) rfl rfl ?_
  refine bI ?_
  refine l_end (n_then (c_seq (c_reg ?_)))
  refine aI ?_
  refine l_val (r_lssN (b := false) (n := 0) rfl rfl rfl (decide_eq_false (by omega))) rfl rfl ?_
  refine l_end (n_then ?_)
  refine c_false rfl ?_
  refine c_skip (n_block (n_then (c_reg ?_)))
  refine l_val (r_addN (n := 1) rfl rfl rfl (by omega)) rfl rfl ?_
  refine aI ?_
  refine l_end (n_then ?_)
  exact loop_next (i + 1, m + s.n) (by kernel_rfl) hW ⟨by simp only; omega, by simp only; rw [sumL_take f]; omega⟩ (by simp only; omega)
 ·intro hc1
  replace hc1 := of_decide_eq_false hc1
  have e0 : i = an := by omega
  rw [e0, List.take_of_length_le (by omega)] at hm2
  refine l_end (n_then (c_seq ?_))
  refine c_false rfl ?_
  refine c_exit (x_then (x_then ?_))
  refine x_hit ?_
  refine n_then (c_seq (c_reg ?_))
  refine aI ?_
  refine l_callX hW (g_Grow m (by omega)) en115 trivial rfl rfl rfl rfl ?_
  rintro _ Bs W ⟨a0, c0, rfl, hO0⟩ hW
  refine bS ?_
  refine l_end (n_then (c_seq (c_seq (c_reg ?_))))
  refine aS ?_
  refine l_val (r_lenSlice Try.underlying69 rfl rfl) rfl rfl ?_
  refine aI ?_
  refine l_end (n_then (c_block ?_))
  refine c_loop (fun (y : Nat × Nat × Option Addr × Nat × List Blk) (j : Nat → Value) => [.slice aa an ac, j 1, j 2, j 3, j 4, j 5, .slice y.2.2.1 y.2.1 y.2.2.2.1, j 7, j 8, .slice aa an ac, .int .i64 (an : Int), j 11, .bool false, j 13, j 14, j 15, j 16, j 17, j 18, j 19, j 20, j 21, j 22, j 23, .slice a0 0 c0, .slice aa an ac, .int .i64 (an : Int), .int .i64 (y.1 : Int), j 28, j 29, j 30, j 31, j 32, j 33, j 34, j 35]) (fun (y : Nat × Nat × Option Addr × Nat × List Blk) => [] ++ y.2.2.2.2) (fun (y : Nat × Nat × Option Addr × Nat × List Blk) => y.1 ≤ an ∧ OwnSl 3 1 y.2.2.1 y.2.1 y.2.2.2.1 (il (gs.take y.1).flatten) y.2.2.2.2) (fun (y : Nat × Nat × Option Addr × Nat × List Blk) => an - y.1) (0, 0, a0, c0, Bs) (by kernel_rfl) hW ⟨Nat.zero_le _, hO0⟩ ?_
  intro y j W hx hW
  obtain ⟨hy, hO⟩ := hx
  have hyn := hO.1
  rw [il_len, ← sumL_flat] at hyn
  refine c_seq (c_reg ?_)
  refine l_val (r_lssN rfl rfl rfl rfl) rfl rfl ?_
  refine l_split ?_ ?_
  ·intro hc2
   replace hc2 := of_decide_eq_true hc2
   obtain ⟨b0, o0, ha⟩ := hP.ptr (by omega)
   subst ha
   obtain ⟨s, l, e, f, hc, hr⟩ := hP.get (i := y.1) (by omega)
   have hsl := hr.len
   have htk := sumL_take_le gs (y.1 + 1)
   rw [sumL_take f] at htk
   refine l_end (n_then (c_seq ?_))
   refine c_true rfl ?_
   refine c_skip (n_then (c_seq (c_block (c_seq (c_reg ?_)))))
   refine l_val (r_indexAddrSl2 (n := y.1) Try.underlying69 tyC35.size rfl rfl rfl (by omega)) rfl rfl ?_
   refine l_loadF hW tyC35 (v := s.v) hc rfl rfl rfl rfl ?_
   refine bS ?_
   refine l_end (n_then (c_reg ?_))
   refine aS ?_
   refine aS ?_
   refine l_appendR tyE35 (L := []) hO hW (hr.past hW.below).rd (N := y.2.1 + s.n) rfl rfl rfl rfl rfl rfl (by rw [il_len]; exact hsl.symm) (fun h => ⟨hr.ok.nil0 h, hr.ok.nil h⟩) (il_one _) (by unfold maxLen; omega) (by omega) ?_
   intro a1 c1 Bs1 W hO1 hW
   replace hO1 := hO1.castx rfl (xs' := il (gs.take (y.1 + 1)).flatten) (by rw [take_flat f, il_append])
   refine bS ?_
   refine l_end (n_block (n_then (c_reg ?_)))
   refine l_val (r_addN (n := 1) rfl rfl rfl (by omega)) rfl rfl ?_
   refine aI ?_
   refine l_end (n_then ?_)
   exact loop_next (y.1 + 1, y.2.1 + s.n, a1, c1, Bs1) (by kernel_rfl) hW ⟨by simp only; omega, hO1⟩ (by simp only; omega)
  ·intro hc2
   replace hc2 := of_decide_eq_false hc2
   have e : y.1 = an := by omega
   rw [e, List.take_of_length_le (by omega)] at hO
   have e2 : y.2.1 = sumL gs := by rw [e, List.take_of_length_le (by omega)] at hyn; omega
   rw [e2] at hO
   refine l_end (n_then (c_seq ?_))
   refine c_false rfl ?_
   refine c_exit (x_then (x_then ?_))
   refine x_hit ?_
   refine n_then (c_seq (c_reg ?_))
   refine aS ?_
   refine bS ?_
   refine l_end (n_then (c_ret ?_))
   refine ret_tmp (v := .slice _ _ _) rfl rfl ?_
   exact ⟨_, _, rfl, ⟨_, _, by rw [e2], hO⟩, hW⟩

set_option maxRecDepth 10000 in
/-- headend/trace.merged[int] -/
theorem g_merged (aa : Option Addr) (an ac : Nat) (cs : List Sl) (gs : List (List Int)) (hm : sumL gs ≤ 4294967296) (han : an ≤ 4294967296) : GivesX Try.prog 49 [.slice aa an ac].toArray (fun w => RdG w ⟨aa, an, ac⟩ cs gs) (fun v Bs => ∃ s : Sl, v = s.v ∧ NewI s (sortI gs.flatten) Bs) := by
 refine givesX_of Try.func49 rfl (bs := [.slice aa an ac, undef, undef, undef, undef, undef, undef]) rfl ?_
 intro w hP hW
 refine c_seq (c_reg ?_)
 refine bS ?_
 refine l_end (n_then (c_seq (c_reg ?_)))
 refine aS ?_
 refine l_callX hW (g_Concat aa an ac cs gs hm han) en83 (hP.past hW.below) rfl rfl rfl rfl ?_
 rintro _ Bs W ⟨a1, c1, rfl, hO⟩ hW
 refine l_callX hW (g_Values a1 (sumL gs) c1) en82 trivial rfl rfl rfl rfl ?_
 rintro _ _ W ⟨g, rfl, rfl⟩ hW
 refine l_callX hW (g_Sorted g a1 (sumL gs) c1 gs.flatten (by rw [← sumL_flat]; exact hm)) en81 ⟨by rw [cell_at (hW.holds ⟨g, [.slice a1 (sumL gs) c1], 35⟩ (by simp))]; rfl, hO.rep.at hW (List.sublist_append_left Bs _)⟩ rfl rfl rfl rfl ?_
 rintro _ Bs2 W ⟨a2, c2, rfl, hO2⟩ hW
 refine bS ?_
 refine l_end (n_then (c_ret ?_))
 refine ret_tmp (v := .slice _ _ _) rfl rfl ?_
 exact ⟨_, Bs2, rfl, ⟨_, rfl, hO2.newI⟩, hW.sub (List.sublist_append_right _ _)⟩

end Go.Proofs.Ytoegpalacppllaa

/- Partitions, and queries of a trace, by the program. -/
namespace Go.Proofs.Ytoegpalacppllaa
open Go.RowKit Pl
open Tr Hn
theorem allm_len {s : Sc} (hd : s.d ≤ 6) : ∀ (l : List (Int × Int)), (allm s l).length ≤ l.length * 64
 | [] => Nat.zero_le _
 | x :: l => by
  have h1 := mem_len s x.1 x.2 (p2 s.d.toNat)
  have h2 := p2_le (n := s.d.toNat) (by omega)
  have h3 := allm_len hd l
  rw [allm_cons, List.length_append, List.length_cons, Nat.succ_mul]; omega
theorem compI : CompI Try.prog 64 := ⟨Try.slices_Compact_int, Try.slices_Compact_int_empty⟩
set_option maxRecDepth 10000 in
/-- headend/trace.CheckParts -/
theorem g_CheckParts (s : Sc) (ba : Option Addr) (bn bc : Nat) (l : List (Int × Int)) (hl : l.length ≤ 100) : GivesR Try.prog 32 [.agg [.int .u8 s.k, .int .i64 s.d, .int .i64 s.g, .int .u64 s.p, .int .u64 s.q, .int .u64 s.r].toArray, .slice ba bn bc].toArray (fun w => RdB w ⟨ba, bn, bc⟩ l) (.int .i64 (partsE s l)) := by
 refine givesR_of Try.func32 rfl (bs := [.agg [.int .u8 s.k, .int .i64 s.d, .int .i64 s.g, .int .u64 s.p, .int .u64 s.q, .int .u64 s.r].toArray, .slice ba bn bc, undef, undef, undef, undef, undef, undef, undef, undef, undef, undef, undef, undef, undef, undef, undef, undef, undef, undef, undef, undef, undef, undef, undef, undef, undef, undef, undef, undef, undef, undef]) rfl ?_
 intro w hP hW
 have hn : bn = l.length := hP.len
 refine c_seq (c_reg ?_)
 refine xB hW ?_
 intro g1 W hW
 refine bI ?_
 refine l_end (n_then (c_seq (c_seq (c_reg ?_))))
 refine dA hW 0 tyA26 ?_
 refine l_call hW (g_Check _) en35 rfl rfl rfl rfl ?_
 intro W hW
 refine bI ?_
 refine l_end (n_then (c_seq (c_reg ?_)))
 refine aI ?_
 refine l_val (r_neq rfl rfl rfl rfl) rfl rfl ?_
 refine l_split ?_ ?_
 ·intro hc1
  replace hc1 := of_decide_eq_true hc1
  have hs := chk_bad hc1
  refine l_end (n_then ?_)
  refine c_true rfl ?_
  refine c_seq (c_reg ?_)
  refine aI ?_
  refine bI ?_
  refine l_end (n_then (c_ret (r_then ?_)))
  refine ret_tmp (v := .int .i64 (partsE s l)) rfl ?_ ⟨rfl, hW.below⟩
  exact congrArg (Value.int .i64) (parts_s hc1).symm
 ·intro hc1
  replace hc1 := of_decide_eq_false hc1
  have hs := chk_zero hc1
  obtain ⟨k1, k3, d0, d6, -⟩ := schB_iff.1 hs
  have hp := p2_le (n := s.d.toNat) (by omega)
  refine l_end (n_then ?_)
  refine c_false rfl ?_
  refine c_skip (n_then (c_seq (c_reg ?_)))
  refine dA hW 0 tyA26 ?_
  refine aS ?_
  refine l_callX hW (g_psubsets s ba bn bc l hs hl) en38 (hP.past hW.below) rfl rfl rfl rfl ?_
  rintro _ BsS W ⟨tS, ss, rfl, hG⟩ hW
  refine l_val (r_move (v := .tuple _) rfl rfl) rfl rfl ?_
  refine l_val (r_extract (v := .slice _ _ _) rfl rfl rfl) rfl rfl ?_
  refine l_val (r_extract (v := .int _ _) rfl rfl rfl) rfl rfl ?_
  refine bS ?_
  refine bI ?_
  refine l_end (n_then (c_seq (c_seq (c_reg ?_))))
  refine aI ?_
  refine l_val (r_neq rfl rfl rfl rfl) rfl rfl ?_
  refine l_split ?_ ?_
  ·intro hc2
   replace hc2 := of_decide_eq_true hc2
   refine l_end (n_then ?_)
   refine c_true rfl ?_
   refine c_seq (c_reg ?_)
   refine aI ?_
   refine bI ?_
   refine l_end (n_then (c_ret (r_then ?_)))
   refine ret_tmp (v := .int .i64 (partsE s l)) rfl ?_ ⟨rfl, hW.below⟩
   exact congrArg (Value.int .i64) (parts_l (fun e => hc1 e) hc2).symm
  ·intro hc2
   replace hc2 := of_decide_eq_false hc2
   have hz0 : subsE s l = 0 := by omega
   have hal := allm_len d6 l
   have hsi := sortI_len (allm s l)
   obtain ⟨tn, hmn⟩ : ∃ tn, tn = tS.n := ⟨_, rfl⟩
   refine l_end (n_then ?_)
   refine c_false rfl ?_
   refine c_skip (n_then (c_seq (c_reg ?_)))
   refine aS ?_
   have hG1 := (hG hz0).at hW (List.sublist_append_right [_] BsS)
   have htn : tS.n = l.length := by have h1 := hG1.n; have h2 := hG1.len; rw [mems_len] at h2; omega
   refine l_callX hW (g_merged tS.a tS.n tS.c ss (mems s l) (by rw [sumL_flat]; exact Nat.le_trans hal (by omega)) (by omega)) en49 hG1 rfl rfl rfl rfl ?_
   rintro _ BM W ⟨sm, rfl, hNM⟩ hW
   replace hNM : NewI sm (sortI (allm s l)) BM := hNM
   have hmn2 := hNM.n
   refine bS ?_
   refine l_end (n_then (c_seq (c_seq (c_reg ?_))))
   refine aS ?_
   refine l_callX hW (g_Clone sm.a sm.n sm.c (sortI (allm s l)) (by omega)) en39 (hNM.rep.at hW (List.sublist_append_right _ BM)) rfl rfl rfl rfl ?_
   rintro _ BC W ⟨sc, rfl, hNC⟩ hW
   refine l_compact compI hNC hW (by omega) en64 rfl rfl rfl rfl ?_
   intro W hW
   refine l_val (r_lenSlice Try.underlying35 rfl rfl) rfl rfl ?_
   refine aS ?_
   refine l_val (r_lenSlice Try.underlying35 rfl rfl) rfl rfl ?_
   refine l_val (r_lssN rfl rfl rfl rfl) rfl rfl ?_
   refine l_split ?_ ?_
   ·intro hc3
    replace hc3 := of_decide_eq_true hc3
    refine l_end (n_then ?_)
    refine c_true rfl ?_
    refine c_seq (c_reg ?_)
    refine bI ?_
    refine l_end (n_then (c_ret (r_then ?_)))
    refine ret_tmp (v := .int .i64 (partsE s l)) rfl ?_ ⟨rfl, hW.below⟩
    exact congrArg (Value.int .i64) (parts_n hc1 hc2 (compact_sort.1 (by omega))).symm
   ·intro hc3
    replace hc3 := of_decide_eq_false hc3
    refine l_end (n_then ?_)
    refine c_false rfl ?_
    refine c_skip (n_then (c_seq (c_reg ?_)))
    refine bI ?_
    refine l_end (n_then (c_ret ?_))
    refine ret_tmp (v := .int .i64 (partsE s l)) rfl ?_ ⟨rfl, hW.below⟩
    exact congrArg (Value.int .i64) (parts_y hc1 hc2 (Classical.not_not.1 fun hn => absurd (compact_sort.2 hn) (by omega))).symm

end Go.Proofs.Ytoegpalacppllaa

/- Headers of queries, by the program. -/
namespace Go.Proofs.Ytoegpalacppllaa
open Go.RowKit Pl
open Tr Hn
set_option maxRecDepth 10000 in
set_option maxHeartbeats 1000000 in
/-- headend/trace.Hybrid -/
theorem g_Hybrid (root : Kw) (s : Sc) (ra : Option Addr) (rn rc : Nat) (l : List (Int × Int)) (f : Int) (se : Kw) (hq : l.length ≤ 100) : GivesX Try.prog 30 [keyV root, .agg [.int .u8 s.k, .int .i64 s.d, .int .i64 s.g, .int .u64 s.p, .int .u64 s.q, .int .u64 s.r].toArray, .slice ra rn rc, .int .i64 f, keyV se].toArray (fun w => RdB w ⟨ra, rn, rc⟩ l) (fun u Bs => ∃ (h : Sl) (ck : Kw), u = .tuple #[.agg (hdC h ck).toArray, .int .i64 (hybE s l f)] ∧ (hybE s l f ≠ 0 → h = Sl.no ∧ ck = (0#64, 0#64)) ∧ (hybE s l f = 0 → ck = derive se 53 0 ∧ h.n = l.length ∧ OwnSl 116 18 h.a h.n h.c (itL (hybL root se s l f.toNat)) Bs)) := by
 refine givesX_of Try.func30 rfl (bs := [keyV root, .agg [.int .u8 s.k, .int .i64 s.d, .int .i64 s.g, .int .u64 s.p, .int .u64 s.q, .int .u64 s.r].toArray, .slice ra rn rc, .int .i64 f, keyV se, undef, undef, undef, undef, undef, undef, undef, undef, undef, undef, undef, undef, undef, undef, undef, undef, undef, undef, undef, undef, undef, undef, undef, undef, undef, undef, undef, undef, undef, undef, undef, undef, undef, undef, undef, undef, undef, undef, undef, undef, undef, undef, undef, undef, undef, undef, undef, undef, undef, undef, undef, undef, undef, undef, undef, undef, undef, undef, undef, undef, undef, undef, undef, undef, undef, undef, undef, undef, undef, undef, undef, undef]) rfl ?_
 intro w hP hW
 have hn : rn = l.length := hP.len
 refine c_seq (c_reg ?_)
 refine xB hW ?_
 intro g1 W hW
 refine xB hW ?_
 intro g2 W hW
 refine xB hW ?_
 intro g3 W hW
 refine l_alloc hW tyZ75 rfl rfl rfl ?_
 intro g4 W hW
 refine bI ?_
 refine l_end (n_then (c_seq (c_seq (c_reg ?_))))
 refine dA hW 2 tyA26 ?_
 refine aS ?_
 refine l_callR hW (g_CheckParts s ra rn rc l hq) en32 (hP.past hW.below) rfl rfl rfl rfl ?_
 intro W hW
 refine bI ?_
 refine l_end (n_then (c_seq (c_reg ?_)))
 refine aI ?_
 refine l_val (r_neq rfl rfl rfl rfl) rfl rfl ?_
 refine l_split ?_ ?_
 ·intro hc1
  replace hc1 := of_decide_eq_true hc1
  refine l_end (n_then ?_)
  refine c_true rfl ?_
  refine c_seq (c_reg ?_)
  refine l_val (r_build (ps := []) (bld75_) rfl rfl) rfl rfl ?_
  refine aI ?_
  refine sA hW 0 tyA75 ?_
  intro W hW
  refine bI ?_
  refine l_end (n_then (c_ret (r_then ?_)))
  refine ret_cell_tmp hW 0 tyA75 rfl rfl rfl (by first | exact hdC_len _ _ | rfl | (simp; done)) rfl ?_
  have eE : hybE s l f = partsE s l := hybE_p hc1
  exact ⟨_, [], rfl, ⟨Sl.no, (0#64, 0#64), by rw [eE]; rfl, fun _ => ⟨rfl, rfl⟩, fun h => absurd (eE.symm.trans h) hc1⟩, hW.sub (List.nil_sublist _)⟩
 ·intro hc1
  replace hc1 := of_decide_eq_false hc1
  obtain ⟨hs, hq2, -⟩ := parts_ok hc1
  obtain ⟨hll, hsb⟩ := subsE_all.1 hq2
  have hsE : sealE s l = 0 := by rw [sealE_l (by rw [chk_yes hs]; decide), hq2]
  refine l_end (n_then ?_)
  refine c_false rfl ?_
  refine c_skip (n_then (c_seq (c_seq (c_reg ?_))))
  refine aI ?_
  refine l_val (r_lss rfl rfl rfl rfl) rfl rfl ?_
  refine l_split ?_ ?_
  ·intro hc2
   replace hc2 := of_decide_eq_true hc2
   refine aB ?_
   refine lN ?_
   refine lN ?_
   refine lN ?_
   refine lN ?_
   refine kB ?_
   refine l_end (n_then ?_)
   refine c_true rfl ?_
   refine c_seq (c_reg ?_)
   refine l_val (r_build (ps := []) (bld75_) rfl rfl) rfl rfl ?_
   refine sA hW 0 tyA75 ?_
   intro W hW
   refine bI ?_
   refine l_end (n_then (c_ret (r_then ?_)))
   refine ret_cell_tmp hW 0 tyA75 rfl rfl rfl (by first | exact hdC_len _ _ | rfl | (simp; done)) rfl ?_
   have eE : hybE s l f = 2 := hybE_f hc1 (by omega)
   exact ⟨_, [], rfl, ⟨Sl.no, (0#64, 0#64), by rw [eE]; rfl, fun _ => ⟨rfl, rfl⟩, fun h => absurd (eE.symm.trans h) (by decide)⟩, hW.sub (List.nil_sublist _)⟩
  ·intro hc2
   replace hc2 := of_decide_eq_false hc2
   refine aB ?_
   refine gI ?_
   refine l_valG (r_move (v := .slice _ _ _) rfl rfl) (by kernel_rfl) rfl ?_
   refine l_valG (r_lenSlice Try.underlying40 rfl rfl) (by kernel_rfl) rfl ?_
   refine l_valG (r_gtr rfl rfl rfl rfl) (by kernel_rfl) rfl ?_
   refine l_split ?_ ?_
   ·intro hc3
    replace hc3 := of_decide_eq_true hc3
    refine kB ?_
    refine l_end (n_then ?_)
    refine c_true rfl ?_
    refine c_seq (c_reg ?_)
    refine l_val (r_build (ps := []) (bld75_) rfl rfl) rfl rfl ?_
    refine sA hW 0 tyA75 ?_
    intro W hW
    refine bI ?_
    refine l_end (n_then (c_ret (r_then ?_)))
    refine ret_cell_tmp hW 0 tyA75 rfl rfl rfl (by first | exact hdC_len _ _ | rfl | (simp; done)) rfl ?_
    have eE : hybE s l f = 2 := hybE_f hc1 (by omega)
    exact ⟨_, [], rfl, ⟨Sl.no, (0#64, 0#64), by rw [eE]; rfl, fun _ => ⟨rfl, rfl⟩, fun h => absurd (eE.symm.trans h) (by decide)⟩, hW.sub (List.nil_sublist _)⟩
   ·intro hc3
    replace hc3 := of_decide_eq_false hc3
    refine kB ?_
    refine l_end (n_then ?_)
    refine c_false rfl ?_
    refine c_skip (n_then (c_seq (c_reg ?_)))
    refine dA hW 3 tyA37 ?_
    refine dA hW 2 tyA26 ?_
    refine aS ?_
    refine dA hW 1 tyA37 ?_
    refine l_callX hW (g_Seal root s ra rn rc l se hq) en56 (hP.past hW.below) rfl rfl rfl rfl ?_
    rintro _ BS W ⟨hh, ck, rfl, -, hok⟩ hW
    obtain ⟨rfl, hhn, hO0⟩ := hok hsE
    rw [hsE]
    refine l_val (r_move (v := .tuple _) rfl rfl) rfl rfl ?_
    refine l_val (r_extract (v := .agg _) rfl rfl rfl) rfl rfl ?_
    refine l_val (r_extract (v := .int _ _) rfl rfl rfl) rfl rfl ?_
    refine l_alloc hW tyZ75 rfl rfl rfl ?_
    intro g5 W hW
    refine l_storeA hW 0 tyA75 rfl rfl rfl rfl rfl rfl rfl (hdC_len _ _) (hdC_one _ _) ?_
    intro W hW
    refine bI ?_
    refine l_end (n_then (c_seq (c_seq (c_reg ?_))))
    refine aI ?_
    refine l_val (r_neq (b := false) rfl rfl rfl (by decide)) rfl rfl ?_
    refine l_end (n_then ?_)
    refine c_false rfl ?_
    refine c_skip (n_then (c_seq (c_seq (c_reg ?_))))
    refine aI ?_
    refine aI ?_
    refine l_end (n_then (c_block ?_))
    refine c_loop (fun (z : Nat × List Blk) (j : Nat → Value) => [keyV root, .agg [.int .u8 s.k, .int .i64 s.d, .int .i64 s.g, .int .u64 s.p, .int .u64 s.q, .int .u64 s.r].toArray, .slice ra rn rc, .int .i64 f, keyV se, .pointer (some ⟨g1, 0, none⟩), .pointer (some ⟨g2, 0, none⟩), j 7, j 8, .pointer (some ⟨g3, 0, none⟩), .pointer (some ⟨g4, 0, none⟩), j 11, .int .i64 (partsE s l), .pointer (some ⟨g5, 0, none⟩), .int .i64 0, j 15, j 16, j 17, .agg ([.int .u8 s.k, .int .i64 s.d, .int .i64 s.g, .int .u64 s.p, .int .u64 s.q, .int .u64 s.r]).toArray, .slice ra rn rc, .int .i64 (partsE s l), .int .i64 (partsE s l), .bool false, j 23, j 24, .int .i64 f, .bool false, .bool false, .int .i64 f, .slice ra rn rc, .int .i64 (rn : Int), .bool false, .bool false, j 33, .tuple #[.agg (hdC hh (derive se 53 0)).toArray, .int .i64 0], .agg (kc root).toArray, .agg ([.int .u8 s.k, .int .i64 s.d, .int .i64 s.g, .int .u64 s.p, .int .u64 s.q, .int .u64 s.r]).toArray, .slice ra rn rc, .agg (kc se).toArray, .tuple #[.agg (hdC hh (derive se 53 0)).toArray, .int .i64 0], .agg (hdC hh (derive se 53 0)).toArray, .int .i64 0, .int .i64 0, .bool false, j 44, j 45, .int .i64 f, .int .i64 (z.1 : Int), j 48, j 49, j 50, j 51, j 52, j 53, j 54, j 55, j 56, j 57, j 58, j 59, j 60, j 61, j 62, j 63, j 64, j 65, j 66, j 67, j 68, j 69, j 70, j 71, j 72, j 73, j 74, j 75, j 76]) (fun (z : Nat × List Blk) => [⟨g5, (hdC hh (derive se 53 0)), 75⟩, ⟨g4, z75, 75⟩, ⟨g3, kc se, 37⟩, ⟨g2, [.int .u8 s.k, .int .i64 s.d, .int .i64 s.g, .int .u64 s.p, .int .u64 s.q, .int .u64 s.r], 26⟩, ⟨g1, kc root, 37⟩] ++ z.2) (fun (z : Nat × List Blk) => (z.1 : Int) ≤ f ∧ OwnSl 116 18 hh.a hh.n hh.c (itL (hybL root se s l z.1)) z.2) (fun (z : Nat × List Blk) => f.toNat - z.1) (0, BS) (by kernel_rfl) hW ⟨by simp only; omega, by simp only; rw [hybL_zero]; exact hO0⟩ ?_
    intro z j W hx hW
    obtain ⟨hz, hO⟩ := hx
    refine c_seq (c_reg ?_)
    refine l_val (r_lss rfl rfl rfl rfl) rfl rfl ?_
    refine l_split ?_ ?_
    ·intro hc4
     replace hc4 := of_decide_eq_true hc4
     obtain ⟨b0, o0, ha, hc⟩ := hP.ptr (by omega)
     obtain ⟨gi, cur, hag, hbl, hnc, hcl, htk⟩ := hO.row (by omega)
     have hO2 := hO
     rw [hag, hbl] at hO2
     rw [hbl] at hW
     refine l_end (n_then (c_seq ?_))
     refine c_true rfl ?_
     refine c_skip (n_then (c_seq (c_block (c_seq (c_reg ?_)))))
     refine aI ?_
     refine bI ?_
     refine l_end (n_then (c_seq ?_))
     refine c_regM hW [] [.q, .q, .q, .q, .q, .q, .q, .q, .q, .q, .mk 0, .st 0, .q] [⟨16, allocX 37 16⟩] [z37] [10] [0, 0, 0, 0, 12, 28, 63, 127, 255, 255, 0, 1535, 4095] (by kernel_rfl) (by kernel_rfl) rfl (by kernel_rfl) ?_
     refine y_loadA 4 tyA37 rfl rfl rfl rfl rfl (by first | rfl | exact kc_len _ | exact kcf_len _ | exact boC_len _ _ | (simp; done)) (by decide) ?_
     refine y_loadA 3 tyA26 rfl rfl rfl rfl rfl (by first | rfl | exact kc_len _ | exact kcf_len _ | exact boC_len _ _ | (simp; done)) (by decide) ?_
     refine yS ?_
     refine yI ?_
     refine y_val (r_indexAddrSlB (n := z.1) Try.underlying40 tyA112.size rfl (congrArg (fun a => Value.slice a rn rc) ha) rfl (by omega)) rfl rfl ?_
     refine y_loadF2 tyA112 (hc z.1 (by omega)).1 (hc z.1 (by omega)).2 (by kernel_rfl) rfl rfl rfl ?_
     refine y_call (g_SubsetKeyZ s root (qn l z.1) (qm l z.1) hs (hsb z.1 (by omega))) en57 rfl rfl rfl rfl ?_
     refine y_val (r_move (v := .tuple _) rfl rfl) rfl rfl ?_
     refine y_val (r_extract (v := .agg _) rfl rfl rfl) rfl rfl ?_
     refine y_val (r_extract (v := .int _ _) rfl rfl rfl) rfl rfl ?_
     refine y_alloc 0 tyZ37 rfl rfl rfl rfl ?_
     refine y_stA 0 tyA37 rfl rfl rfl rfl (by first | rfl | exact kc_len _ | exact kcf_len _ | exact boC_len _ _ | (simp; done)) (by first | exact kc_one _ | exact kcf_one _ | exact boC_one _ _ | (simp [Value.oneCell']; done)) ?_
     refine y_val (r_assign (v := .int _ _) rfl rfl) rfl rfl ?_
     refine y_end ?_
     refine y_made ?_
     rintro _ _ ⟨g6, rfl, rfl, -⟩
     intro W hW
     refine n_then (c_seq (c_seq (c_reg ?_)))
     refine aI ?_
     refine l_val (r_neq (b := false) rfl rfl rfl (by decide)) rfl rfl ?_
     refine l_end (n_then ?_)
     refine c_false rfl ?_
     refine c_skip (n_then ?_)
     refine c_regM hW [] [.q, .q, .q, .q, .q, .q, .q, .q, .q, .q, .q, .tail] [] [] [] [0, 1, 0, 0, 0, 0, 32, 112, 248, 511, 1023, 2047] (by kernel_rfl) (by kernel_rfl) rfl (by kernel_rfl) ?_
     refine y_val (r_fieldAddr 0 Try.underlying75 rfl tyC72.size rfl rfl rfl) rfl rfl ?_
     refine y_loadC 1 tyC72 rfl rfl rfl rfl rfl rfl (by decide) ?_
     refine yI ?_
     refine y_loadA 0 tyA37 rfl rfl rfl rfl rfl (by first | rfl | exact kc_len _ | exact kcf_len _ | exact boC_len _ _ | (simp; done)) (by decide) ?_
     refine y_loadA 3 tyA37 rfl rfl rfl rfl rfl (by first | rfl | exact kc_len _ | exact kcf_len _ | exact boC_len _ _ | (simp; done)) (by decide) ?_
     refine yI ?_
     refine y_val (r_conv_i64_u64 Try.underlying3 Try.underlying22 rfl rfl) rfl rfl ?_
     refine y_call (g_Derive se 80 (BitVec.ofNat 64 z.1)) en59 rfl rfl rfl rfl ?_
     refine y_call (g_Encrypt _ _) en58 rfl rfl rfl rfl ?_
     refine y_val (r_indexAddrSl (n := z.1) Try.underlying72 tyA116.size rfl (congrArg (fun a => Value.slice a hh.n hh.c) hag) rfl (by omega)) rfl rfl ?_
     refine y_val (r_fieldAddr _ Try.underlying116 rfl tyA37.size rfl rfl rfl) rfl rfl ?_
     refine y_tail ?_
     intro W hW
     refine l_storeP hW 6 tyA37 (g := gi) (i := 0 + z.1 * 18 + 2) (cs := cur) (vs := kc (enc (keyN root s (qn l z.1).toNat (qm l z.1).toNat) (derive se 80 (BitVec.ofNat 64 z.1)))) rfl rfl rfl rfl rfl rfl (by rw [hcl]; have := Nat.mul_le_mul_right 18 (show z.1 + 1 ≤ hh.c by omega); omega) (kc_len _) (kc_one _) ?_
     intro W hW
     rw [Nat.zero_add] at hW
     refine l_end (n_block (n_then (c_reg ?_)))
     refine l_val (r_addN (n := 1) rfl rfl rfl (by omega)) rfl rfl ?_
     refine aI ?_
     refine l_end (n_then ?_)
     have hit := OwnSl.item hO2 (i := z.1) (t := sealI root se s (qn l z.1, qm l z.1)) (by rw [hybL_get (by omega), if_neg (by omega)]) (enc (keyN root s (qn l z.1).toNat (qm l z.1).toNat) (derive se 80 (BitVec.ofNat 64 z.1)))
     exact loop_next (z.1 + 1, [⟨gi, cur.take (z.1 * 18 + 2) ++ kc (enc (keyN root s (qn l z.1).toNat (qm l z.1).toNat) (derive se 80 (BitVec.ofNat 64 z.1))) ++ cur.drop (z.1 * 18 + 2 + 16), 116⟩]) (by kernel_rfl) (hW.drop 1) ⟨by simp only; omega, by simp only; rw [← hybL_set (by omega), hag]; exact hit⟩ (by simp only; omega)
    ·intro hc4
     replace hc4 := of_decide_eq_false hc4
     refine l_end (n_then (c_seq ?_))
     refine c_false rfl ?_
     refine c_exit (x_then (x_then ?_))
     refine x_hit ?_
     refine n_then (c_seq (c_reg ?_))
     refine l_loadA hW 0 tyA75 rfl rfl rfl rfl rfl (hdC_len _ _) ?_
     refine l_storeA hW 1 tyA75 rfl rfl rfl rfl rfl rfl rfl (hdC_len _ _) (hdC_one _ _) ?_
     intro W hW
     refine bI ?_
     refine l_end (n_then (c_ret ?_))
     refine ret_cell_tmp hW 1 tyA75 rfl rfl rfl (by first | exact hdC_len _ _ | rfl | (simp; done)) rfl ?_
     have eE : hybE s l f = 0 := hybE_0 hc1 (by omega)
     have ez : z.1 = f.toNat := by omega
     rw [ez] at hO
     exact ⟨_, z.2, rfl, ⟨hh, derive se 53 0, by rw [eE]; rfl, fun h => absurd eE h, fun _ => ⟨rfl, hhn, hO⟩⟩, (show Cl _ ([_, _, _, _, _] ++ z.2) _ from hW).sub (List.sublist_append_right _ _)⟩

end Go.Proofs.Ytoegpalacppllaa

/- The law of partitions and headers. -/
namespace Go.Proofs.Ytoegpalacppllaa
open Go.RowKit Pl
open Tr Hn
set_option maxRecDepth 10000 in
set_option maxHeartbeats 1000000 in
/-- headend/headendlaw08.TraceParts -/
theorem g_TraceParts (root : Kw) (s : Sc) (ra : Option Addr) (rn rc : Nat) (l : List (Int × Int)) (f : Int) (se : Kw) : GivesR Try.prog 6 [keyV root, .agg [.int .u8 s.k, .int .i64 s.d, .int .i64 s.g, .int .u64 s.p, .int .u64 s.q, .int .u64 s.r].toArray, .slice ra rn rc, .int .i64 f, keyV se].toArray (fun w => RdB w ⟨ra, rn, rc⟩ l) (.bool true) := by
 refine givesR_of Try.func6 rfl (bs := [keyV root, .agg [.int .u8 s.k, .int .i64 s.d, .int .i64 s.g, .int .u64 s.p, .int .u64 s.q, .int .u64 s.r].toArray, .slice ra rn rc, .int .i64 f, keyV se, undef, undef, undef, undef, undef, undef, undef, undef, undef, undef, undef, undef, undef, undef, undef, undef, undef, undef, undef, undef, undef, undef, undef, undef, undef, undef, undef, undef, undef, undef, undef, undef, undef, undef, undef, undef, undef, undef, undef, undef, undef, undef, undef, undef, undef, undef, undef, undef]) rfl ?_
 intro w hP hW
 have hn : rn = l.length := hP.len
 refine c_seq (c_reg ?_)
 refine xB hW ?_
 intro g1 W hW
 refine xB hW ?_
 intro g2 W hW
 refine xB hW ?_
 intro g3 W hW
 refine bB ?_
 refine l_end (n_then (c_seq (c_seq (c_reg ?_))))
 refine aS ?_
 refine l_val (r_lenSlice Try.underlying40 rfl rfl) rfl rfl ?_
 refine l_val (r_gtrN (n := 100) rfl rfl rfl rfl) rfl rfl ?_
 refine l_split ?_ ?_
 ·intro hc1
  replace hc1 := of_decide_eq_true hc1
  refine l_end (n_then ?_)
  refine c_true rfl ?_
  refine c_seq (c_reg ?_)
  refine bB ?_
  refine l_end (n_then (c_ret (r_then ?_)))
  refine ret_tmp (v := .bool true) rfl ?_ ⟨rfl, hW.below⟩
  rfl
 ·intro hc1
  replace hc1 := of_decide_eq_false hc1
  have hq : l.length ≤ 100 := by omega
  refine l_end (n_then ?_)
  refine c_false rfl ?_
  refine c_skip (n_then (c_seq (c_reg ?_)))
  refine dA hW 2 tyA37 ?_
  refine dA hW 1 tyA26 ?_
  refine aS ?_
  refine aI ?_
  refine dA hW 0 tyA37 ?_
  refine l_callX hW (g_Hybrid root s ra rn rc l f se hq) en30 (hP.past hW.below) rfl rfl rfl rfl ?_
  rintro _ B1 W ⟨h1, ck1, rfl, hb1, ho1⟩ hW
  refine l_val (r_move (v := .tuple _) rfl rfl) rfl rfl ?_
  refine l_val (r_extract (v := .agg _) rfl rfl rfl) rfl rfl ?_
  refine l_val (r_extract (v := .int _ _) rfl rfl rfl) rfl rfl ?_
  refine l_alloc hW tyZ75 rfl rfl rfl ?_
  intro g4 W hW
  refine l_storeA hW 0 tyA75 rfl rfl rfl rfl rfl rfl rfl (hdC_len _ _) (hdC_one _ _) ?_
  intro W hW
  refine bI ?_
  refine l_end (n_then (c_seq (c_reg ?_)))
  refine dA hW 3 tyA37 ?_
  refine dA hW 2 tyA26 ?_
  refine aS ?_
  refine aI ?_
  refine dA hW 1 tyA37 ?_
  refine l_callX hW (g_rHybrid root s ra rn rc l f se hq) en31 (hP.past hW.below) rfl rfl rfl rfl ?_
  rintro _ B2 W ⟨h2, ck2, rfl, hb2, ho2⟩ hW
  refine l_val (r_move (v := .tuple _) rfl rfl) rfl rfl ?_
  refine l_val (r_extract (v := .agg _) rfl rfl rfl) rfl rfl ?_
  refine l_val (r_extract (v := .int _ _) rfl rfl rfl) rfl rfl ?_
  refine l_alloc hW tyZ75 rfl rfl rfl ?_
  intro g5 W hW
  refine l_storeA hW 0 tyA75 rfl rfl rfl rfl rfl rfl rfl (hdC_len _ _) (hdC_one _ _) ?_
  intro W hW
  refine bI ?_
  refine l_end ?_
  obtain ⟨LL, hLL, hck, hr1, hr2⟩ := hyb_same hq hb1 ho1 hb2 ho2
  replace hW := (show Cl _ (([_, _, _, _, _] ++ B1) ++ B2) _ from hW)
  refine n_then (c_seq ?_)
  refine c_regY hW [] [.q, .q, .q, .q, .q, .q, .q, .q, .q, .q, .q, .q, .q, .q, .q, .q, .q, .q] [0, 0, 3, 0, 0, 31, 63, 127, 255, 255, 1023, 2047, 4095, 8191, 8191, 32767, 65535, 131071] (by kernel_rfl) (by kernel_rfl) ?_
  refine y_loadA 3 tyA26 rfl rfl rfl rfl rfl (by first | rfl | exact kc_len _ | exact kcf_len _ | exact boC_len _ _ | (simp; done)) (by decide) ?_
  refine yS ?_
  refine y_callR (g_CheckParts s ra rn rc l hq) en32 (fun L2 w hs hC => hP.past hC.below) (by kernel_rfl) rfl rfl rfl ?_
  refine y_loadA 3 tyA26 rfl rfl rfl rfl rfl (by first | rfl | exact kc_len _ | exact kcf_len _ | exact boC_len _ _ | (simp; done)) (by decide) ?_
  refine yS ?_
  refine y_callR (g_rCheckParts s ra rn rc l hq) en33 (fun L2 w hs hC => hP.past hC.below) (by kernel_rfl) rfl rfl rfl ?_
  refine y_val (r_eql (b := true) rfl rfl rfl (decide_eq_true rfl)) rfl rfl ?_
  refine yB ?_
  refine y_loadA 1 tyA75 (by kernel_rfl) rfl rfl rfl rfl (hdC_len _ _) (by decide) ?_
  refine y_loadA 0 tyA75 (by kernel_rfl) rfl rfl rfl rfl (hdC_len _ _) (by decide) ?_
  refine y_callR (g_SameHeader h1 h2 ck1 ck2 LL hLL hck) en34 (fun L2 w hs hC => ⟨hr1.at hC ((((List.sublist_append_right _ B1).trans (List.sublist_append_left _ B2))).trans hs.pre), hr2.at hC (((List.sublist_append_right _ B2)).trans hs.pre)⟩) (by kernel_rfl) rfl rfl rfl ?_
  refine yK ?_
  refine yB ?_
  refine y_val (r_move (v := .int _ _) rfl rfl) (by kernel_rfl) rfl ?_
  refine y_val (r_move (v := .int _ _) rfl rfl) (by kernel_rfl) rfl ?_
  refine y_val (r_eql (b := true) rfl rfl rfl (decide_eq_true rfl)) (by kernel_rfl) rfl ?_
  refine yK ?_
  refine y_val (r_assign (v := .bool _) rfl rfl) rfl rfl ?_
  refine y_end ?_
  intro W hW
  refine n_then (c_ret ?_)
  refine ret_tmp (v := .bool true) rfl ?_ ⟨rfl, hW.below⟩
  rfl

end Go.Proofs.Ytoegpalacppllaa

/- For every root key, scheme, list of at most 100 subsets, number of fakes and session key: whether the subsets are a partition, and the header of a query, or the errors, by the program are those of the reference; no conditions. -/
namespace Go.Proofs.Ytoegpalacppllaa
open Go.RowKit Go.ChangeShapes Go.WideShapes Pl Tr Hn

theorem traceParts_calls (H : Type) (enc : TypeId × Value → H) (W : World) (base : Nat) (args : Array Value) (ds : List (DataW H)) (ps : List MemPlace) (h : Opened enc Try.prog W Try.f6 base args ds ps) :
    Calls Try.prog 6 args W fun e w' => e = .returned (.bool true) ∧ Below W.heap.size W w' := by
  have r0 := h.args (ts := [37, 26, 40, 3, 37]) (by kernel_rfl)
  generalize hl : args.toList = l0 at r0
  obtain ⟨_, l1, rfl, a0, r1⟩ := r0.cons
  obtain ⟨root, rfl⟩ := a0.key tyK37 (by kernel_rfl)
  obtain ⟨_, l2, rfl, a1, r2⟩ := r1.cons
  obtain ⟨s, rfl⟩ := a1.scheme tyS26
  obtain ⟨_, l3, rfl, a2, r3⟩ := r2.cons
  obtain ⟨l_a, l_n, l_c, l, rfl, l_rd⟩ := a2.subsets Try.underlying40 tyQ112
  obtain ⟨_, l4, rfl, a3, r4⟩ := r3.cons
  obtain ⟨f, rfl, f_lo, f_hi⟩ := a3.int Try.underlying3
  obtain ⟨_, l5, rfl, a4, r5⟩ := r4.cons
  obtain ⟨se, rfl⟩ := a4.key tyK37 (by kernel_rfl)
  obtain rfl := r5.nil
  rw [arr_of hl]
  exact g_TraceParts root s l_a l_n l_c l f se W l_rd
set_option maxRecDepth 100000 in
theorem traceParts_closed : joinedFacts Try.pinned.checked.prog 6 Try.f6 Rows.tracePartsSpec Rows.tracePartsRow = true := by kernel_rfl
set_option maxRecDepth 100000 in
theorem traceParts_holds : Rows.TracePartsSaid :=
  OpenClaim.holds_of_wide 6 Try.f6 rfl rfl rfl rfl rfl rfl rfl ⟨rfl, rfl, rfl, rfl, rfl⟩ rfl rfl rfl rfl rfl (by kernel_rfl) Try.func6 traceParts_closed
    (of_decide_eq_true (by kernel_rfl)) (by unfold Func.isWrapper; first | (rw [if_pos (by decide +kernel)]; kernel_rfl) | (rw [if_neg (by decide +kernel)]; exact ⟨rfl, rfl⟩))
    (fun os started H enc _ => law_lifted (C := Try.checked) (s := Rows.tracePartsSpec) (conds := Rows.tracePartsRow.domain) 4 (by kernel_rfl) (by kernel_rfl) Try.func6 (by kernel_rfl) (by kernel_rfl) rfl
      (fun H ds hd => match ds, hd with | [_, _, _, _, _], _ => rfl) (by kernel_rfl) Try.underlying4 traceParts_calls os started H enc
      (ChangeSpec.witness6 (enc := enc) (C := Try.checked) false ⟨#[], #[.agg #[.int .u8 0, .int .u8 0, .int .u8 0, .int .u8 0, .int .u8 0, .int .u8 0, .int .u8 0, .int .u8 0, .int .u8 0, .int .u8 0, .int .u8 0, .int .u8 0, .int .u8 0, .int .u8 0, .int .u8 0, .int .u8 0], .agg #[.int .u8 0, .int .i64 0, .int .i64 0, .int .u64 0, .int .u64 0, .int .u64 0], .slice none 0 0, .int .i64 0, .agg #[.int .u8 0, .int .u8 0, .int .u8 0, .int .u8 0, .int .u8 0, .int .u8 0, .int .u8 0, .int .u8 0, .int .u8 0, .int .u8 0, .int .u8 0, .int .u8 0, .int .u8 0, .int .u8 0, .int .u8 0, .int .u8 0]], []⟩ 8 (by kernel_rfl) (by kernel_rfl) (by kernel_rfl) (by kernel_rfl)))
#print axioms traceParts_holds
end Go.Proofs.Ytoegpalacppllaa

