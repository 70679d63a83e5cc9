/- Plain laws of the cipher's round trips. No program is in sight here. -/
import Derived.Test.YtlabfinhdidmaaaPlain2
namespace Go.Proofs.Ytlabfinhdidmaaa.Pl
theorem enc_eq (k a b : Kw) : enc k a = enc k b ↔ a = b := ⟨enc_inj k, fun h => h ▸ rfl⟩
theorem derive_eq (k : Kw) (t t' : BitVec 8) (n n' : W64) : derive k t n = derive k t' n' ↔ t = t' ∧ n = n' :=
  ⟨fun h => blk_inj (enc_inj k h), fun ⟨h, h'⟩ => by rw [h, h']⟩
theorem text_len (k : Kw) : (text k).length = 32 := textTo_len k 16
theorem text_of_parse {l : Bs8} {k : Kw} (h : parse l = some k) : text k = l := by
  unfold parse at h
  by_cases hc : l.length = 32 ∧ fits l 32
  · rw [if_pos hc] at h
    injection h with h
    rw [← h]; exact text_keyOf hc.1 hc.2
  · rw [if_neg hc] at h; cases h
theorem number_lt (k : Kw) (n : W64) {most : W64} (h : ¬ most = 0#64) : (number k n most).toNat < most.toNat := by
  unfold number
  rw [if_neg h, BitVec.toNat_umod]
  refine Nat.mod_lt _ (Nat.pos_of_ne_zero fun e => h (BitVec.eq_of_toNat_eq (by simpa using e)))
theorem gb_stream (k : Kw) (m : W64) (l : Bs8) {i : Nat} (h : i < l.length) : gb (stream k m l) i = gb l i ^^^ maskB k m i := by
  have h1 := stream_get k m l h
  rw [gb_get (by rw [stream_len]; exact h)] at h1
  injection h1
theorem stream_twice (k : Kw) (m : W64) (l : Bs8) : stream k m (stream k m l) = l := by
  apply List.ext_getElem?
  intro i
  by_cases h : i < l.length
  · rw [stream_get k m _ (by rw [stream_len]; exact h), gb_stream k m l h, gb_get h, BitVec.xor_assoc, BitVec.xor_self, BitVec.xor_zero]
  · rw [List.getElem?_eq_none (by rw [stream_len, stream_len]; omega), List.getElem?_eq_none (by omega)]
theorem stream_take (k : Kw) (m : W64) (l : Bs8) (j : Nat) : stream k m (l.take j) = (stream k m l).take j := by
  apply List.ext_getElem?
  intro i
  rw [List.getElem?_take]
  by_cases h : i < (l.take j).length
  · have h' := h
    rw [List.length_take] at h'
    rw [stream_get k m _ h, if_pos (by omega), stream_get k m l (by omega)]
    unfold gb
    rw [List.getD_eq_getElem?_getD, List.getD_eq_getElem?_getD, List.getElem?_take, if_pos (by omega)]
  · rw [List.getElem?_eq_none (by rw [stream_len]; omega)]
    rw [List.length_take] at h
    by_cases h2 : i < j
    · rw [if_pos h2, List.getElem?_eq_none (by rw [stream_len]; omega)]
    · rw [if_neg h2]
end Go.Proofs.Ytlabfinhdidmaaa.Pl
