/- The published example of the cipher: its key, block, ciphertext and their texts. No program is in sight here. -/
import Derived.Test.YtlabfinhdidmaaaPlain2
namespace Go.Proofs.Ytlabfinhdidmaaa.Pl
def tK : Bs8 := [48#8, 102#8, 48#8, 101#8, 48#8, 100#8, 48#8, 99#8, 48#8, 98#8, 48#8, 97#8, 48#8, 57#8, 48#8, 56#8, 48#8, 55#8, 48#8, 54#8, 48#8, 53#8, 48#8, 52#8, 48#8, 51#8, 48#8, 50#8, 48#8, 49#8, 48#8, 48#8]
def tB : Bs8 := [54#8, 99#8, 54#8, 49#8, 55#8, 54#8, 54#8, 57#8, 55#8, 53#8, 55#8, 49#8, 54#8, 53#8, 50#8, 48#8, 55#8, 52#8, 54#8, 57#8, 50#8, 48#8, 54#8, 53#8, 54#8, 52#8, 54#8, 49#8, 54#8, 100#8, 50#8, 48#8]
def tC : Bs8 := [97#8, 54#8, 53#8, 100#8, 57#8, 56#8, 53#8, 49#8, 55#8, 57#8, 55#8, 56#8, 51#8, 50#8, 54#8, 53#8, 55#8, 56#8, 54#8, 48#8, 102#8, 101#8, 100#8, 102#8, 53#8, 99#8, 53#8, 55#8, 48#8, 100#8, 49#8, 56#8]
/-- capital 'F' in the second place; a digit too few -/
def tX : Bs8 := [48#8, 70#8, 48#8, 101#8, 48#8, 100#8, 48#8, 99#8, 48#8, 98#8, 48#8, 97#8, 48#8, 57#8, 48#8, 56#8, 48#8, 55#8, 48#8, 54#8, 48#8, 53#8, 48#8, 52#8, 48#8, 51#8, 48#8, 50#8, 48#8, 49#8, 48#8, 48#8]
def tY : Bs8 := [48#8, 102#8, 48#8, 101#8, 48#8, 100#8, 48#8, 99#8, 48#8, 98#8, 48#8, 97#8, 48#8, 57#8, 48#8, 56#8, 48#8, 55#8, 48#8, 54#8, 48#8, 53#8, 48#8, 52#8, 48#8, 51#8, 48#8, 50#8, 48#8, 49#8, 48#8]
def kK : Kw := (0x0f0e0d0c0b0a0908#64, 0x0706050403020100#64)
def kB : Kw := (0x6c61766975716520#64, 0x7469206564616d20#64)
def kC : Kw := (0xa65d985179783265#64, 0x7860fedf5c570d18#64)
theorem parse_tK : parse tK = some kK := by decide +kernel
theorem parse_tB : parse tB = some kB := by decide +kernel
theorem parse_tC : parse tC = some kC := by decide +kernel
theorem parse_tX : parse tX = none := by decide +kernel
theorem parse_tY : parse tY = none := by decide +kernel
theorem enc_known : enc kK kB = kC := by decide +kernel
theorem dec_known : dec kK kC = kB := by rw [← enc_known, dec_enc]
theorem text_known : text kK = tK := by decide +kernel
theorem mac_nil (k : Kw) : mac k [] = derive k 2 0#64 := rfl
theorem hash_nil : hash [] = xorK (enc (blk 128 0 0#64) s5a) s5a := by
  have h1 : portion ([] ++ pad 0) 0 = blk 128 0 0#64 := by decide +kernel
  have h2 : nport ([] ++ pad 0).length = 1 := by decide +kernel
  unfold hash foldK
  simp only [List.length_nil]
  rw [h2, foldTo, foldTo, hashStep, h1]
/-- a law's own facts on an example -/
structure Known (k b c : Kw) : Prop where
  pk : parse tK = some k
  pb : parse tB = some b
  pc : parse tC = some c
  enc : enc k b = c
  dec : dec k c = b
  text : text k = tK
theorem known_ex : Known kK kB kC := ⟨parse_tK, parse_tB, parse_tC, enc_known, dec_known, text_known⟩
end Go.Proofs.Ytlabfinhdidmaaa.Pl
