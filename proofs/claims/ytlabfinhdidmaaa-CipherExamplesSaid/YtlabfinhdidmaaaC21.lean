/- Streams and MACs of slices with a length of another name. -/
import Derived.Test.YtlabfinhdidmaaaFacts
import Derived.Test.YtlabfinhdidmaaaVals
import Derived.Test.YtlabfinhdidmaaaC20
import Derived.Test.YtlabfinhdidmaaaVals6
namespace Go.Proofs.Ytlabfinhdidmaaa
open Go.RowKit Pl

def StrX (k : Kw) (m : W64) (l : Bs8) (n : Nat) (v : Value) (Bs : List Blk) : Prop := ∃ go, v = .tuple #[.slice (some ⟨go, 0, none⟩) n n, .int .i64 0] ∧ Bs = [⟨go, bl (stream k m l), 5⟩]
theorem x_StreamN (k : Kw) (m : W64) (a : Option Addr) (n c : Nat) (l : Bs8) (hl : l.length = n) (hcap : n ≤ c) (hb : ¬ 16384 < n) : GivesX Try.prog 31 [keyV k, U64 m, .slice a n c].toArray (fun w => Rd w a (bl l)) (StrX k m l n) := by
  subst hl
  exact x_StreamS k m a c l hcap hb
theorem g_MacN (k : Kw) (a : Option Addr) (n c : Nat) (l : Bs8) (hl : l.length = n) (hcap : n ≤ c) (hb : ¬ 16384 < n) : GivesR Try.prog 33 [keyV k, .slice a n c].toArray (fun w => Rd w a (bl l)) (.tuple #[keyV (mac k l), .int .i64 0]) := by
  subst hl
  exact g_MacS k a c l hcap hb

end Go.Proofs.Ytlabfinhdidmaaa
