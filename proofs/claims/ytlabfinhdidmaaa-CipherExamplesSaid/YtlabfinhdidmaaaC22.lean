/- Errors at 16385 bytes. -/
import Derived.Test.YtlabfinhdidmaaaFacts
import Derived.Test.YtlabfinhdidmaaaVals
import Derived.Test.YtlabfinhdidmaaaC21
import Derived.Test.YtlabfinhdidmaaaVals7
import Derived.Test.YtlabfinhdidmaaaVals6
namespace Go.Proofs.Ytlabfinhdidmaaa
open Go.RowKit Pl

theorem g_StreamBig (k : Kw) (m : W64) (g : Nat) : GivesR Try.prog 31 [keyV k, U64 m, .slice (some ⟨g, 0, none⟩) 16385 16385].toArray (fun w => Rd w (some ⟨g, 0, none⟩) (bl (List.replicate 16385 0#8))) (.tuple #[.slice none 0 0, .int .i64 4]) := by
  have h := x_StreamB k m (some ⟨g, 0, none⟩) 16385 (List.replicate 16385 0#8) (by rw [zeros_len]; exact Nat.le_refl _) (by rw [zeros_len]; decide)
  rw [zeros_len] at h
  exact fun w hP => (h w hP).mono fun e w' ⟨v, Bs, he, ⟨hv, _⟩, hc⟩ => ⟨by rw [he, hv], hc.below⟩
theorem g_HashBig (g : Nat) : GivesR Try.prog 35 [.slice (some ⟨g, 0, none⟩) 16385 16385].toArray (fun w => Rd w (some ⟨g, 0, none⟩) (bl (List.replicate 16385 0#8))) (.tuple #[keyV (0#64, 0#64), .int .i64 4]) := by
  have h := g_HashB (some ⟨g, 0, none⟩) 16385 (List.replicate 16385 0#8) (by rw [zeros_len]; exact Nat.le_refl _) (fun h => by cases h) (by rw [zeros_len]; decide)
  rwa [zeros_len] at h
theorem g_MacBig (k : Kw) (g : Nat) : GivesR Try.prog 33 [keyV k, .slice (some ⟨g, 0, none⟩) 16385 16385].toArray (fun w => Rd w (some ⟨g, 0, none⟩) (bl (List.replicate 16385 0#8))) (.tuple #[keyV (0#64, 0#64), .int .i64 4]) := by
  have h := g_MacB k (some ⟨g, 0, none⟩) 16385 (List.replicate 16385 0#8) (by rw [zeros_len]; exact Nat.le_refl _) (by rw [zeros_len]; decide)
  rwa [zeros_len] at h

end Go.Proofs.Ytlabfinhdidmaaa
