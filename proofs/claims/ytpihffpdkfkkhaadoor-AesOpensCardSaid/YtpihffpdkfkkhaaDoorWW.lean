/- What newCipher gives, by the key's length. -/
import Derived.Test.YtpihffpdkfkkhaaDoorWV
namespace Go.Proofs.YtpihffpdkfkkhaaDoor
set_option linter.all false
open Go
theorem newCipher_bad (v : Value) (key : List (BitVec 8)) (hk : ¬ (key.length = 16 ∨ key.length = 32)) (hl : key.length ≤ 100000) (w : World) (hT : Tab w) (hR : Rd w v key.length 1 (key.map U8)) :
    Calls Tryd.prog 16 #[v] w (fun e w' => e = .returned nilS ∧ Mem (All w) w w' []) :=
  (newCipher_calls v key _ rfl hl w hT hR).mono fun e w' h => by
    rcases h with ⟨h1, _⟩ | ⟨_, h2, h3⟩
    · exact absurd h1 hk
    · exact ⟨h2, h3⟩
theorem newCipher_ok (v : Value) (key : List (BitVec 8)) (nk : Nat) (hnk : key.length / 4 = nk) (hk : key.length = 16 ∨ key.length = 32) (hl : key.length ≤ 100000) (w : World) (hT : Tab w) (hR : Rd w v key.length 1 (key.map U8)) :
    Calls Tryd.prog 16 #[v] w (fun e w' => ∃ r : Nat × Nat × Nat, e = .returned (sl r.1 r.2.1 (nk + 7) r.2.2) ∧ True ∧ Mem (All w) w w' [rdA (sl r.1 r.2.1 (nk + 7) r.2.2) (nk + 7) 16 ((kS key nk (3 * nk + 28)).1.map U8)]) :=
  (newCipher_calls v key nk hnk hl w hT hR).mono fun e w' h => by
    rcases h with ⟨_, u, h2, h3⟩ | ⟨h1, _⟩
    · have hs := (h3.rdAt (i := 0) rfl).shape
      rcases hs with ⟨_, h0⟩ | hs
      · omega
      · refine ⟨(vblk u, voff u, vcap u), ?_, trivial, ?_⟩
        · rw [h2]; exact congrArg _ hs
        · rw [← hs]; exact h3
    · exact absurd hk h1
def encOut (key blk : List (BitVec 8)) : List (BitVec 8) := encS (kS key (key.length / 4) (3 * (key.length / 4) + 28)).1 (key.length / 4 + 7) blk (key.length / 4 + 7 - 1)
end Go.Proofs.YtpihffpdkfkkhaaDoor
