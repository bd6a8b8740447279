/-
  Plain laws of control blocks: which may have interrupts posted.
-/
import Derived.Test.YtdlcchoemladnaaCtl
namespace Go.Proofs.Ytdlcchoemladnaa
theorem ctl_open (b : Int) (h0 : 0 ≤ b) (h1 : b < 256) : ctlOkT 0 b true = true := by
  have : inB b 0 255 = true := inB_t h0 (by omega)
  simp [ctlOkT, faultsT, this, show inB 0 0 3 = true from rfl]
theorem ctl_shut (b : Int) (h0 : 0 ≤ b) (h1 : b < 256) : ctlOkT 0 b false = (b == 0) := by
  have : inB b 0 255 = true := inB_t h0 (by omega)
  by_cases h : b = 0
  · subst h; rfl
  · simp [ctlOkT, faultsT, this, h, show inB 0 0 3 = true from rfl]
theorem posts_open (b n : Int) (h0 : 0 ≤ b) (h1 : b < 256) (h2 : 0 ≤ n) (h3 : n < 8) : postsT 0 b true n = bitT b n := by
  simp [postsT, ctl_open b h0 h1, inB_t h2 (show n ≤ 7 from by omega)]
theorem posts_shut (b n : Int) (h0 : 0 ≤ b) (h1 : b < 256) : postsT 0 b false n = false := by
  by_cases h : b = 0
  · subst h
    have : bitT 0 n = false := by unfold bitT; rw [Int.zero_ediv]; rfl
    simp [postsT, this]
  · simp [postsT, ctl_shut b h0 h1, h]
theorem posts_eight (b : Int) (o : Bool) : postsT 0 b o 8 = false := by
  simp [postsT, show inB 8 0 7 = false from rfl]
theorem eight (x : Int) (h : 0 ≤ x) (h2 : x < 8) : x = 0 ∨ x = 1 ∨ x = 2 ∨ x = 3 ∨ x = 4 ∨ x = 5 ∨ x = 6 ∨ x = 7 := by omega
end Go.Proofs.Ytdlcchoemladnaa
