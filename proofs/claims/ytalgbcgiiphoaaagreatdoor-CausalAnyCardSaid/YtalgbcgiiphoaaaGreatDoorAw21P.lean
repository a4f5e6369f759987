/- What a box answers of two groups: plain. No condition. -/
import Derived.Test.YtalgbcgiiphoaaaGreatDoorFA
import Derived.Test.YtalgbcgiiphoaaaGreatDoorPA
namespace Go.Proofs.YtalgbcgiiphoaaaGreatDoor
set_option linter.unusedVariables false
/-- the group that undoes the first one -/
def secondG : Grp := ⟨⟨2, 1⟩, 2, [1], ⟨1, 1⟩, []⟩
def awb1 : Bx := ⟨[], [secondG], []⟩
def awb2 : Bx := ⟨[firstG, secondG], [], [2]⟩
set_option maxRecDepth 100000
theorem chk_first : chkB firstG = true := by decide +kernel
theorem chk_second : chkB secondG = true := by decide +kernel
theorem aw_hear1 : hearB Bx.new secondG = (awb1, 0, 0) := by
  unfold hearB
  rw [chk_second, if_neg (by decide), show knownB Bx.new secondG = false by decide +kernel, if_neg (by decide), show readyB Bx.new.v secondG = false by decide +kernel, if_neg (by decide), if_neg (by decide)]
  rfl
theorem aw_hear2 : hearB awb1 firstG = (awb2, 2, 0) := by
  unfold hearB
  rw [chk_first, if_neg (by decide), show knownB awb1 firstG = false by decide +kernel, if_neg (by decide), show readyB awb1.v firstG = true by decide +kernel, if_pos rfl]
  have h1 : drainF awb1.wait.length (awb1.put firstG) = (awb2, 1) := by
    rw [show awb1.wait.length = 0 + 1 from rfl, drainF_put (k := 0) (by decide +kernel) (by decide +kernel)]
    rw [show (awb1.put firstG).wait.getD 0 gz = secondG from rfl]
    have e : Bx.put ⟨(awb1.put firstG).done, (awb1.put firstG).wait.eraseIdx 0, (awb1.put firstG).v⟩ secondG = awb2 := by
      show (⟨_, _, _⟩ : Bx) = ⟨_, _, _⟩
      rw [Bx.mk.injEq]
      exact ⟨rfl, rfl, by decide +kernel⟩
    rw [e]; rfl
  rw [h1]
theorem aw_hear3 : hearB awb2 secondG = (awb2, 0, 210) := by
  unfold hearB
  rw [chk_second, if_neg (by decide), show knownB awb2 secondG = true by decide +kernel, if_pos rfl]
theorem aw_ok1 : BxOk awb1 := by have := hearB_ok BxOk.new secondG; rw [aw_hear1] at this; exact this
theorem aw_ok2 : BxOk awb2 := by have := hearB_ok aw_ok1 firstG; rw [aw_hear2] at this; exact this
end Go.Proofs.YtalgbcgiiphoaaaGreatDoor
