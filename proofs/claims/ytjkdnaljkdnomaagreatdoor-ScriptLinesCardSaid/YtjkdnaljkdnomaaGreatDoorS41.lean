/- Part 41 of what the laws of this seat share: walks of functions, and plain laws. -/
import Derived.Test.YtjkdnaljkdnomaaGreatDoorS30
import Derived.Test.YtjkdnaljkdnomaaGreatDoorS39
set_option maxRecDepth 100000
set_option maxHeartbeats 400000
namespace Go.Proofs.YtjkdnaljkdnomaaGreatDoor
open Go.RowKit
theorem Ac.Ace{a:Ac}{c:Cmd}(h:¬(a.dz c=0/\chB c=true)):a.act c=a:=by
 unfold Ac.act;by_cases h8:c.kind=8
 ·rw [if_pos h8];have hz:¬a.te c.day=0:=λe=>h ⟨by unfold Ac.dz;rw [if_pos h8,e],by simp [chB,h8]⟩;unfold Ac.tick;rw [if_neg hz]
 ·rw [if_neg h8];by_cases h17:1<=c.kind/\c.kind<=7
  ·rw [if_pos h17];have hz:¬a.xe c=0:=λe=>h ⟨by unfold Ac.dz;rw [if_neg h8,if_neg j6,if_neg j6,if_neg j6,if_pos h17,e],by simp [chB];omega⟩;exact(Ac.chg_no rfl hz).1
  ·rw [if_neg h17]
end Go.Proofs.YtjkdnaljkdnomaaGreatDoor
