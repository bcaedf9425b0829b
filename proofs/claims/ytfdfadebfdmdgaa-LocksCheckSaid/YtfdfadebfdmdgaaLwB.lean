/- The walk of LocksCheck: it returns true for every table, lock and thread. -/
import Derived.Test.YtfdfadebfdmdgaaLwI
import Derived.Test.YtfdfadebfdmdgaaLwD
import Derived.Test.YtfdfadebfdmdgaaLwF
import Derived.Test.YtfdfadebfdmdgaaLwG
namespace Go.Proofs.Ytfdfadebfdmdgaa
open Go.RowKit

theorem check_law (A : Option Addr) (n c : Nat) (hs : List H3) (lv ix th : Int) (w : World) (hr : Rd w w.heap.size 3 A n (cells3 hs)) :
    Calls Try.prog 8 #[.agg #[.slice A n c], .agg #[.int .i64 lv, .int .i64 ix], .int .i64 th] w fun e w' => e = .returned (.bool true) ∧ Below w.heap.size w w' := by
  by_cases hbig : n > 60
  · exact check_lives A n c lv ix th w hbig
  have hn6 : n ≤ 60 := by omega
  by_cases h0 : checkF hs = 0
  · cases hv : validB lv ix th
    · exact check_notready A n c hs lv ix th w hn6 (by unfold Hid readyF; rw [if_pos h0, hv]; decide) hr
    · cases hh : heldB lv ix hs
      · exact check_unheld A n c hs lv ix th w hn6 h0 hv hh hr
      · by_cases ho : ownerF lv ix hs = th
        · exact check_mine A n c hs lv ix th w hn6 h0 hv hh ho hr
        · exact check_other A n c hs lv ix th w hn6 h0 hv hh ho hr
  · exact check_notready A n c hs lv ix th w hn6 (by unfold Hid readyF; rw [if_neg h0]; exact h0) hr
end Go.Proofs.Ytfdfadebfdmdgaa
