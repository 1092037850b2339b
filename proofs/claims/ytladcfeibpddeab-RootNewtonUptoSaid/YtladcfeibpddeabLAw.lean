import Derived.Test.YtladcfeibpddeabS22
import Derived.Test.YtladcfeibpddeabONat
import Derived.Test.YtladcfeibpddeabXT
import Derived.KernelRfl
set_option linter.unusedSimpArgs false
set_option linter.unusedVariables false
set_option maxRecDepth 100000
set_option maxHeartbeats 8000000
namespace Go.Proofs.Ytladcfeibpddeab
open Go.VM
theorem awake_spec (c : Nat) : VSpec Try.prog F.surdlaw04_awake c [] (fun r _ => r = bv true) := by
  obtain ⟨c', h⟩ := xcall_p hm orcNat_ok XT_good (lend := fun _ => false) (rounds := 100000) (n := 60) (c := 0) (f := F.surdlaw04_awake) (xs := []) (v := bv true) (by kernel_rfl)
  exact ⟨_, c, Nat.le_refl _, h.at c, rfl⟩
end Go.Proofs.Ytladcfeibpddeab
