import Derived.Test.YtladcfeibpddeaaONat
import Derived.Test.YtladcfeibpddeaaXT
import Derived.KernelRfl
set_option maxRecDepth 100000
namespace Go.Proofs.Ytladcfeibpddeaa
open Go.VM
theorem names_true : ∃ c', VCallP Try.prog 3 0 [] (bv true) c' :=
  xcall_p hm orcNat_ok XT_good (lend := fun _ => false) (rounds := 100000) (n := 60) (by kernel_rfl)
end Go.Proofs.Ytladcfeibpddeaa
