/- The sum of abc, by the kernel. -/
import Derived.Test.YtdpfemhfmofmlaaDoorDig
import Derived.KernelRfl
namespace Go.Proofs.YtdpfemhfmofmlaaDoor

theorem dig_abc : wdig [97, 98, 99] = wbytes [0xBA7816BF, 0x8F01CFEA, 0x414140DE, 0x5DAE2223, 0xB00361A3, 0x96177A9C, 0xB410FF61, 0xF20015AD] := by kernel_rfl

end Go.Proofs.YtdpfemhfmofmlaaDoor
