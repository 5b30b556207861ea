/- The law DrawsSeam, walked: all four cases. -/
import Derived.Test.YtdpfemhfmofmlaaDoorSeamA
import Derived.Test.YtdpfemhfmofmlaaDoorSeamB
import Derived.Test.YtdpfemhfmofmlaaDoorSeamC
import Derived.Test.YtdpfemhfmofmlaaDoorSeamD
namespace Go.Proofs.YtdpfemhfmofmlaaDoor
open Go.RowKit

theorem drawsSeam_walk (x y : Ask) (w : World) (hT : Tabs w) (hx : x.Ok w) (hy : y.Ok w) :
    Calls Tryd.prog 13 #[.agg x.cells.toArray, .agg y.cells.toArray] w fun e w' => e = .returned (.bool true) ∧ Below w.heap.size w w' := by
  obtain ⟨xa, xn, xc, xl, xt, xs, xv⟩ := x
  obtain ⟨ya, yn, yc, yl, yt, ys, yv⟩ := y
  by_cases h1 : xt = yt
  · by_cases h2 : xs = ys
    · by_cases h3 : xv = yv
      · exact drawsSeam_a xa ya xn xc yn yc xl yl xt xs yt ys xv yv w hT hx hy h1 h2 h3
      · exact drawsSeam_b xa ya xn xc yn yc xl yl xt xs yt ys xv yv w hT hx hy h1 h2 h3
    · exact drawsSeam_c xa ya xn xc yn yc xl yl xt xs yt ys xv yv w hT hx hy h1 h2
  · exact drawsSeam_d xa ya xn xc yn yc xl yl xt xs yt ys xv yv w hT hx hy h1

end Go.Proofs.YtdpfemhfmofmlaaDoor
