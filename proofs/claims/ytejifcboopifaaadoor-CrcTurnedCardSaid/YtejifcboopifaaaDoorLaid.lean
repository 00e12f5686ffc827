/- From the rows' condition to the tables that the walks read. -/
import Derived.Test.YtejifcboopifaaaDoorPx1
import Derived.Test.YtejifcboopifaaaDoorRows
import Derived.LaidMore
import Derived.Stop.Joined
import Derived.Lib.LaidTab
namespace Go.Proofs.YtejifcboopifaaaDoor.Laid
open Go Go.RowKit
theorem half_data {H : Type} : Rows.laid_gong_crc_half (H := H) = Lib.tabData .u32 Crc.halfL := rfl
theorem tabs {W : World} (h : laidMetH Tryd.prog [("gong/crc.half", Rows.laid_gong_crc_half)] W) : Px.TabW W := by
  rw [MakeChecks.laidMetH_plain _ _ _ (by kernel_rfl), half_data] at h
  exact Lib.tabIs_of_head (g := 0) (t := 43) (e := 22) (n := 16) (by kernel_rfl) (by kernel_rfl) Tryd.underlying43 Tryd.underlying22 (by kernel_rfl) (by kernel_rfl) h
end Go.Proofs.YtejifcboopifaaaDoor.Laid
