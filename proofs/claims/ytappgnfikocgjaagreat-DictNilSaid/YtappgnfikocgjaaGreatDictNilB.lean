/- Contracts at a dictionary that is none: Snapshot, which goes by a list of small checks. -/
import Derived.Test.YtappgnfikocgjaaGreatDictNilA
import Derived.WalkKit
import Derived.WalkSpells
import Derived.WalkLawsBesides
import Derived.BigQuiet
import Derived.Deep.QuietTactic
import Derived.Deep.RegionHeld3
import Derived.Below
import Derived.Lib.Hide
import Derived.Outline
set_option linter.unusedSimpArgs false
set_option linter.unusedVariables false
namespace Go.Proofs.YtappgnfikocgjaaGreat
open Go.RowKit
attribute [local go_sem] World.row_alloc_old World.thaw_alloc_old World.row_alloc World.thaw_alloc World.row_drewN World.thaw_drewN World.row_drew World.thaw_drew World.row_setRange World.thaw_setRange World.size_setRange splice_all World.setRange_alloc' World.cell?_setRange_other World.setRange_drewN World.setRange_drew Nat.lt_add_right extract_whole kc_size kc_one eqPath eqHash
theorem dchecked (v : Value) (w : World) (g : Nat) (h : NoDict w v) (hc : w.cell? ⟨g, 0, none⟩ = some (.func (.func 33) #[v] #[])) :
    Calls Tryz.prog 32 #[.slice (some ⟨g, 0, none⟩) 3 3] w (Same (.int .i64 1) w) := by
  go_enter Tryz.func32, Tryz.ntmps32
  go_wp2_with (first | (go_at_call 33; refine (dmade _ _ h).mono ?_; rintro e w1 ⟨rfl, rfl⟩) | (refine wp_loop_once ?_))
  go_ret
  exact ⟨rfl, rfl⟩
theorem dSnapshot (v : Value) (n : ByteArray) (w : World) (h : NoDict w v) : Calls Tryz.prog 12 #[v, .string n] w (Ret (.int .i64 1) w) := by
  have h1 := fun o p => (h.alloc o).alloc p
  go_enter Tryz.func12, Tryz.ntmps12
  go_wp2_with (go_at_call 32; refine (dchecked v _ _ (h1 _ _) ?_).mono ?_; (· go_simp); rintro e w1 ⟨rfl, rfl⟩)
  go_ret
  exact ⟨rfl, by (repeat (first | exact Ext.refl _ | refine Ext.drewN ?_ _ | refine Ext.drew ?_ | refine Ext.alloc ?_ _ | refine Ext.setCell ?_ (by first | omega | (simp; done) | (simp; omega)) _ _ | refine Ext.setRange ?_ (by first | omega | (simp; done) | (simp; omega)) _ _ | (refine Ext.trans ?_ (by assumption))))⟩
end Go.Proofs.YtappgnfikocgjaaGreat
