/- Contracts of the dictionary's methods at a dictionary that is none: each answers ErrNil or zero values, and turns nothing. -/
import Derived.Test.YtappgnfikocgjaaGreatBase
import Derived.WalkKit
import Derived.WalkSpells
import Derived.WalkLawsBesides
import Derived.BigQuiet
import Derived.Deep.QuietTactic
import Derived.Deep.RegionHeld3
import Derived.Below
import Derived.Lib.Hide
import Derived.Outline
set_option linter.unusedSimpArgs false
set_option linter.unusedVariables false
namespace Go.Proofs.YtappgnfikocgjaaGreat
open Go.RowKit
attribute [local go_sem] World.row_alloc_old World.thaw_alloc_old World.row_alloc World.thaw_alloc World.row_drewN World.thaw_drewN World.row_drew World.thaw_drew World.row_setRange World.thaw_setRange World.size_setRange splice_all World.setRange_alloc' World.cell?_setRange_other World.setRange_drewN World.setRange_drew Nat.lt_add_right extract_whole kc_size kc_one eqPath eqHash
/-- a dictionary that is nil, or that nobody made -/
def NoDict (w : World) (v : Value) : Prop := v = .pointer none ∨ ∃ b, v = .pointer (some ⟨b, 0, none⟩) ∧ w.cell? ⟨b, 1, none⟩ = some (.pointer none)
theorem NoDict.ext {w w' : World} {v : Value} (h : NoDict w v) (k : Ext w w') : NoDict w' v := by
  rcases h with h | ⟨b, h, hc⟩
  · exact .inl h
  · exact .inr ⟨b, h, k.cell_some hc⟩
theorem NoDict.alloc {w : World} {v : Value} (h : NoDict w v) (o : Obj) : NoDict (w.alloc o) v := h.ext ((Ext.refl w).alloc o)
theorem NoDict.drewN {w : World} {v : Value} (h : NoDict w v) (n : Nat) : NoDict (w.drewN n) v := h.ext ((Ext.refl w).drewN n)
theorem dnone (v : Value) (w : World) (h : NoDict w v) : Calls Tryz.prog 25 #[v] w (Same (.bool true) w) := by
  rcases h with rfl | ⟨b, rfl, hc⟩
  · go_enter Tryz.func25, Tryz.ntmps25
    go_wp2
    go_ret
    exact ⟨rfl, rfl⟩
  · go_enter Tryz.func25, Tryz.ntmps25
    go_wp2
    go_ret
    exact ⟨rfl, rfl⟩
theorem dhandle (v n : Value) (w : World) (h : NoDict w v) : Calls Tryz.prog 9 #[v, n] w (Same (.tuple #[.int .i64 0, .int .i64 1]) w) := by
  go_enter Tryz.func9, Tryz.ntmps9
  go_wp2_with (go_at_call 25; refine (dnone _ _ h).mono ?_; rintro e w1 ⟨rfl, rfl⟩)
  go_ret2
  exact ⟨rfl, rfl⟩
theorem dmade (v : Value) (w : World) (h : NoDict w v) : Calls Tryz.prog 33 #[v] w (Same (.int .i64 1) w) := by
  go_enter Tryz.func33, Tryz.ntmps33
  go_wp2_with (go_at_call 25; refine (dnone _ _ h).mono ?_; rintro e w1 ⟨rfl, rfl⟩)
  go_ret
  exact ⟨rfl, rfl⟩
set_option maxRecDepth 4000 in
theorem dkeyed (v k : Value) (w : World) (h : NoDict w v) : Calls Tryz.prog 19 #[v, k] w (Ret (.tuple #[.agg (kc Rc.zeroK), .int .i64 1]) w) := by
  have h1 := fun o => h.alloc o
  go_enter Tryz.func19, Tryz.ntmps19
  go_wp2_with (first | (go_at_call 25; refine (dnone _ _ (h1 _)).mono ?_; rintro e w1 ⟨rfl, rfl⟩) | first | (refine wpList_alloc_big 56 _ hz56 rfl rfl ?_; simp only [Act.put, List.setIfInBounds_toArray, List.set_cons_zero, List.set_cons_succ]) | (refine wpList_build_zero 56 _ bz56 rfl rfl ?_; simp only [Act.put, List.setIfInBounds_toArray, List.set_cons_zero, List.set_cons_succ]) | (refine wpList_load_big 56 _ _ Tryz.underlying56 rfl info56 _ rfl rfl _ _ rfl ?_ ?_; (· go_simp); intro v hv; simp [go_sem, *] at hv; subst hv; simp only [Act.put, List.setIfInBounds_toArray, List.set_cons_zero, List.set_cons_succ]) | (refine wpList_load_big_g 56 _ _ Tryz.underlying56 rfl info56 _ rfl rfl _ _ rfl ?_ ?_; (· go_simp); intro v hv; simp [go_sem, *] at hv; subst hv; simp only [Act.put, List.setIfInBounds_toArray, List.set_cons_zero, List.set_cons_succ]) | (refine wpList_build_zero_g 56 _ bz56 rfl rfl ?_; simp only [Act.put, List.setIfInBounds_toArray, List.set_cons_zero, List.set_cons_succ]) | (refine wpList_store_big 56 _ info56 _ _ rfl rfl _ _ _ rfl rfl ?_ ?_ ?_ ?_ ?_; (· first | assumption | go_simp); (· first | assumption | exact kc_one _ | exact ndc_one _ | exact slc_one _ | go_simp); (· go_simp); (· go_simp); simp only [Act.put, List.setIfInBounds_toArray, List.set_cons_zero, List.set_cons_succ]) | (refine wpList_alloc_big 40 _ hz40 rfl rfl ?_; simp only [Act.put, List.setIfInBounds_toArray, List.set_cons_zero, List.set_cons_succ]) | (refine wpList_build_zero 40 _ bz40 rfl rfl ?_; simp only [Act.put, List.setIfInBounds_toArray, List.set_cons_zero, List.set_cons_succ]) | (refine wpList_load_big 40 _ _ Tryz.underlying40 rfl info40 _ rfl rfl _ _ rfl ?_ ?_; (· go_simp); intro v hv; simp [go_sem, *] at hv; subst hv; simp only [Act.put, List.setIfInBounds_toArray, List.set_cons_zero, List.set_cons_succ]) | (refine wpList_load_big_g 40 _ _ Tryz.underlying40 rfl info40 _ rfl rfl _ _ rfl ?_ ?_; (· go_simp); intro v hv; simp [go_sem, *] at hv; subst hv; simp only [Act.put, List.setIfInBounds_toArray, List.set_cons_zero, List.set_cons_succ]) | (refine wpList_build_zero_g 40 _ bz40 rfl rfl ?_; simp only [Act.put, List.setIfInBounds_toArray, List.set_cons_zero, List.set_cons_succ]) | (refine wpList_store_big 40 _ info40 _ _ rfl rfl _ _ _ rfl rfl ?_ ?_ ?_ ?_ ?_; (· first | assumption | go_simp); (· first | assumption | exact kc_one _ | exact ndc_one _ | exact slc_one _ | go_simp); (· go_simp); (· go_simp); simp only [Act.put, List.setIfInBounds_toArray, List.set_cons_zero, List.set_cons_succ]))
  refine bodyPost_ret_cell_tmp rfl _ Tryz.underlying56 rfl info56 rfl (by go_simp) rfl ?_
  intro v hv
  simp [go_sem] at hv
  subst hv
  exact ⟨rfl, by (repeat (first | exact Ext.refl _ | refine Ext.drewN ?_ _ | refine Ext.drew ?_ | refine Ext.alloc ?_ _ | refine Ext.setCell ?_ (by first | omega | (simp; done) | (simp; omega)) _ _ | refine Ext.setRange ?_ (by first | omega | (simp; done) | (simp; omega)) _ _ | (refine Ext.trans ?_ (by assumption))))⟩
theorem dOccupied (v : Value) (w : World) (h : NoDict w v) : Calls Tryz.prog 16 #[v] w (Same (.int .i64 0) w) := by
  go_enter Tryz.func16, Tryz.ntmps16
  go_wp2_with (go_at_call 25; refine (dnone _ _ h).mono ?_; rintro e w1 ⟨rfl, rfl⟩)
  go_ret
  exact ⟨rfl, rfl⟩
theorem dRoom (v : Value) (w : World) (h : NoDict w v) : Calls Tryz.prog 17 #[v] w (Same (.int .i64 0) w) := by
  go_enter Tryz.func17, Tryz.ntmps17
  go_wp2_with (go_at_call 25; refine (dnone _ _ h).mono ?_; rintro e w1 ⟨rfl, rfl⟩)
  go_ret
  exact ⟨rfl, rfl⟩
theorem dNames (v : Value) (w : World) (h : NoDict w v) : Calls Tryz.prog 15 #[v] w (Same (.slice none 0 0) w) := by
  go_enter Tryz.func15, Tryz.ntmps15
  go_wp2_with (go_at_call 25; refine (dnone _ _ h).mono ?_; rintro e w1 ⟨rfl, rfl⟩)
  go_ret
  exact ⟨rfl, rfl⟩
theorem dStore (v : Value) (w : World) (h : NoDict w v) : Calls Tryz.prog 18 #[v] w (Same (.pointer none) w) := by
  go_enter Tryz.func18, Tryz.ntmps18
  go_wp2_with (go_at_call 25; refine (dnone _ _ h).mono ?_; rintro e w1 ⟨rfl, rfl⟩)
  go_ret
  exact ⟨rfl, rfl⟩
theorem dBatch (v l : Value) (w : World) (h : NoDict w v) : Calls Tryz.prog 11 #[v, l] w (Same (.int .i64 1) w) := by
  go_enter Tryz.func11, Tryz.ntmps11
  go_wp2_with (go_at_call 25; refine (dnone _ _ h).mono ?_; rintro e w1 ⟨rfl, rfl⟩)
  go_ret
  exact ⟨rfl, rfl⟩
theorem dRollback (v n : Value) (w : World) (h : NoDict w v) : Calls Tryz.prog 13 #[v, n] w (Same (.int .i64 1) w) := by
  go_enter Tryz.func13, Tryz.ntmps13
  go_wp2_with (go_at_call 33; refine (dmade _ _ h).mono ?_; rintro e w1 ⟨rfl, rfl⟩)
  go_ret
  exact ⟨rfl, rfl⟩
theorem dPrune (v n : Value) (w : World) (h : NoDict w v) : Calls Tryz.prog 14 #[v, n] w (Same (.int .i64 1) w) := by
  go_enter Tryz.func14, Tryz.ntmps14
  go_wp2_with (go_at_call 33; refine (dmade _ _ h).mono ?_; rintro e w1 ⟨rfl, rfl⟩)
  go_ret
  exact ⟨rfl, rfl⟩
theorem dLen (v n : Value) (w : World) (h : NoDict w v) : Calls Tryz.prog 7 #[v, n] w (Same (.tuple #[.int .i64 0, .int .i64 1]) w) := by
  go_enter Tryz.func7, Tryz.ntmps7
  go_wp2_with (go_at_call 9; refine (dhandle _ _ _ h).mono ?_; rintro e w1 ⟨rfl, rfl⟩)
  go_ret2
  exact ⟨rfl, rfl⟩
theorem dPut (v k x : Value) (w : World) (h : NoDict w v) : Calls Tryz.prog 10 #[v, k, x] w (Ret (.int .i64 1) w) := by
  go_enter Tryz.func10, Tryz.ntmps10
  go_wp2_with (first | (go_at_call 19; refine (dkeyed _ _ _ h).mono ?_; rintro e w1 ⟨rfl, hw1⟩; have hl1 := Ext.lt hw1; (try simp only [World.size_alloc, World.size_setRange, World.size_setCell, World.heap_drewN, World.size_drew] at hl1)) | first | (refine wpList_alloc_big 56 _ hz56 rfl rfl ?_; simp only [Act.put, List.setIfInBounds_toArray, List.set_cons_zero, List.set_cons_succ]) | (refine wpList_build_zero 56 _ bz56 rfl rfl ?_; simp only [Act.put, List.setIfInBounds_toArray, List.set_cons_zero, List.set_cons_succ]) | (refine wpList_load_big 56 _ _ Tryz.underlying56 rfl info56 _ rfl rfl _ _ rfl ?_ ?_; (· go_simp); intro v hv; simp [go_sem, *] at hv; subst hv; simp only [Act.put, List.setIfInBounds_toArray, List.set_cons_zero, List.set_cons_succ]) | (refine wpList_load_big_g 56 _ _ Tryz.underlying56 rfl info56 _ rfl rfl _ _ rfl ?_ ?_; (· go_simp); intro v hv; simp [go_sem, *] at hv; subst hv; simp only [Act.put, List.setIfInBounds_toArray, List.set_cons_zero, List.set_cons_succ]) | (refine wpList_build_zero_g 56 _ bz56 rfl rfl ?_; simp only [Act.put, List.setIfInBounds_toArray, List.set_cons_zero, List.set_cons_succ]) | (refine wpList_store_big 56 _ info56 _ _ rfl rfl _ _ _ rfl rfl ?_ ?_ ?_ ?_ ?_; (· first | assumption | go_simp); (· first | assumption | exact kc_one _ | exact ndc_one _ | exact slc_one _ | go_simp); (· go_simp); (· go_simp); simp only [Act.put, List.setIfInBounds_toArray, List.set_cons_zero, List.set_cons_succ]) | (refine wpList_alloc_big 40 _ hz40 rfl rfl ?_; simp only [Act.put, List.setIfInBounds_toArray, List.set_cons_zero, List.set_cons_succ]) | (refine wpList_build_zero 40 _ bz40 rfl rfl ?_; simp only [Act.put, List.setIfInBounds_toArray, List.set_cons_zero, List.set_cons_succ]) | (refine wpList_load_big 40 _ _ Tryz.underlying40 rfl info40 _ rfl rfl _ _ rfl ?_ ?_; (· go_simp); intro v hv; simp [go_sem, *] at hv; subst hv; simp only [Act.put, List.setIfInBounds_toArray, List.set_cons_zero, List.set_cons_succ]) | (refine wpList_load_big_g 40 _ _ Tryz.underlying40 rfl info40 _ rfl rfl _ _ rfl ?_ ?_; (· go_simp); intro v hv; simp [go_sem, *] at hv; subst hv; simp only [Act.put, List.setIfInBounds_toArray, List.set_cons_zero, List.set_cons_succ]) | (refine wpList_build_zero_g 40 _ bz40 rfl rfl ?_; simp only [Act.put, List.setIfInBounds_toArray, List.set_cons_zero, List.set_cons_succ]) | (refine wpList_store_big 40 _ info40 _ _ rfl rfl _ _ _ rfl rfl ?_ ?_ ?_ ?_ ?_; (· first | assumption | go_simp); (· first | assumption | exact kc_one _ | exact ndc_one _ | exact slc_one _ | go_simp); (· go_simp); (· go_simp); simp only [Act.put, List.setIfInBounds_toArray, List.set_cons_zero, List.set_cons_succ]))
  go_ret
  exact ⟨rfl, by (repeat (first | exact Ext.refl _ | refine Ext.drewN ?_ _ | refine Ext.drew ?_ | refine Ext.alloc ?_ _ | refine Ext.setCell ?_ (by first | omega | (simp; done) | (simp; omega)) _ _ | refine Ext.setRange ?_ (by first | omega | (simp; done) | (simp; omega)) _ _ | (refine Ext.trans ?_ (by assumption))))⟩
theorem dDelete (v k : Value) (w : World) (h : NoDict w v) : Calls Tryz.prog 4 #[v, k] w (Ret (.tuple #[.bool false, .int .i64 1]) w) := by
  go_enter Tryz.func4, Tryz.ntmps4
  go_wp2_with (first | (go_at_call 19; refine (dkeyed _ _ _ h).mono ?_; rintro e w1 ⟨rfl, hw1⟩; have hl1 := Ext.lt hw1; (try simp only [World.size_alloc, World.size_setRange, World.size_setCell, World.heap_drewN, World.size_drew] at hl1)) | first | (refine wpList_alloc_big 56 _ hz56 rfl rfl ?_; simp only [Act.put, List.setIfInBounds_toArray, List.set_cons_zero, List.set_cons_succ]) | (refine wpList_build_zero 56 _ bz56 rfl rfl ?_; simp only [Act.put, List.setIfInBounds_toArray, List.set_cons_zero, List.set_cons_succ]) | (refine wpList_load_big 56 _ _ Tryz.underlying56 rfl info56 _ rfl rfl _ _ rfl ?_ ?_; (· go_simp); intro v hv; simp [go_sem, *] at hv; subst hv; simp only [Act.put, List.setIfInBounds_toArray, List.set_cons_zero, List.set_cons_succ]) | (refine wpList_load_big_g 56 _ _ Tryz.underlying56 rfl info56 _ rfl rfl _ _ rfl ?_ ?_; (· go_simp); intro v hv; simp [go_sem, *] at hv; subst hv; simp only [Act.put, List.setIfInBounds_toArray, List.set_cons_zero, List.set_cons_succ]) | (refine wpList_build_zero_g 56 _ bz56 rfl rfl ?_; simp only [Act.put, List.setIfInBounds_toArray, List.set_cons_zero, List.set_cons_succ]) | (refine wpList_store_big 56 _ info56 _ _ rfl rfl _ _ _ rfl rfl ?_ ?_ ?_ ?_ ?_; (· first | assumption | go_simp); (· first | assumption | exact kc_one _ | exact ndc_one _ | exact slc_one _ | go_simp); (· go_simp); (· go_simp); simp only [Act.put, List.setIfInBounds_toArray, List.set_cons_zero, List.set_cons_succ]) | (refine wpList_alloc_big 40 _ hz40 rfl rfl ?_; simp only [Act.put, List.setIfInBounds_toArray, List.set_cons_zero, List.set_cons_succ]) | (refine wpList_build_zero 40 _ bz40 rfl rfl ?_; simp only [Act.put, List.setIfInBounds_toArray, List.set_cons_zero, List.set_cons_succ]) | (refine wpList_load_big 40 _ _ Tryz.underlying40 rfl info40 _ rfl rfl _ _ rfl ?_ ?_; (· go_simp); intro v hv; simp [go_sem, *] at hv; subst hv; simp only [Act.put, List.setIfInBounds_toArray, List.set_cons_zero, List.set_cons_succ]) | (refine wpList_load_big_g 40 _ _ Tryz.underlying40 rfl info40 _ rfl rfl _ _ rfl ?_ ?_; (· go_simp); intro v hv; simp [go_sem, *] at hv; subst hv; simp only [Act.put, List.setIfInBounds_toArray, List.set_cons_zero, List.set_cons_succ]) | (refine wpList_build_zero_g 40 _ bz40 rfl rfl ?_; simp only [Act.put, List.setIfInBounds_toArray, List.set_cons_zero, List.set_cons_succ]) | (refine wpList_store_big 40 _ info40 _ _ rfl rfl _ _ _ rfl rfl ?_ ?_ ?_ ?_ ?_; (· first | assumption | go_simp); (· first | assumption | exact kc_one _ | exact ndc_one _ | exact slc_one _ | go_simp); (· go_simp); (· go_simp); simp only [Act.put, List.setIfInBounds_toArray, List.set_cons_zero, List.set_cons_succ]))
  go_ret2
  exact ⟨rfl, by (repeat (first | exact Ext.refl _ | refine Ext.drewN ?_ _ | refine Ext.drew ?_ | refine Ext.alloc ?_ _ | refine Ext.setCell ?_ (by first | omega | (simp; done) | (simp; omega)) _ _ | refine Ext.setRange ?_ (by first | omega | (simp; done) | (simp; omega)) _ _ | (refine Ext.trans ?_ (by assumption))))⟩
theorem dGet (v n k : Value) (w : World) (h : NoDict w v) : Calls Tryz.prog 5 #[v, n, k] w (Ret (.tuple #[.slice none 0 0, .bool false, .int .i64 1]) w) := by
  go_enter Tryz.func5, Tryz.ntmps5
  go_wp2_with (first | (go_at_call 19; refine (dkeyed _ _ _ h).mono ?_; rintro e w1 ⟨rfl, hw1⟩; have hl1 := Ext.lt hw1; (try simp only [World.size_alloc, World.size_setRange, World.size_setCell, World.heap_drewN, World.size_drew] at hl1)) | first | (refine wpList_alloc_big 56 _ hz56 rfl rfl ?_; simp only [Act.put, List.setIfInBounds_toArray, List.set_cons_zero, List.set_cons_succ]) | (refine wpList_build_zero 56 _ bz56 rfl rfl ?_; simp only [Act.put, List.setIfInBounds_toArray, List.set_cons_zero, List.set_cons_succ]) | (refine wpList_load_big 56 _ _ Tryz.underlying56 rfl info56 _ rfl rfl _ _ rfl ?_ ?_; (· go_simp); intro v hv; simp [go_sem, *] at hv; subst hv; simp only [Act.put, List.setIfInBounds_toArray, List.set_cons_zero, List.set_cons_succ]) | (refine wpList_load_big_g 56 _ _ Tryz.underlying56 rfl info56 _ rfl rfl _ _ rfl ?_ ?_; (· go_simp); intro v hv; simp [go_sem, *] at hv; subst hv; simp only [Act.put, List.setIfInBounds_toArray, List.set_cons_zero, List.set_cons_succ]) | (refine wpList_build_zero_g 56 _ bz56 rfl rfl ?_; simp only [Act.put, List.setIfInBounds_toArray, List.set_cons_zero, List.set_cons_succ]) | (refine wpList_store_big 56 _ info56 _ _ rfl rfl _ _ _ rfl rfl ?_ ?_ ?_ ?_ ?_; (· first | assumption | go_simp); (· first | assumption | exact kc_one _ | exact ndc_one _ | exact slc_one _ | go_simp); (· go_simp); (· go_simp); simp only [Act.put, List.setIfInBounds_toArray, List.set_cons_zero, List.set_cons_succ]) | (refine wpList_alloc_big 40 _ hz40 rfl rfl ?_; simp only [Act.put, List.setIfInBounds_toArray, List.set_cons_zero, List.set_cons_succ]) | (refine wpList_build_zero 40 _ bz40 rfl rfl ?_; simp only [Act.put, List.setIfInBounds_toArray, List.set_cons_zero, List.set_cons_succ]) | (refine wpList_load_big 40 _ _ Tryz.underlying40 rfl info40 _ rfl rfl _ _ rfl ?_ ?_; (· go_simp); intro v hv; simp [go_sem, *] at hv; subst hv; simp only [Act.put, List.setIfInBounds_toArray, List.set_cons_zero, List.set_cons_succ]) | (refine wpList_load_big_g 40 _ _ Tryz.underlying40 rfl info40 _ rfl rfl _ _ rfl ?_ ?_; (· go_simp); intro v hv; simp [go_sem, *] at hv; subst hv; simp only [Act.put, List.setIfInBounds_toArray, List.set_cons_zero, List.set_cons_succ]) | (refine wpList_build_zero_g 40 _ bz40 rfl rfl ?_; simp only [Act.put, List.setIfInBounds_toArray, List.set_cons_zero, List.set_cons_succ]) | (refine wpList_store_big 40 _ info40 _ _ rfl rfl _ _ _ rfl rfl ?_ ?_ ?_ ?_ ?_; (· first | assumption | go_simp); (· first | assumption | exact kc_one _ | exact ndc_one _ | exact slc_one _ | go_simp); (· go_simp); (· go_simp); simp only [Act.put, List.setIfInBounds_toArray, List.set_cons_zero, List.set_cons_succ]))
  go_ret3
  exact ⟨rfl, by (repeat (first | exact Ext.refl _ | refine Ext.drewN ?_ _ | refine Ext.drew ?_ | refine Ext.alloc ?_ _ | refine Ext.setCell ?_ (by first | omega | (simp; done) | (simp; omega)) _ _ | refine Ext.setRange ?_ (by first | omega | (simp; done) | (simp; omega)) _ _ | (refine Ext.trans ?_ (by assumption))))⟩
theorem dSome (v n k m : Value) (w : World) (h : NoDict w v) : Calls Tryz.prog 8 #[v, n, k, m] w (Ret (.tuple #[.slice none 0 0, .int .i64 1]) w) := by
  go_enter Tryz.func8, Tryz.ntmps8
  go_wp2_with (first | (go_at_call 19; refine (dkeyed _ _ _ h).mono ?_; rintro e w1 ⟨rfl, hw1⟩; have hl1 := Ext.lt hw1; (try simp only [World.size_alloc, World.size_setRange, World.size_setCell, World.heap_drewN, World.size_drew] at hl1)) | first | (refine wpList_alloc_big 56 _ hz56 rfl rfl ?_; simp only [Act.put, List.setIfInBounds_toArray, List.set_cons_zero, List.set_cons_succ]) | (refine wpList_build_zero 56 _ bz56 rfl rfl ?_; simp only [Act.put, List.setIfInBounds_toArray, List.set_cons_zero, List.set_cons_succ]) | (refine wpList_load_big 56 _ _ Tryz.underlying56 rfl info56 _ rfl rfl _ _ rfl ?_ ?_; (· go_simp); intro v hv; simp [go_sem, *] at hv; subst hv; simp only [Act.put, List.setIfInBounds_toArray, List.set_cons_zero, List.set_cons_succ]) | (refine wpList_load_big_g 56 _ _ Tryz.underlying56 rfl info56 _ rfl rfl _ _ rfl ?_ ?_; (· go_simp); intro v hv; simp [go_sem, *] at hv; subst hv; simp only [Act.put, List.setIfInBounds_toArray, List.set_cons_zero, List.set_cons_succ]) | (refine wpList_build_zero_g 56 _ bz56 rfl rfl ?_; simp only [Act.put, List.setIfInBounds_toArray, List.set_cons_zero, List.set_cons_succ]) | (refine wpList_store_big 56 _ info56 _ _ rfl rfl _ _ _ rfl rfl ?_ ?_ ?_ ?_ ?_; (· first | assumption | go_simp); (· first | assumption | exact kc_one _ | exact ndc_one _ | exact slc_one _ | go_simp); (· go_simp); (· go_simp); simp only [Act.put, List.setIfInBounds_toArray, List.set_cons_zero, List.set_cons_succ]) | (refine wpList_alloc_big 40 _ hz40 rfl rfl ?_; simp only [Act.put, List.setIfInBounds_toArray, List.set_cons_zero, List.set_cons_succ]) | (refine wpList_build_zero 40 _ bz40 rfl rfl ?_; simp only [Act.put, List.setIfInBounds_toArray, List.set_cons_zero, List.set_cons_succ]) | (refine wpList_load_big 40 _ _ Tryz.underlying40 rfl info40 _ rfl rfl _ _ rfl ?_ ?_; (· go_simp); intro v hv; simp [go_sem, *] at hv; subst hv; simp only [Act.put, List.setIfInBounds_toArray, List.set_cons_zero, List.set_cons_succ]) | (refine wpList_load_big_g 40 _ _ Tryz.underlying40 rfl info40 _ rfl rfl _ _ rfl ?_ ?_; (· go_simp); intro v hv; simp [go_sem, *] at hv; subst hv; simp only [Act.put, List.setIfInBounds_toArray, List.set_cons_zero, List.set_cons_succ]) | (refine wpList_build_zero_g 40 _ bz40 rfl rfl ?_; simp only [Act.put, List.setIfInBounds_toArray, List.set_cons_zero, List.set_cons_succ]) | (refine wpList_store_big 40 _ info40 _ _ rfl rfl _ _ _ rfl rfl ?_ ?_ ?_ ?_ ?_; (· first | assumption | go_simp); (· first | assumption | exact kc_one _ | exact ndc_one _ | exact slc_one _ | go_simp); (· go_simp); (· go_simp); simp only [Act.put, List.setIfInBounds_toArray, List.set_cons_zero, List.set_cons_succ]))
  go_ret2
  exact ⟨rfl, by (repeat (first | exact Ext.refl _ | refine Ext.drewN ?_ _ | refine Ext.drew ?_ | refine Ext.alloc ?_ _ | refine Ext.setCell ?_ (by first | omega | (simp; done) | (simp; omega)) _ _ | refine Ext.setRange ?_ (by first | omega | (simp; done) | (simp; omega)) _ _ | (refine Ext.trans ?_ (by assumption))))⟩
theorem dRoot (v n : Value) (w : World) (h : NoDict w v) : Calls Tryz.prog 6 #[v, n] w (Ret (.tuple #[.agg (kc Rc.zeroK), .int .i64 1]) w) := by
  have h1 := fun o => h.alloc o
  go_enter Tryz.func6, Tryz.ntmps6
  go_wp2_with (first | (go_at_call 9; refine (dhandle _ _ _ (h1 _)).mono ?_; rintro e w1 ⟨rfl, rfl⟩) | first | (refine wpList_alloc_big 56 _ hz56 rfl rfl ?_; simp only [Act.put, List.setIfInBounds_toArray, List.set_cons_zero, List.set_cons_succ]) | (refine wpList_build_zero 56 _ bz56 rfl rfl ?_; simp only [Act.put, List.setIfInBounds_toArray, List.set_cons_zero, List.set_cons_succ]) | (refine wpList_load_big 56 _ _ Tryz.underlying56 rfl info56 _ rfl rfl _ _ rfl ?_ ?_; (· go_simp); intro v hv; simp [go_sem, *] at hv; subst hv; simp only [Act.put, List.setIfInBounds_toArray, List.set_cons_zero, List.set_cons_succ]) | (refine wpList_load_big_g 56 _ _ Tryz.underlying56 rfl info56 _ rfl rfl _ _ rfl ?_ ?_; (· go_simp); intro v hv; simp [go_sem, *] at hv; subst hv; simp only [Act.put, List.setIfInBounds_toArray, List.set_cons_zero, List.set_cons_succ]) | (refine wpList_build_zero_g 56 _ bz56 rfl rfl ?_; simp only [Act.put, List.setIfInBounds_toArray, List.set_cons_zero, List.set_cons_succ]) | (refine wpList_store_big 56 _ info56 _ _ rfl rfl _ _ _ rfl rfl ?_ ?_ ?_ ?_ ?_; (· first | assumption | go_simp); (· first | assumption | exact kc_one _ | exact ndc_one _ | exact slc_one _ | go_simp); (· go_simp); (· go_simp); simp only [Act.put, List.setIfInBounds_toArray, List.set_cons_zero, List.set_cons_succ]) | (refine wpList_alloc_big 40 _ hz40 rfl rfl ?_; simp only [Act.put, List.setIfInBounds_toArray, List.set_cons_zero, List.set_cons_succ]) | (refine wpList_build_zero 40 _ bz40 rfl rfl ?_; simp only [Act.put, List.setIfInBounds_toArray, List.set_cons_zero, List.set_cons_succ]) | (refine wpList_load_big 40 _ _ Tryz.underlying40 rfl info40 _ rfl rfl _ _ rfl ?_ ?_; (· go_simp); intro v hv; simp [go_sem, *] at hv; subst hv; simp only [Act.put, List.setIfInBounds_toArray, List.set_cons_zero, List.set_cons_succ]) | (refine wpList_load_big_g 40 _ _ Tryz.underlying40 rfl info40 _ rfl rfl _ _ rfl ?_ ?_; (· go_simp); intro v hv; simp [go_sem, *] at hv; subst hv; simp only [Act.put, List.setIfInBounds_toArray, List.set_cons_zero, List.set_cons_succ]) | (refine wpList_build_zero_g 40 _ bz40 rfl rfl ?_; simp only [Act.put, List.setIfInBounds_toArray, List.set_cons_zero, List.set_cons_succ]) | (refine wpList_store_big 40 _ info40 _ _ rfl rfl _ _ _ rfl rfl ?_ ?_ ?_ ?_ ?_; (· first | assumption | go_simp); (· first | assumption | exact kc_one _ | exact ndc_one _ | exact slc_one _ | go_simp); (· go_simp); (· go_simp); simp only [Act.put, List.setIfInBounds_toArray, List.set_cons_zero, List.set_cons_succ]))
  refine bodyPost_ret_cell_tmp rfl _ Tryz.underlying40 rfl info40 rfl (by go_simp) rfl ?_
  intro v hv
  simp [go_sem] at hv
  subst hv
  exact ⟨rfl, by (repeat (first | exact Ext.refl _ | refine Ext.drewN ?_ _ | refine Ext.drew ?_ | refine Ext.alloc ?_ _ | refine Ext.setCell ?_ (by first | omega | (simp; done) | (simp; omega)) _ _ | refine Ext.setRange ?_ (by first | omega | (simp; done) | (simp; omega)) _ _ | (refine Ext.trans ?_ (by assumption))))⟩
end Go.Proofs.YtappgnfikocgjaaGreat
