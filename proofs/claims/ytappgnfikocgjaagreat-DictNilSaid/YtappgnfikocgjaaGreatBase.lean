/- What all walks share: the cells of a key, the zero values of the great types. -/
import Derived.Test.YtappgnfikocgjaaGreatPure
import Derived.Test.YtappgnfikocgjaaGreatMem
import Derived.Test.YtappgnfikocgjaaGreatProg
import Derived.KernelRfl
import Derived.Stop.BytesEq
namespace Go.Proofs.YtappgnfikocgjaaGreat
/-- the cells of a key, of a digest -/
def kc (k : Rc.K) : Array Value := k.toArray.map (fun b => Value.int .u8 b.toNat)
theorem kc_size (k : Rc.K) : (kc k).size = 32 := by simp [kc]
theorem kc_one (k : Rc.K) : (kc k).all (·.oneCell') = true := by
  rw [Array.all_eq_true_iff_forall_mem]
  intro v hv
  simp only [kc, Array.mem_map] at hv
  obtain ⟨b, _, rfl⟩ := hv
  rfl
theorem kc_get (k : Rc.K) (i : Nat) (hi : i < 32) : (kc k)[i]? = some (.int .u8 (k[i]).toNat) := by
  simp [kc, hi]
theorem kc_inj {a b : Rc.K} (h : kc a = kc b) : a = b := by
  apply Vector.ext
  intro i hi
  have h1 := kc_get a i hi
  rw [h, kc_get b i hi] at h1
  simp only [Option.some.injEq, Value.int.injEq, true_and] at h1
  exact (UInt8.toNat_inj.1 (by omega)).symm
theorem kc_cell (k : Rc.K) : kc k = (k.toList.map Extern.Stop.cell).toArray := by
  apply Array.toList_inj.1
  simp only [kc, Array.toList_map, Vector.toList]
  rfl
theorem eqK (t e : TypeId) (ht : Tryz.prog.underlying t = some (.array 32 e)) (he : Tryz.prog.underlying e = some (.int .u8)) (hsz : ∀ w, (sizeOf e).run Tryz.prog w = .ok 1 w) (a b : Rc.K) (w : World) :
    (Op.equalIn 10000 t (.agg (kc a)) (.agg (kc b))).run Tryz.prog w = .ok (a == b) w := by
  rw [kc_cell a, kc_cell b]
  refine (run_equalIn_bytes w 9998 t e 32 ht he hsz a.toList b.toList (by simp) (by simp)).trans ?_
  have : (a.toList == b.toList) = (a == b) := by rw [Bool.eq_iff_iff]; simp
  rw [this]
theorem szu8 (w : World) : (sizeOf 5).run Tryz.prog w = .ok 1 w := by kernel_rfl
theorem eqPath (a b : Rc.K) (w : World) : (Op.equalIn 10000 56 (.agg (kc a)) (.agg (kc b))).run Tryz.prog w = .ok (a == b) w := eqK _ _ Tryz.underlying56 Tryz.underlying5 szu8 a b w
theorem eqHash (a b : Rc.K) (w : World) : (Op.equalIn 10000 40 (.agg (kc a)) (.agg (kc b))).run Tryz.prog w = .ok (a == b) w := eqK _ _ Tryz.underlying40 Tryz.underlying5 szu8 a b w
theorem hz56 : (Tryz.prog.info? 56).bind (·.zero) = some (.agg (kc Rc.zeroK)) := by kernel_rfl
theorem info56 : (Tryz.prog.info? 56).map (·.size) = some 32 := by kernel_rfl
theorem bz56 (w : World) : (Instr.build 56 #[]).run Tryz.prog w = .ok (.agg (kc Rc.zeroK)) w := by kernel_rfl
theorem hz40 : (Tryz.prog.info? 40).bind (·.zero) = some (.agg (kc Rc.zeroK)) := by kernel_rfl
theorem info40 : (Tryz.prog.info? 40).map (·.size) = some 32 := by kernel_rfl
theorem bz40 (w : World) : (Instr.build 40 #[]).run Tryz.prog w = .ok (.agg (kc Rc.zeroK)) w := by kernel_rfl
end Go.Proofs.YtappgnfikocgjaaGreat
