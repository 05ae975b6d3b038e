/- Laws on memory, block by block: what a block holds ('row'), whether it may be written ('thaw'), a range of it written at once ('setRange'), and what a call leaves as it was ('Ext'). -/
import Derived.WalkKit
import Derived.WalkSpells
import Derived.WalkLawsBesides
import Derived.Below
import Derived.Deep.MidRow
import Derived.Deep.Draws
namespace Go
def World.row (w : World) (g : Nat) : Array Value := match w.heap[g]? with
  | some (.cells c _ _) => c
  | _ => #[]
def World.thaw (w : World) (g : Nat) : Bool := match w.heap[g]? with
  | some (.cells _ _ f) => f == (0, 0)
  | _ => false
def splice (c : Array Value) (o : Nat) (vs : Array Value) : Array Value := c.extract 0 o ++ vs ++ c.extract (o + vs.size) c.size
def World.setRange (w : World) (g o : Nat) (vs : Array Value) : World :=
  { w with heap := w.heap.modify g fun
      | .cells c e f => .cells (splice c o vs) e f
      | ob => ob }

theorem World.cell?_row (w : World) (g i : Nat) : w.cell? ⟨g, i, none⟩ = (w.row g)[i]? := by
  unfold World.cell? World.row
  split <;> simp_all
theorem World.frozen?_thaw {w : World} {g : Nat} (h : w.thaw g = true) (i : Nat) : w.frozen? ⟨g, i, none⟩ = false := by
  unfold World.thaw at h
  unfold World.frozen?
  split at h
  · rename_i c e f hb
    simp only [hb]
    have : f = (0, 0) := by simpa using h
    subst this; simp
  · cases h
theorem World.thaw_lt {w : World} {g : Nat} (h : w.thaw g = true) : g < w.heap.size := by
  rcases Nat.lt_or_ge g w.heap.size with h1 | h1
  · exact h1
  · unfold World.thaw at h; rw [Array.getElem?_eq_none h1] at h; cases h

theorem World.heap_alloc_below (w : World) (o : Obj) (k : Nat) (h : k < w.heap.size) : (w.alloc o).heap[k]? = w.heap[k]? := RowKit.Below.heap_alloc w o k h
section alloc
variable (w : World) (c : Array Value) (t : TypeId) (o : Obj) (g i : Nat)
theorem World.row_alloc_new : (w.alloc (.cells c t)).row w.heap.size = c := by unfold World.row; rw [heap_alloc_new]
theorem World.thaw_alloc_new : (w.alloc (.cells c t)).thaw w.heap.size = true := by unfold World.thaw; rw [heap_alloc_new]; rfl
theorem World.row_alloc_old (h : g < w.heap.size) : (w.alloc o).row g = w.row g := by unfold World.row; rw [World.heap_alloc_below w o g h]
theorem World.thaw_alloc_old (h : g < w.heap.size) : (w.alloc o).thaw g = w.thaw g := by unfold World.thaw; rw [World.heap_alloc_below w o g h]
theorem World.row_alloc : (w.alloc (.cells c t)).row g = if g = w.heap.size then c else w.row g := by
  by_cases h : g = w.heap.size
  · subst h; rw [if_pos rfl, World.row_alloc_new]
  · rw [if_neg h]
    rcases Nat.lt_or_ge g w.heap.size with h1 | h1
    · exact World.row_alloc_old w _ g h1
    · unfold World.row
      rw [Array.getElem?_eq_none (by simp; omega), Array.getElem?_eq_none h1]
theorem World.thaw_alloc : (w.alloc (.cells c t)).thaw g = if g = w.heap.size then true else w.thaw g := by
  by_cases h : g = w.heap.size
  · subst h; rw [if_pos rfl, World.thaw_alloc_new]
  · rw [if_neg h]
    rcases Nat.lt_or_ge g w.heap.size with h1 | h1
    · exact World.thaw_alloc_old w _ g h1
    · unfold World.thaw
      rw [Array.getElem?_eq_none (by simp; omega), Array.getElem?_eq_none h1]
theorem World.row_drewN (n : Nat) : (w.drewN n).row g = w.row g := rfl
theorem World.thaw_drewN (n : Nat) : (w.drewN n).thaw g = w.thaw g := rfl
theorem World.row_drew : w.drew.row g = w.row g := rfl
theorem World.thaw_drew : w.drew.thaw g = w.thaw g := rfl
theorem World.row_setCell (v : Value) (g' : Nat) : (w.setCell ⟨g, i, none⟩ v).row g' = if g' = g then (w.row g).setIfInBounds i v else w.row g' := by
  unfold World.row World.setCell
  simp only [Array.getElem?_modify]
  split
  · rename_i c e f h
    by_cases hg : g = g'
    · subst hg
      simp only [if_true] at h ⊢
      cases hw : w.heap[g]? with
      | none => simp [hw] at h
      | some ob => cases ob <;> simp_all
    · simp only [hg, if_false] at h ⊢
      rw [if_neg (Ne.symm hg)]
      simp [h]
  · rename_i h
    by_cases hg : g = g'
    · subst hg
      simp only [if_true] at h ⊢
      cases hw : w.heap[g]? with
      | none => simp
      | some ob => cases ob <;> simp_all
    · simp only [hg, if_false] at h ⊢
      rw [if_neg (Ne.symm hg)]
      split <;> simp_all
theorem World.thaw_setCell (v : Value) (g' : Nat) : (w.setCell ⟨g, i, none⟩ v).thaw g' = w.thaw g' := by
  unfold World.thaw World.setCell
  simp only [Array.getElem?_modify]
  by_cases hg : g = g'
  · subst hg
    simp only [if_true]
    cases hw : w.heap[g]? with
    | none => simp
    | some ob => cases ob <;> simp
  · simp only [hg, if_false]
end alloc

theorem World.row_setRange (w : World) (g o : Nat) (vs : Array Value) (g' : Nat) (h : w.thaw g = true) : (w.setRange g o vs).row g' = if g' = g then splice (w.row g) o vs else w.row g' := by
  unfold World.thaw at h
  unfold World.row World.setRange
  simp only [Array.getElem?_modify]
  by_cases hg : g = g'
  · subst hg
    rw [if_pos rfl, if_pos rfl]
    split at h
    · rename_i c e f hb; simp [hb]
    · cases h
  · rw [if_neg hg, if_neg (Ne.symm hg)]
section range
variable (w : World) (g o : Nat) (vs : Array Value) (g' : Nat)
theorem World.row_setRange_same (h : w.thaw g = true) : (w.setRange g o vs).row g = splice (w.row g) o vs := by
  unfold World.thaw at h
  unfold World.row World.setRange
  simp only [Array.getElem?_modify, if_true]
  split at h
  · rename_i c e f hb; simp [hb]
  · cases h
theorem World.row_setRange_other (h : g' ≠ g) : (w.setRange g o vs).row g' = w.row g' := by
  unfold World.row World.setRange
  simp only [Array.getElem?_modify, if_neg (Ne.symm h)]
theorem World.thaw_setRange : (w.setRange g o vs).thaw g' = w.thaw g' := by
  unfold World.thaw World.setRange
  simp only [Array.getElem?_modify]
  by_cases hg : g = g'
  · subst hg
    simp only [if_true]
    cases hw : w.heap[g]? with
    | none => simp
    | some ob => cases ob <;> simp
  · simp only [hg, if_false]
theorem World.size_setRange : (w.setRange g o vs).heap.size = w.heap.size := by simp [World.setRange]
end range

theorem splice_size (c : Array Value) (o : Nat) (vs : Array Value) (h : o + vs.size ≤ c.size) : (splice c o vs).size = c.size := by
  simp [splice]; omega
theorem splice_get (c : Array Value) (o : Nat) (vs : Array Value) (h : o + vs.size ≤ c.size) (i : Nat) : (splice c o vs)[i]? = if i < o then c[i]? else if i < o + vs.size then vs[i - o]? else c[i]? := by
  unfold splice
  have h1 : (c.extract 0 o).size = o := by simp; omega
  rw [Array.getElem?_append, Array.getElem?_append]
  simp only [Array.size_append, h1]
  by_cases hi : i < o
  · simp only [hi, if_true]
    rw [if_pos (by omega)]
    rw [Array.getElem?_extract, if_pos (by omega), Nat.zero_add]
  · simp only [hi, if_false]
    by_cases hi2 : i < o + vs.size
    · simp only [hi2, if_true]
    · simp only [hi2, if_false, Array.getElem?_extract]
      have e : o + vs.size + (i - (o + vs.size)) = i := by omega
      rw [e]
      split
      · rfl
      · rw [Array.getElem?_eq_none (by omega)]
theorem splice_all (c vs : Array Value) (h : vs.size = c.size) : splice c 0 vs = vs := by
  apply Array.ext_getElem?
  intro i
  rw [splice_get c 0 vs (by omega) i]
  simp only [Nat.not_lt_zero, if_false, Nat.zero_add, Nat.sub_zero]
  split
  · rfl
  · rw [Array.getElem?_eq_none (by omega), Array.getElem?_eq_none (by omega)]
theorem splice_empty (c : Array Value) (o : Nat) (h : o ≤ c.size) : splice c o #[] = c := by
  apply Array.ext_getElem?
  intro i
  rw [splice_get c o #[] (by simpa using h) i]
  split
  · rfl
  · rw [if_neg (by simp; omega)]
theorem splice_cons (c : Array Value) (o : Nat) (v : Value) (r : List Value) (h : o + (v :: r).length ≤ c.size) : splice (c.setIfInBounds o v) (o + 1) r.toArray = splice c o (v :: r).toArray := by
  simp only [List.length_cons] at h
  apply Array.ext_getElem?
  intro i
  rw [splice_get _ _ _ (by simp; omega), splice_get _ _ _ (by simp; omega), Array.getElem?_setIfInBounds]
  simp only [List.size_toArray, List.length_cons]
  by_cases h1 : i < o
  · rw [if_pos (by omega), if_neg (by omega), if_pos h1]
  · by_cases h2 : i = o
    · subst h2; rw [if_pos (by omega), if_pos rfl, if_pos (by omega), if_neg (by omega), if_pos (by omega)]; simp
    · rw [if_neg (by omega), if_neg h1]
      by_cases h3 : i < o + 1 + r.length
      · rw [if_pos h3, if_pos (by omega)]
        obtain ⟨k, hk⟩ : ∃ k, i - o = k + 1 := ⟨i - o - 1, by omega⟩
        have : i - (o + 1) = k := by omega
        rw [hk, this]; simp
      · rw [if_neg h3, if_neg (by omega), if_neg (by omega)]

theorem World.setCells_eq (g : Nat) : ∀ (vs : List Value) (o : Nat) (w : World), w.thaw g = true → o + vs.length ≤ (w.row g).size → w.setCells g o vs = w.setRange g o vs.toArray
  | [], o, w, ht, h => by
    unfold World.setCells World.setRange
    have : w.heap = w.heap.modify g (fun | .cells c e f => .cells (splice c o #[]) e f | ob => ob) := by
      apply Array.ext_getElem?
      intro i
      rw [Array.getElem?_modify]
      by_cases hi : g = i
      · subst hi
        rw [if_pos rfl]
        unfold World.row at h
        cases hw : w.heap[g]? with
        | none => rfl
        | some ob =>
          cases ob with
          | cells c e f => simp only [hw] at h; simp only [Option.map_some]; rw [splice_empty c o (by simpa using h)]
          | _ => rfl
      · rw [if_neg hi]
    exact congrArg (fun h => { w with heap := h }) this
  | v :: r, o, w, ht, h => by
    rw [World.setCells, World.setCells_eq g r (o + 1) (w.setCell ⟨g, o, none⟩ v) (by rw [World.thaw_setCell]; exact ht) (by rw [World.row_setCell, if_pos rfl]; simp at h ⊢; omega)]
    unfold World.setRange World.setCell
    congr 1
    apply Array.ext_getElem?
    intro i
    simp only [Array.getElem?_modify]
    by_cases hi : g = i
    · subst hi
      simp only [if_true]
      unfold World.row at h
      cases hw : w.heap[g]? with
      | none => rfl
      | some ob =>
        cases ob with
        | cells c e f =>
          simp only [hw] at h
          simp only [Option.map_some, Option.isSome_none, Bool.false_eq_true, if_false]
          rw [splice_cons c o v r h]
        | _ => rfl
    · simp only [hi, if_false]

theorem World.rangeAt_row (w : World) (g o n : Nat) : w.rangeAt g o ((w.row g).extract o (o + n)).toList := fun j v hv => by
  rw [World.cell?_row]
  simp only [Array.getElem?_toList, Array.getElem?_extract] at hv
  split at hv
  · exact hv
  · cases hv
theorem World.there_row {w : World} {g o n : Nat} (ht : w.thaw g = true) (h : o + n ≤ (w.row g).size) : w.there g o n := fun j hj =>
  ⟨by rw [World.cell?_row]; simp; omega, World.frozen?_thaw ht _⟩

section laws
variable {P : Program}
theorem run_loadVar_range (w : World) (g o n : Nat) (ty : TypeId) (d : TypeDesc) (hu : P.underlying ty = some d) (hd : d.isRow = true) (hi : (P.info? ty).map (·.size) = some n) (h : o + n ≤ (w.row g).size) :
    (loadVar ty ⟨g, o, none⟩).run P w = .ok (.agg ((w.row g).extract o (o + n))) w := by
  have := run_loadVar_mid (P := P) w g o ty _ d (w.rangeAt_row g o n) hu hd (by rw [hi]; simp; omega)
  rwa [Array.toArray_toList] at this
theorem run_loadAt_range (w : World) (g o n : Nat) (ty : TypeId) (d : TypeDesc) (hu : P.underlying ty = some d) (hd : d.isRow = true) (hi : (P.info? ty).map (·.size) = some n) (h : o + n ≤ (w.row g).size) :
    (Instr.loadAt ty (.pointer (some ⟨g, o, none⟩))).run P w = .ok (.agg ((w.row g).extract o (o + n))) w := by
  simp only [Instr.loadAt, Instr.sureAddr, Sem.run_bind, Sem.run_pure, Result.andThen_ok, run_loadVar_range w g o n ty d hu hd hi h]
theorem run_storeAt_range (w : World) (g o n : Nat) (ty : TypeId) (cs : Array Value) (hi : (P.info? ty).map (·.size) = some n) (hn : cs.size = n) (ht : w.thaw g = true) (h : o + n ≤ (w.row g).size) (h1 : cs.all (·.oneCell') = true) :
    (Instr.storeAt ty (.pointer (some ⟨g, o, none⟩)) (.agg cs)).run P w = .ok () (w.setRange g o cs) := by
  subst hn
  rw [run_storeAt_mid w g o ty cs (World.there_row ht h) hi h1, World.setCells_eq g _ _ _ ht (by simpa using h)]
theorem run_alloc_zero (w : World) (ty : TypeId) (z : Value) (hz : (P.info? ty).bind (·.zero) = some z) :
    (Instr.alloc ty true (.tuple #[])).run P w = .ok (.pointer (some ⟨w.heap.size, 0, none⟩)) (w.alloc (.cells z.cells ty)) := by
  cases hq : P.info? ty with
  | none => simp [hq] at hz
  | some i =>
    have hz' : i.zero = some z := by simpa [hq] using hz
    simp [Instr.alloc, zeroValue, typeInfo, hq, hz', newVar, newRow, newObj]
    rfl
theorem run_alloc_agg (w : World) (ty : TypeId) (c : Array Value) (hz : (P.info? ty).bind (·.zero) = some (.agg c)) :
    (Instr.alloc ty true (.tuple #[])).run P w = .ok (.pointer (some ⟨w.heap.size, 0, none⟩)) (w.alloc (.cells c ty)) := run_alloc_zero w ty (.agg c) hz

theorem extract_whole {c : Array Value} {n : Nat} (h : c.size = n) : c.extract 0 n = c := by subst h; simp
theorem wpList_load_big {ops : Array Oper} {rest : List Oper} {op : Oper} {a : Act} {w : World} {Q : Exit → Act → World → Prop} (ty n : Nat) (d : TypeDesc) (hu : P.underlying ty = some d) (hd : d.isRow = true) (hi : (P.info? ty).map (·.size) = some n)
    (x : Operand) (ho : op.op = .load ty x) (hgd : op.guard = none) (g o : Nat) (hx : a.eval x = .pointer (some ⟨g, o, none⟩)) (hb : o + n ≤ (w.row g).size)
    (h : ∀ v, v = Value.agg ((w.row g).extract o (o + n)) → wpList P ops Q rest (a.put op.dst v) w) : wpList P ops Q (op :: rest) a w :=
  wpList_plain hgd fun _ hK => by
    unfold Oper.wp execOp
    simp only [ho, hx, run_loadAt_range w g o n ty d hu hd hi hb, Sem.run_bind, Sem.run_pure, Result.andThen_ok]
    exact hK _ _ (h _ rfl)
theorem wpList_load_big_g {ops : Array Oper} {rest : List Oper} {op : Oper} {a : Act} {w : World} {Q : Exit → Act → World → Prop} (ty n : Nat) (d : TypeDesc) (hu : P.underlying ty = some d) (hd : d.isRow = true) (hi : (P.info? ty).map (·.size) = some n)
    (x : Operand) (ho : op.op = .load ty x) (hw : Region.wanted op (yielded ops a.tmps) = true) (g o : Nat) (hx : a.eval x = .pointer (some ⟨g, o, none⟩)) (hb : o + n ≤ (w.row g).size)
    (h : ∀ v, v = Value.agg ((w.row g).extract o (o + n)) → wpList P ops Q rest (a.put op.dst v) w) : wpList P ops Q (op :: rest) a w :=
  wpList_step fun _ hK => by
    rw [if_pos hw]
    unfold Oper.wp execOp
    simp only [ho, hx, run_loadAt_range w g o n ty d hu hd hi hb, Sem.run_bind, Sem.run_pure, Result.andThen_ok]
    exact hK _ _ (h _ rfl)
theorem wpList_build_zero_g {ops : Array Oper} {rest : List Oper} {op : Oper} {a : Act} {w : World} {Q : Exit → Act → World → Prop} (ty : Nat) (v : Value) (hr : ∀ w, (Instr.build ty #[]).run P w = .ok v w) (ho : op.op = .build ty #[])
    (hw : Region.wanted op (yielded ops a.tmps) = true) (h : wpList P ops Q rest (a.put op.dst v) w) : wpList P ops Q (op :: rest) a w :=
  wpList_step fun _ hK => by
    rw [if_pos hw]
    unfold Oper.wp execOp
    have hr' : (Instr.build ty ((#[] : Array (Nat × Operand)).map fun (i, x) => (i, a.eval x))).run P w = .ok v w := by simpa using hr w
    simp only [ho, hr', Sem.run_bind, Sem.run_pure, Result.andThen_ok]
    exact hK _ _ h
theorem wpList_store_big {ops : Array Oper} {rest : List Oper} {op : Oper} {a : Act} {w : World} {Q : Exit → Act → World → Prop} (ty n : Nat) (hi : (P.info? ty).map (·.size) = some n)
    (x y : Operand) (ho : op.op = .store ty x y) (hgd : op.guard = none) (g o : Nat) (cs : Array Value) (hx : a.eval x = .pointer (some ⟨g, o, none⟩)) (hy : a.eval y = .agg cs) (hn : cs.size = n) (h1 : cs.all (·.oneCell') = true)
    (ht : w.thaw g = true) (hb : o + n ≤ (w.row g).size) (h : wpList P ops Q rest (a.put op.dst undef) (w.setRange g o cs)) : wpList P ops Q (op :: rest) a w :=
  wpList_plain hgd fun _ hK => by
    unfold Oper.wp execOp
    simp only [ho, hx, hy, run_storeAt_range w g o n ty cs hi hn ht hb h1, Sem.run_bind, Sem.run_pure, Result.andThen_ok]
    exact hK _ _ h
theorem wpList_alloc_big {ops : Array Oper} {rest : List Oper} {op : Oper} {a : Act} {w : World} {Q : Exit → Act → World → Prop} (ty : Nat) (c : Array Value) (hz : (P.info? ty).bind (·.zero) = some (.agg c))
    (ho : op.op = .alloc ty) (hgd : op.guard = none) (h : wpList P ops Q rest (a.put op.dst (.pointer (some ⟨w.heap.size, 0, none⟩))) (w.alloc (.cells c ty))) : wpList P ops Q (op :: rest) a w :=
  wpList_plain hgd fun _ hK => by
    unfold Oper.wp execOp
    simp only [ho, run_alloc_agg w ty c hz, Sem.run_bind, Sem.run_pure, Result.andThen_ok]
    exact hK _ _ h
theorem wpList_build_eq {ops : Array Oper} {rest : List Oper} {op : Oper} {a : Act} {w : World} {Q : Exit → Act → World → Prop} (ty : Nat) (parts : Array (Nat × Operand)) (v : Value) (ho : op.op = .build ty parts)
    (hr : (Instr.build ty (parts.map fun (i, x) => (i, a.eval x))).run P w = .ok v w) (hgd : op.guard = none) (h : wpList P ops Q rest (a.put op.dst v) w) : wpList P ops Q (op :: rest) a w :=
  wpList_plain hgd fun _ hK => by
    unfold Oper.wp execOp
    simp only [ho, hr, Sem.run_bind, Sem.run_pure, Result.andThen_ok]
    exact hK _ _ h
theorem wpList_build_zero {ops : Array Oper} {rest : List Oper} {op : Oper} {a : Act} {w : World} {Q : Exit → Act → World → Prop} (ty : Nat) (v : Value) (hr : ∀ w, (Instr.build ty #[]).run P w = .ok v w) (ho : op.op = .build ty #[])
    (hgd : op.guard = none) (h : wpList P ops Q rest (a.put op.dst v) w) : wpList P ops Q (op :: rest) a w :=
  wpList_build_eq ty #[] v ho (by simpa using hr w) hgd h
theorem World.setRange_alloc (w : World) (c vs : Array Value) (t : TypeId) (h : vs.size = c.size) : (w.alloc (.cells c t)).setRange w.heap.size 0 vs = w.alloc (.cells vs t) := by
  unfold World.setRange World.alloc
  congr 1
  apply Array.ext_getElem?
  intro i
  rw [Array.getElem?_modify, Array.getElem?_push, Array.getElem?_push]
  by_cases hi : w.heap.size = i
  · subst hi; simp [splice_all c vs h]
  · rw [if_neg hi, if_neg (Ne.symm hi), if_neg (Ne.symm hi)]
theorem World.setRange_alloc' (w : World) (c vs : Array Value) (t : TypeId) (g : Nat) (hg : g = w.heap.size) (h : vs.size = c.size) : (w.alloc (.cells c t)).setRange g 0 vs = w.alloc (.cells vs t) := by
  subst hg; exact World.setRange_alloc w c vs t h
theorem World.cell?_setRange_other (w : World) (g k : Nat) (vs : Array Value) (b o : Nat) (h : b ≠ g) : (w.setRange g k vs).cell? ⟨b, o, none⟩ = w.cell? ⟨b, o, none⟩ := by
  rw [World.cell?_row, World.cell?_row, World.row_setRange_other w g k vs b h]
theorem World.setRange_below (w : World) (o : Obj) (g k : Nat) (vs : Array Value) (h : g < w.heap.size) : (w.alloc o).setRange g k vs = (w.setRange g k vs).alloc o := by
  unfold World.setRange World.alloc
  congr 1
  apply Array.ext_getElem?
  intro i
  rw [Array.getElem?_modify, Array.getElem?_push, Array.getElem?_push, Array.getElem?_modify, Array.size_modify]
  by_cases hi : g = i
  · subst hi; rw [if_pos rfl, if_neg (by omega), if_neg (by omega), if_pos rfl]
  · rw [if_neg hi, if_neg hi]
theorem World.setRange_drewN (w : World) (g k n : Nat) (vs : Array Value) : (w.drewN n).setRange g k vs = (w.setRange g k vs).drewN n := rfl
theorem World.setRange_drew (w : World) (g k : Nat) (vs : Array Value) : w.drew.setRange g k vs = (w.setRange g k vs).drew := rfl
end laws

/-! ### What a call leaves as it was -/
/-- everything that was there is as it was; blocks may have come -/
def Ext (a w : World) : Prop := RowKit.Below a.heap.size a w
namespace Ext
variable {a w w' : World}
theorem refl (a : World) : Ext a a := RowKit.Below.refl _ _
theorem lt (h : Ext a w) : a.heap.size ≤ w.heap.size := RowKit.Below.size h
theorem trans (h : Ext a w) (k : Ext w w') : Ext a w' := RowKit.Below.trans h (RowKit.Below.mono k h.lt)
theorem drew (h : Ext a w) : Ext a w.drew := RowKit.Below.drew h
theorem drewN (h : Ext a w) (n : Nat) : Ext a (w.drewN n) := ⟨h.os, h.tape, h.output, h.size, h.block⟩
theorem alloc (h : Ext a w) (o : Obj) : Ext a (w.alloc o) := RowKit.Below.alloc h h.lt o
theorem setCell (h : Ext a w) {p : Addr} (hp : a.heap.size ≤ p.block) (u : Value) : Ext a (w.setCell p u) := RowKit.Below.setCell h hp u
theorem setRange (h : Ext a w) {g : Nat} (hp : a.heap.size ≤ g) (o : Nat) (vs : Array Value) : Ext a (w.setRange g o vs) :=
  ⟨h.os, h.tape, h.output, by rw [World.size_setRange]; exact h.size, fun k hk => by
    unfold World.setRange
    simp only [Array.getElem?_modify]
    rw [if_neg (by omega)]
    exact h.block k hk⟩
theorem row (h : Ext a w) {g : Nat} (hg : g < a.heap.size) : w.row g = a.row g := by unfold World.row; rw [RowKit.Below.block h g hg]
theorem thaw (h : Ext a w) {g : Nat} (hg : g < a.heap.size) : w.thaw g = a.thaw g := by unfold World.thaw; rw [RowKit.Below.block h g hg]
theorem cell (h : Ext a w) {p : Addr} (hp : p.block < a.heap.size) : w.cell? p = a.cell? p := RowKit.Below.cell h hp
theorem frozen (h : Ext a w) {p : Addr} (hp : p.block < a.heap.size) : w.frozen? p = a.frozen? p := RowKit.Below.frozen h hp
theorem cell_some (h : Ext a w) {p : Addr} {v : Value} (hc : a.cell? p = some v) : w.cell? p = some v := (h.cell (World.block_lt_of_cell? _ _ hc)).trans hc
end Ext
/-- a call comes back with a value, and has turned nothing that was there -/
def Ret (v : Value) (w : World) : Ending → World → Prop := fun e w' => e = .returned v ∧ Ext w w'
/-- a call comes back with a value, and the world is the very one -/
def Same (v : Value) (w : World) : Ending → World → Prop := fun e w' => e = .returned v ∧ w = w'

section ends
variable {P : Program} {fn : Func} {R : Ending → World → Prop} {a : Act} {w : World}
theorem bodyPost_ret_cell {p ty n g : Nat} (h : fn.results = #[.cell p ty]) (d : TypeDesc) (hu : P.underlying ty = some d) (hd : d.isRow = true) (hi : (P.info? ty).map (·.size) = some n)
    (hp : a.tmps.getD p undef = .pointer (some ⟨g, 0, none⟩)) (hb : 0 + n ≤ (w.row g).size) (hdf : a.defers = []) (hR : ∀ v, v = Value.agg ((w.row g).extract 0 (0 + n)) → R (.returned v) w) : bodyPost P fn R .ret a w :=
  bodyPost_ret (v := .agg ((w.row g).extract 0 (0 + n))) (by
    have hp' : a.tmps[p]?.getD undef = .pointer (some ⟨g, 0, none⟩) := by simpa using hp
    simp [results, h, hp', asAddr, run_loadVar_range w g 0 n ty d hu hd hi hb]) hdf (hR _ rfl)
theorem bodyPost_ret_cell_tmp {p ty n g u : Nat} (h : fn.results = #[.cell p ty, .tmp u]) (d : TypeDesc) (hu : P.underlying ty = some d) (hd : d.isRow = true) (hi : (P.info? ty).map (·.size) = some n)
    (hp : a.tmps.getD p undef = .pointer (some ⟨g, 0, none⟩)) (hb : 0 + n ≤ (w.row g).size) (hdf : a.defers = []) (hR : ∀ v, v = Value.agg ((w.row g).extract 0 (0 + n)) → R (.returned (.tuple #[v, a.tmps.getD u undef])) w) : bodyPost P fn R .ret a w :=
  bodyPost_ret (v := .tuple #[.agg ((w.row g).extract 0 (0 + n)), a.tmps.getD u undef]) (by
    have hp' : a.tmps[p]?.getD undef = .pointer (some ⟨g, 0, none⟩) := by simpa using hp
    simp [results, h, hp', asAddr, run_loadVar_range w g 0 n ty d hu hd hi hb]) hdf (hR _ rfl)
end ends
end Go
