/- Plain facts on keys of 256 bits: bits, the first bit in which two keys differ, the order. -/
namespace Rc
abbrev Bs := List UInt8
abbrev K := Vector UInt8 32

def bit (k : K) (d : Nat) : Bool := (k.toList.getD (d / 8) 0).toNat.testBit (7 - d % 8)

theorem bit_mk (k : K) (i j : Nat) (hi : i < 32) (hj : j < 8) : bit k (8 * i + (7 - j)) = (k[i]).toNat.testBit j := by
  unfold bit
  have h1 : (8 * i + (7 - j)) / 8 = i := by omega
  have h2 : 7 - (8 * i + (7 - j)) % 8 = j := by omega
  rw [h1, h2]
  congr 2
  simp [List.getD_eq_getElem?_getD, hi]

theorem bit_ext {a b : K} (h : ∀ d, d < 256 → bit a d = bit b d) : a = b := by
  apply Vector.ext
  intro i hi
  apply UInt8.toNat_inj.1
  apply Nat.eq_of_testBit_eq
  intro j
  by_cases hj : j < 8
  · have := h (8 * i + (7 - j)) (by omega)
    rwa [bit_mk _ _ _ hi hj, bit_mk _ _ _ hi hj] at this
  · have h8 : (2:Nat)^8 ≤ 2^j := Nat.pow_le_pow_right (by omega) (by omega)
    rw [Nat.testBit_lt_two_pow (Nat.lt_of_lt_of_le (UInt8.toNat_lt _) h8), Nat.testBit_lt_two_pow (Nat.lt_of_lt_of_le (UInt8.toNat_lt _) h8)]

def agree (d : Nat) (a b : K) : Prop := ∀ e, e < d → bit a e = bit b e

theorem agree.refl (d : Nat) (a : K) : agree d a a := fun _ _ => rfl
theorem agree.symm {d : Nat} {a b : K} (h : agree d a b) : agree d b a := fun e he => (h e he).symm
theorem agree.trans {d : Nat} {a b c : K} (h : agree d a b) (k : agree d b c) : agree d a c := fun e he => (h e he).trans (k e he)
theorem agree.mono {d d' : Nat} {a b : K} (h : agree d a b) (hd : d' ≤ d) : agree d' a b := fun e he => h e (by omega)
theorem agree.zero (a b : K) : agree 0 a b := fun e he => by omega
theorem agree.succ {d : Nat} {a b : K} (h : agree d a b) (hb : bit a d = bit b d) : agree (d + 1) a b := fun e he => by
  by_cases h' : e = d
  · subst h'; exact hb
  · exact h e (by omega)
theorem agree.full {a b : K} (h : agree 256 a b) : a = b := bit_ext h

/-- the first place, from d on, where two keys differ, n places being looked at -/
def firstDiff (a b : K) : Nat → Nat → Nat
  | d, 0 => d
  | d, n + 1 => if bit a d = bit b d then firstDiff a b (d + 1) n else d

theorem firstDiff_spec (a b : K) : ∀ n d, agree d a b → d ≤ firstDiff a b d n ∧ firstDiff a b d n ≤ d + n ∧ agree (firstDiff a b d n) a b ∧ (firstDiff a b d n < d + n → bit a (firstDiff a b d n) ≠ bit b (firstDiff a b d n))
  | 0, d, h => by simp [firstDiff, h]
  | n + 1, d, h => by
    unfold firstDiff
    split
    · rename_i hb
      have := firstDiff_spec a b n (d + 1) (h.succ hb)
      refine ⟨by omega, by omega, this.2.2.1, fun hlt => this.2.2.2 (by omega)⟩
    · rename_i hb
      exact ⟨by omega, by omega, h, fun _ => hb⟩

def common (a b : K) : Nat := firstDiff a b 0 256

theorem common_le (a b : K) : common a b ≤ 256 := by have := (firstDiff_spec a b 256 0 (agree.zero a b)).2.1; unfold common; omega
theorem common_agree (a b : K) : agree (common a b) a b := (firstDiff_spec a b 256 0 (agree.zero a b)).2.2.1
theorem common_ne {a b : K} (h : common a b < 256) : bit a (common a b) ≠ bit b (common a b) := (firstDiff_spec a b 256 0 (agree.zero a b)).2.2.2 (by unfold common at h; omega)
theorem common_eq {a b : K} {c : Nat} (h : agree c a b) (hne : bit a c ≠ bit b c) (hc : c < 256) : common a b = c := by
  rcases Nat.lt_trichotomy (common a b) c with h1 | h1 | h1
  · exact absurd (h _ h1) (common_ne (by omega))
  · exact h1
  · exact absurd (common_agree a b c h1) hne
theorem common_self (a : K) : common a a = 256 := by
  have := common_le a a
  rcases Nat.lt_or_ge (common a a) 256 with h | h
  · exact absurd rfl (common_ne h)
  · omega
theorem common_lt {a b : K} (h : a ≠ b) : common a b < 256 := by
  have := common_le a b
  rcases Nat.lt_or_ge (common a b) 256 with h1 | h1
  · exact h1
  · have : common a b = 256 := by omega
    exact absurd (agree.full (this ▸ common_agree a b)) h
theorem common_eq_256 {a b : K} (h : common a b = 256) : a = b := agree.full (h ▸ common_agree a b)
theorem le_common {a b : K} {d : Nat} (h : agree d a b) (hd : d ≤ 256) : d ≤ common a b := by
  rcases Nat.lt_or_ge (common a b) d with h1 | h1
  · exact absurd (h _ h1) (common_ne (by omega))
  · exact h1
theorem agree_iff {a b : K} {d : Nat} (hd : d ≤ 256) : agree d a b ↔ d ≤ common a b :=
  ⟨fun h => le_common h hd, fun h => (common_agree a b).mono h⟩
theorem common_comm (a b : K) : common a b = common b a := by
  by_cases h : a = b
  · subst h; rfl
  · exact (common_eq (common_agree a b).symm (Ne.symm (common_ne (common_lt h))) (common_lt h)).symm

/-- a stands ahead of b -/
def ltK (a b : K) : Prop := common a b < 256 ∧ bit a (common a b) = false
instance (a b : K) : Decidable (ltK a b) := by unfold ltK; infer_instance

theorem ltK_of {a b : K} {c : Nat} (h : agree c a b) (hc : c < 256) (ha : bit a c = false) (hb : bit b c = true) : ltK a b := by
  have : common a b = c := common_eq h (by simp [ha, hb]) hc
  exact ⟨by omega, by rw [this]; exact ha⟩
theorem ltK.bits {a b : K} (h : ltK a b) : ∃ c, c < 256 ∧ agree c a b ∧ bit a c = false ∧ bit b c = true :=
  ⟨_, h.1, common_agree a b, h.2, by have := common_ne h.1; rw [h.2] at this; cases hb : bit b (common a b) <;> simp_all⟩
theorem ltK_irrefl (a : K) : ¬ ltK a a := fun h => by have := h.1; rw [common_self] at this; omega
theorem ltK_trans {a b c : K} (h : ltK a b) (k : ltK b c) : ltK a c := by
  obtain ⟨x, hx, ag, ha, hb⟩ := h.bits
  obtain ⟨y, hy, ag', hb', hc⟩ := k.bits
  rcases Nat.lt_trichotomy x y with h1 | h1 | h1
  · exact ltK_of (ag.trans (ag'.mono (by omega))) hx ha (by rw [← ag' x h1]; exact hb)
  · subst h1; rw [hb] at hb'; cases hb'
  · exact ltK_of ((ag.mono (by omega)).trans ag') hy (by rw [ag y h1]; exact hb') hc
theorem ltK_asymm {a b : K} (h : ltK a b) : ¬ ltK b a := fun k => ltK_irrefl a (ltK_trans h k)
theorem ltK_total {a b : K} (h : a ≠ b) : ltK a b ∨ ltK b a := by
  have hl := common_lt h
  have hn := common_ne hl
  cases ha : bit a (common a b) with
  | false => exact .inl ⟨hl, ha⟩
  | true => exact .inr ⟨by rw [common_comm]; exact hl, by rw [common_comm]; cases hb : bit b (common a b) <;> simp_all⟩
theorem ltK.ne {a b : K} (h : ltK a b) : a ≠ b := fun e => by subst e; exact ltK_irrefl _ h

end Rc
namespace Rc

/-- a tree: its depth is where it stands -/
inductive Tr where
  | nil
  | leaf (k : K) (v : Bs)
  | node (l r : Tr)
  deriving DecidableEq, Inhabited

namespace Tr
def entries : Tr → List (K × Bs)
  | nil => []
  | leaf k v => [(k, v)]
  | node l r => l.entries ++ r.entries
def size : Tr → Nat
  | nil => 0
  | leaf _ _ => 1
  | node l r => l.size + r.size
theorem size_eq (t : Tr) : t.size = t.entries.length := by induction t <;> simp_all [size, entries]
def isNode : Tr → Bool
  | node _ _ => true
  | _ => false
def isLeaf : Tr → Bool
  | leaf _ _ => true
  | _ => false

/-- may both trees be the sides of a node? -/
def fit : Tr → Tr → Bool
  | nil, nil => false
  | nil, leaf _ _ => false
  | leaf _ _, nil => false
  | _, _ => true

/-- well formed at depth d, all keys having p's first d bits -/
def Wf : Nat → K → Tr → Prop
  | _, _, nil => True
  | d, p, leaf k v => agree d k p ∧ v.length ≤ 1024
  | d, p, node l r => d < 256 ∧ fit l r = true ∧ (∃ q, agree d q p ∧ bit q d = false ∧ Wf (d + 1) q l) ∧ (∃ q, agree d q p ∧ bit q d = true ∧ Wf (d + 1) q r)

theorem Wf.congr {t : Tr} : ∀ {d : Nat} {p q : K}, Wf d p t → agree d p q → Wf d q t := by
  induction t with
  | nil => intros; trivial
  | leaf k v => intro d p q h e; exact ⟨h.1.trans e, h.2⟩
  | node l r _ _ => 
    intro d p q ⟨h1, h2, ⟨a, ha, hb, hc⟩, ⟨b, hd, he, hf⟩⟩ e
    exact ⟨h1, h2, ⟨a, ha.trans e, hb, hc⟩, ⟨b, hd.trans e, he, hf⟩⟩

theorem Wf.keys {t : Tr} : ∀ {d : Nat} {p : K}, Wf d p t → ∀ x ∈ t.entries, agree d x.1 p ∧ x.2.length ≤ 1024 := by
  induction t with
  | nil => intro d p _ x hx; cases hx
  | leaf k v => intro d p h x hx; simp [entries] at hx; subst hx; exact h
  | node l r ihl ihr =>
    intro d p ⟨h1, h2, ⟨a, ha, hb, hc⟩, ⟨b, hd, he, hf⟩⟩ x hx
    simp only [entries, List.mem_append] at hx
    rcases hx with hx | hx
    · exact ⟨(((ihl hc x hx).1).mono (by omega)).trans ha, (ihl hc x hx).2⟩
    · exact ⟨(((ihr hf x hx).1).mono (by omega)).trans hd, (ihr hf x hx).2⟩
theorem Wf.left {d : Nat} {p : K} {l r : Tr} (h : Wf d p (node l r)) : ∀ x ∈ l.entries, bit x.1 d = false := by
  obtain ⟨h1, h2, ⟨a, ha, hb, hc⟩, _⟩ := h
  intro x hx
  rw [(hc.keys x hx).1 d (by omega)]; exact hb
theorem Wf.right {d : Nat} {p : K} {l r : Tr} (h : Wf d p (node l r)) : ∀ x ∈ r.entries, bit x.1 d = true := by
  obtain ⟨h1, h2, _, ⟨a, ha, hb, hc⟩⟩ := h
  intro x hx
  rw [(hc.keys x hx).1 d (by omega)]; exact hb

/-- the value that a tree has at a key, by its bits from d on -/
def get : Tr → Nat → K → Option Bs
  | nil, _, _ => none
  | leaf k' v, _, k => if k' = k then some v else none
  | node l r, d, k => if bit k d then r.get (d + 1) k else l.get (d + 1) k

/-- a list's value at a key -/
def look (l : List (K × Bs)) (k : K) : Option Bs := (l.find? (fun x => x.1 == k)).map (·.2)

theorem look_append (a b : List (K × Bs)) (k : K) : look (a ++ b) k = (look a k).or (look b k) := by
  simp only [look, List.find?_append]
  cases h : a.find? (fun x => x.1 == k) <;> simp
theorem look_none {l : List (K × Bs)} {k : K} (h : ∀ x ∈ l, x.1 ≠ k) : look l k = none := by
  simp only [look, Option.map_eq_none_iff, List.find?_eq_none]
  intro x hx; simpa using h x hx

theorem get_eq {t : Tr} : ∀ {d : Nat} {p : K} (k : K), Wf d p t → t.get d k = look t.entries k := by
  induction t with
  | nil => intros; rfl
  | leaf k' v => 
    intro d p k _
    by_cases h : k' = k <;> simp [get, look, entries, h]
  | node l r ihl ihr =>
    intro d p k h
    have hl := h.left
    have hr := h.right
    obtain ⟨h1, h2, ⟨a, ha, hb, hc⟩, ⟨b, hd, he, hf⟩⟩ := h
    simp only [get, entries, look_append]
    split
    · rename_i hk
      rw [ihr k hf, look_none (l := l.entries) (fun x hx e => by have := hl x hx; rw [e] at this; simp_all)]; rfl
    · rename_i hk
      rw [ihl k hc, look_none (l := r.entries) (fun x hx e => by have := hr x hx; rw [e] at this; simp_all)]
      simp

/-- rising keys -/
def Rising (l : List (K × Bs)) : Prop := l.Pairwise (fun a b => ltK a.1 b.1)

theorem Wf.rising {t : Tr} : ∀ {d : Nat} {p : K}, Wf d p t → Rising t.entries := by
  induction t with
  | nil => intros; exact List.Pairwise.nil
  | leaf k v => intros; exact List.pairwise_singleton _ _
  | node l r ihl ihr =>
    intro d p h
    have hl := h.left
    have hr := h.right
    have hk := h.keys
    obtain ⟨h1, h2, ⟨a, ha, hb, hc⟩, ⟨b, hd, he, hf⟩⟩ := h
    simp only [entries, Rising, List.pairwise_append]
    refine ⟨ihl hc, ihr hf, fun x hx y hy => ?_⟩
    exact ltK_of ((hk x (by simp [entries, hx])).1.trans (hk y (by simp [entries, hy])).1.symm) h1 (hl x hx) (hr y hy)

theorem size_zero {t : Tr} {d : Nat} {p : K} (h : Wf d p t) (h0 : t.size = 0) : t = nil := by
  induction t generalizing d p with
  | nil => rfl
  | leaf k v => simp [size] at h0
  | node l r ihl ihr =>
    obtain ⟨h1, h2, ⟨a, ha, hb, hc⟩, ⟨b, hd, he, hf⟩⟩ := h
    simp only [size] at h0
    have e1 := ihl hc (by omega)
    have e2 := ihr hf (by omega)
    subst e1; subst e2; simp [fit] at h2
theorem size_one {t : Tr} {d : Nat} {p : K} (h : Wf d p t) (h0 : t.size = 1) : ∃ k v, t = leaf k v := by
  induction t generalizing d p with
  | nil => simp [size] at h0
  | leaf k v => exact ⟨k, v, rfl⟩
  | node l r ihl ihr =>
    obtain ⟨h1, h2, ⟨a, ha, hb, hc⟩, ⟨b, hd, he, hf⟩⟩ := h
    simp only [size] at h0
    by_cases hl : l.size = 0
    · have e1 := size_zero hc hl
      obtain ⟨k, v, e2⟩ := ihr hf (by omega)
      subst e1; subst e2; simp [fit] at h2
    · have e2 := size_zero hf (by omega)
      obtain ⟨k, v, e1⟩ := ihl hc (by omega)
      subst e1; subst e2; simp [fit] at h2
theorem two_le {l r : Tr} {d : Nat} {p : K} (h : Wf d p (node l r)) : 2 ≤ (node l r).size := by
  rcases Nat.lt_or_ge (node l r).size 2 with h1 | h1
  · by_cases h0 : (node l r).size = 0
    · have := size_zero h h0; cases this
    · obtain ⟨k, v, e⟩ := size_one h (by omega); cases e
  · exact h1

theorem look_some_mem {l : List (K × Bs)} {k : K} {v : Bs} (h : look l k = some v) : (k, v) ∈ l := by
  simp only [look, Option.map_eq_some_iff] at h
  obtain ⟨x, hx, rfl⟩ := h
  have := List.find?_some hx
  have hm := List.mem_of_find?_eq_some hx
  have : x.1 = k := by simpa using this
  subst this; exact hm
theorem look_mem {l : List (K × Bs)} (hr : Rising l) {x : K × Bs} (h : x ∈ l) : look l x.1 = some x.2 := by
  induction l with
  | nil => cases h
  | cons y l ih =>
    simp only [Rising, List.pairwise_cons] at hr
    rcases List.mem_cons.1 h with rfl | h'
    · simp [look]
    · have hne : y.1 ≠ x.1 := (hr.1 x h').ne
      have := ih hr.2 h'
      simpa [look, List.find?_cons, hne] using this

/-- two rising lists with the same look are one -/
theorem rising_ext {a b : List (K × Bs)} (ha : Rising a) (hb : Rising b) (h : ∀ k, look a k = look b k) : a = b := by
  induction a generalizing b with
  | nil =>
    cases b with
    | nil => rfl
    | cons y b =>
      have := h y.1
      rw [look_mem hb (List.mem_cons_self)] at this
      simp [look] at this
  | cons x a ih =>
    cases b with
    | nil =>
      have := h x.1
      rw [look_mem ha (List.mem_cons_self)] at this
      simp [look] at this
    | cons y b =>
      have hx := look_some_mem (by rw [← h x.1]; exact look_mem ha (List.mem_cons_self))
      have hy := look_some_mem (by rw [h y.1]; exact look_mem hb (List.mem_cons_self))
      have hxy : x = y := by
        rcases List.mem_cons.1 hx with e | e
        · exact e
        · rcases List.mem_cons.1 hy with e' | e'
          · exact e'.symm
          · have h1 := (List.pairwise_cons.1 hb).1 _ e
            have h2 := (List.pairwise_cons.1 ha).1 _ e'
            exact absurd h1 (ltK_asymm h2)
      subst hxy
      congr 1
      apply ih (List.pairwise_cons.1 ha).2 (List.pairwise_cons.1 hb).2
      intro k
      by_cases hk : x.1 = k
      · subst hk
        rw [look_none (fun z hz e => absurd ((List.pairwise_cons.1 ha).1 z hz) (by rw [e]; exact ltK_irrefl _)),
          look_none (fun z hz e => absurd ((List.pairwise_cons.1 hb).1 z hz) (by rw [e]; exact ltK_irrefl _))]
      · have := h k
        simpa [look, List.find?_cons, hk] using this

theorem filter_left {d : Nat} {p : K} {l r : Tr} (h : Wf d p (node l r)) : (node l r).entries.filter (fun x => !bit x.1 d) = l.entries := by
  have hl := h.left
  have hr := h.right
  simp only [entries, List.filter_append]
  rw [List.filter_eq_self.2 (fun x hx => by simp [hl x hx]), List.filter_eq_nil_iff.2 (fun x hx => by simp [hr x hx])]
  simp
theorem filter_right {d : Nat} {p : K} {l r : Tr} (h : Wf d p (node l r)) : (node l r).entries.filter (fun x => bit x.1 d) = r.entries := by
  have hl := h.left
  have hr := h.right
  simp only [entries, List.filter_append]
  have e1 : l.entries.filter (fun x => bit x.1 d) = [] := List.filter_eq_nil_iff.2 (fun x hx => by simp [hl x hx])
  have e2 : r.entries.filter (fun x => bit x.1 d) = r.entries := List.filter_eq_self.2 (fun x hx => hr x hx)
  rw [e1, e2]; rfl

/-- THE TREE IS THE MAP's: well formed trees at one depth with the same entries are one -/
theorem unique {t : Tr} : ∀ {u : Tr} {d : Nat} {p q : K}, Wf d p t → Wf d q u → t.entries = u.entries → t = u := by
  induction t with
  | nil =>
    intro u d p q _ hu e
    exact (size_zero hu (by rw [size_eq, ← e]; rfl)).symm
  | leaf k v =>
    intro u d p q _ hu e
    obtain ⟨k', v', rfl⟩ := size_one hu (by rw [size_eq, ← e]; rfl)
    simp [entries] at e; simp [e]
  | node l r ihl ihr =>
    intro u d p q ht hu e
    have h2 := two_le ht
    cases u with
    | nil => rw [size_eq, e] at h2; simp [entries] at h2
    | leaf k v => rw [size_eq, e] at h2; simp [entries] at h2
    | node l' r' =>
      have e1 : l.entries = l'.entries := by rw [← filter_left ht, ← filter_left hu, e]
      have e2 : r.entries = r'.entries := by rw [← filter_right ht, ← filter_right hu, e]
      obtain ⟨_, _, ⟨a, ha, hb, hc⟩, ⟨b, hd, he, hf⟩⟩ := ht
      obtain ⟨_, _, ⟨a', ha', hb', hc'⟩, ⟨b', hd', he', hf'⟩⟩ := hu
      rw [ihl hc hc' e1, ihr hf hf' e2]
theorem unique_get {t u : Tr} {d : Nat} {p q : K} (ht : Wf d p t) (hu : Wf d q u) (h : ∀ k, t.get d k = u.get d k) : t = u :=
  unique ht hu (rising_ext ht.rising hu.rising (fun k => by rw [← get_eq k ht, ← get_eq k hu]; exact h k))

end Tr
end Rc
namespace Rc
namespace Tr
def join (d : Nat) (k : K) (own other : Tr) : Tr := if bit k d then node other own else node own other

/-- from depth c up by n levels, nothing on the other sides -/
def chain (k : K) (c : Nat) (t : Tr) : Nat → Tr
  | 0 => t
  | n + 1 => join (c - (n + 1)) k (chain k c t n) nil

def ins : Tr → Nat → K → Bs → Tr
  | nil, _, k, v => leaf k v
  | leaf k' v', d, k, v => if k' = k then leaf k v else chain k (common k k') (join (common k k') k (leaf k v) (leaf k' v')) (common k k' - d)
  | node l r, d, k, v => if bit k d then node l (r.ins (d + 1) k v) else node (l.ins (d + 1) k v) r

theorem get_join (d : Nat) (k : K) (own other : Tr) (k2 : K) :
    (join d k own other).get d k2 = if bit k2 d = bit k d then own.get (d + 1) k2 else other.get (d + 1) k2 := by
  unfold join
  cases h : bit k d <;> cases h2 : bit k2 d <;> simp [get, h2]

theorem fit_comm (l r : Tr) : fit l r = fit r l := by cases l <;> cases r <;> rfl

theorem Wf.join {d : Nat} {k : K} {own other : Tr} {q : K} (hd : d < 256) (hf : fit own other = true) (h1 : Wf (d + 1) k own) (hq : agree d q k) (hb : bit q d ≠ bit k d) (h2 : Wf (d + 1) q other) :
    Wf d k (join d k own other) := by
  unfold Tr.join
  cases hk : bit k d with
  | true => exact ⟨hd, by rw [fit_comm]; exact hf, ⟨q, hq, by cases h : bit q d <;> simp_all, h2⟩, ⟨k, agree.refl _ _, hk, h1⟩⟩
  | false => exact ⟨hd, hf, ⟨k, agree.refl _ _, hk, h1⟩, ⟨q, hq, by cases h : bit q d <;> simp_all, h2⟩⟩

/-- a key that has another bit at d, and is like k before it -/
def flipAt (k : K) (d : Nat) : K := k.set! (d / 8) (k.toList.getD (d / 8) 0 ^^^ (UInt8.ofNat (128 >>> (d % 8))))

theorem bit_flip (k : K) (d e : Nat) (hd : d < 256) (he : e < 256) : bit (flipAt k d) e = if e = d then !bit k e else bit k e := by
  have h8 : d / 8 < 32 := by omega
  have he8 : e / 8 < 32 := by omega
  unfold bit flipAt
  by_cases h : e / 8 = d / 8
  · rw [h]
    have hg : (k.set! (d / 8) (k.toList.getD (d / 8) 0 ^^^ (UInt8.ofNat (128 >>> (d % 8))))).toList.getD (d / 8) 0 = k.toList.getD (d / 8) 0 ^^^ (UInt8.ofNat (128 >>> (d % 8))) := by
      simp [List.getD_eq_getElem?_getD, h8]
    rw [hg, UInt8.toNat_xor, Nat.testBit_xor]
    have h3 : (UInt8.ofNat (128 >>> (d % 8))).toNat = 2 ^ (7 - d % 8) := by
      have : d % 8 < 8 := Nat.mod_lt _ (by omega)
      generalize d % 8 = m at this
      match m, this with
      | 0, _ => decide
      | 1, _ => decide
      | 2, _ => decide
      | 3, _ => decide
      | 4, _ => decide
      | 5, _ => decide
      | 6, _ => decide
      | 7, _ => decide
    rw [h3, Nat.testBit_two_pow]
    by_cases hed : e = d
    · subst hed; simp
    · have : ¬ (7 - d % 8 = 7 - e % 8) := by omega
      simp [this, hed]
  · have hne : e ≠ d := by intro e'; subst e'; exact h rfl
    rw [if_neg hne]
    congr 2
    simp [List.getD_eq_getElem?_getD, Ne.symm h]

theorem agree_flip (k : K) (d : Nat) (hd : d < 256) : agree d (flipAt k d) k := fun e he => by rw [bit_flip k d e hd (by omega), if_neg (by omega)]
theorem bit_flip_self (k : K) (d : Nat) (hd : d < 256) : bit (flipAt k d) d = !bit k d := by rw [bit_flip k d d hd hd, if_pos rfl]

theorem Wf.join_nil {d : Nat} {k : K} {own : Tr} (hd : d < 256) (hn : own.isNode = true) (h1 : Wf (d + 1) k own) : Wf d k (Tr.join d k own nil) :=
  Wf.join hd (by cases own <;> simp_all [isNode, fit]) h1 (agree_flip k d hd) (by rw [bit_flip_self k d hd]; simp) trivial

theorem isNode_join (d : Nat) (k : K) (a b : Tr) : (join d k a b).isNode = true := by unfold join; split <;> rfl

theorem Wf.chain {k : K} {c : Nat} {t : Tr} (hc : c ≤ 256) (hn : t.isNode = true) (h : Wf c k t) : ∀ n, n ≤ c → Wf (c - n) k (Tr.chain k c t n) ∧ (Tr.chain k c t n).isNode = true
  | 0, _ => ⟨h, hn⟩
  | n + 1, hle => by
    have ih := Wf.chain hc hn h n (by omega)
    have e : c - n = c - (n + 1) + 1 := by omega
    refine ⟨?_, isNode_join _ _ _ _⟩
    rw [e] at ih
    exact Wf.join_nil (by omega) ih.2 ih.1

open Classical in
theorem get_chain {k : K} {c : Nat} {t : Tr} (k2 : K) (hc : c ≤ 256) : ∀ n, n ≤ c → (Tr.chain k c t n).get (c - n) k2 = if (∀ e, c - n ≤ e → e < c → bit k2 e = bit k e) then t.get c k2 else none
  | 0, _ => by rw [if_pos (fun e h1 h2 => by omega)]; rfl
  | n + 1, hle => by
    have ih := get_chain (t := t) (k := k) k2 hc n (by omega)
    have e : c - n = c - (n + 1) + 1 := by omega
    rw [chain, get_join]
    by_cases hb : bit k2 (c - (n + 1)) = bit k (c - (n + 1))
    · rw [if_pos hb, ← e, ih]
      by_cases h : ∀ e, c - n ≤ e → e < c → bit k2 e = bit k e
      · rw [if_pos h, if_pos (c := ∀ e, c - (n + 1) ≤ e → e < c → bit k2 e = bit k e)]
        intro e h1 h2
        by_cases h' : e = c - (n + 1)
        · rw [h']; exact hb
        · exact h e (by omega) h2
      · rw [if_neg h, if_neg]
        intro h'; exact h (fun e h1 h2 => h' e (by omega) h2)
    · rw [if_neg hb, if_neg (fun h => hb (h _ (by omega) (by omega)))]
      rfl

theorem Wf.ins {t : Tr} : ∀ {d : Nat} {p k : K} {v : Bs}, Wf d p t → d ≤ 256 → agree d k p → v.length ≤ 1024 → Wf d k (t.ins d k v) := by
  induction t with
  | nil => intro d p k v _ _ _ hv; exact ⟨agree.refl _ _, hv⟩
  | leaf k' v' =>
    intro d p k v h hd ha hv
    unfold Tr.ins
    split
    · exact ⟨agree.refl _ _, hv⟩
    · rename_i hne
      have hlt := common_lt (a := k) (b := k') (fun e => hne e.symm)
      have hle : d ≤ common k k' := le_common (ha.trans h.1.symm) hd
      have hw : Wf (common k k') k (Tr.join (common k k') k (leaf k v) (leaf k' v')) :=
        Wf.join hlt rfl ⟨agree.refl _ _, hv⟩ (common_agree k k').symm (Ne.symm (common_ne hlt)) ⟨agree.refl _ _, h.2⟩
      have := (Wf.chain (common_le _ _) (isNode_join _ _ _ _) hw (common k k' - d) (by omega)).1
      rwa [show common k k' - (common k k' - d) = d by omega] at this
  | node l r ihl ihr =>
    intro d p k v h hd ha hv
    obtain ⟨h1, h2, ⟨a, haa, hb, hc⟩, ⟨b, hbb, he, hf⟩⟩ := h
    have nn : ∀ u : Tr, u.ins (d + 1) k v ≠ nil := by
      intro u; cases u with
      | nil => simp [Tr.ins]
      | leaf k2 v2 =>
        unfold Tr.ins
        split
        · simp
        · intro e
          have : (Tr.chain k (common k k2) (Tr.join (common k k2) k (leaf k v) (leaf k2 v2)) (common k k2 - (d + 1))).isNode = true := by
            cases common k k2 - (d + 1) with
            | zero => exact isNode_join _ _ _ _
            | succ n => exact isNode_join _ _ _ _
          rw [e] at this; cases this
      | node l r => unfold Tr.ins; split <;> simp
    have grow : ∀ (u w : Tr), u ≠ nil → (w = nil → u.isNode = true) → fit w u = true := by
      intro u w hu hw; cases w <;> cases u <;> simp_all [fit, isNode]
    have keep : ∀ (u : Tr), u.isNode = true → (u.ins (d + 1) k v).isNode = true := by
      intro u hu
      cases u with
      | nil => cases hu
      | leaf k v => cases hu
      | node l r => unfold Tr.ins; split <;> rfl
    unfold Tr.ins
    split
    · rename_i hk
      refine ⟨h1, grow _ _ (nn r) ?_, ⟨a, haa.trans ha.symm, hb, hc⟩, ⟨k, agree.refl _ _, hk, ihr hf (by omega) ?_ hv⟩⟩
      · intro e; subst e; apply keep; cases r <;> simp_all [fit, isNode]
      · exact (ha.trans hbb.symm).succ (by rw [he]; exact hk)
    · rename_i hk
      have hk : bit k d = false := by simpa using hk
      refine ⟨h1, (fit_comm _ _).trans (grow _ _ (nn l) ?_), ⟨k, agree.refl _ _, hk, ihl hc (by omega) ?_ hv⟩, ⟨b, hbb.trans ha.symm, he, hf⟩⟩
      · intro e; subst e; apply keep; cases l <;> simp_all [fit, isNode]
      · exact (ha.trans haa.symm).succ (by rw [hb]; exact hk)

theorem get_ins {t : Tr} : ∀ {d : Nat} {p k : K} {v : Bs} (k2 : K), Wf d p t → d ≤ 256 → agree d k p → (t.ins d k v).get d k2 = if k2 = k then some v else t.get d k2 := by
  induction t with
  | nil => intro d p k v k2 _ _ _; simp only [Tr.ins, get, eq_comm]
  | leaf k' v' =>
    intro d p k v k2 h hd ha
    unfold Tr.ins
    split
    · rename_i e; subst e
      simp only [get]
      by_cases h : k' = k2 <;> simp [h, eq_comm]
    · rename_i hne
      have hlt := common_lt (a := k) (b := k') (fun e => hne e.symm)
      have hle : d ≤ common k k' := le_common (ha.trans h.1.symm) hd
      have hg := get_chain (k := k) (c := common k k') (t := Tr.join (common k k') k (leaf k v) (leaf k' v')) k2 (common_le _ _) (common k k' - d) (by omega)
      rw [show common k k' - (common k k' - d) = d by omega] at hg
      rw [hg, get_join]
      have cn := common_ne hlt
      have ca := common_agree k k'
      generalize common k k' = c at *
      by_cases h1 : k2 = k
      · subst h1; simp [get]
      · rw [if_neg h1]
        simp only [get, if_neg (Ne.symm h1)]
        by_cases h2 : k' = k2
        · subst h2
          rw [if_pos (fun e _ he => (ca e he).symm), if_neg (Ne.symm cn), if_pos rfl]
        · simp [h2]
  | node l r ihl ihr =>
    intro d p k v k2 h hd ha
    obtain ⟨h1, h2, ⟨a, haa, hb, hc⟩, ⟨b, hbb, he, hf⟩⟩ := h
    unfold Tr.ins
    split
    · rename_i hk
      simp only [get]
      split
      · exact ihr k2 hf (by omega) ((ha.trans hbb.symm).succ (by rw [he]; exact hk))
      · rename_i h3
        rw [if_neg (fun e => by subst e; exact h3 hk)]
    · rename_i hk
      have hk : bit k d = false := by simpa using hk
      simp only [get]
      split
      · rename_i h3
        rw [if_neg (fun e => by subst e; simp_all)]
      · exact ihl k2 hc (by omega) ((ha.trans haa.symm).succ (by rw [hb]; exact hk))

/-- two sides made one tree: a lone leaf goes up -/
def mk : Tr → Tr → Tr
  | nil, nil => nil
  | nil, leaf k v => leaf k v
  | leaf k v, nil => leaf k v
  | l, r => node l r

def del : Tr → Nat → K → Tr
  | nil, _, _ => nil
  | leaf k' v', _, k => if k' = k then nil else leaf k' v'
  | node l r, d, k => if bit k d then mk l (r.del (d + 1) k) else mk (l.del (d + 1) k) r

theorem mk_of_fit {l r : Tr} (h : fit l r = true) : mk l r = node l r := by cases l <;> cases r <;> simp_all [fit, mk]

theorem Wf.mk {d : Nat} {p : K} {l r : Tr} (h1 : d < 256) (hl : ∃ q, agree d q p ∧ bit q d = false ∧ Wf (d + 1) q l) (hr : ∃ q, agree d q p ∧ bit q d = true ∧ Wf (d + 1) q r) : Wf d p (Tr.mk l r) := by
  by_cases hf : fit l r = true
  · rw [mk_of_fit hf]; exact ⟨h1, hf, hl, hr⟩
  · obtain ⟨a, ha, _, hw⟩ := hl
    obtain ⟨b, hb, _, hw'⟩ := hr
    cases l <;> cases r <;> simp_all [fit, Tr.mk, Wf]
    · exact (hw'.1.mono (by omega)).trans hb
    · exact (hw.1.mono (by omega)).trans ha

theorem get_mk {d : Nat} {p : K} {l r : Tr} (k : K) (hl : ∃ q, agree d q p ∧ bit q d = false ∧ Wf (d + 1) q l) (hr : ∃ q, agree d q p ∧ bit q d = true ∧ Wf (d + 1) q r) :
    (Tr.mk l r).get d k = if bit k d then r.get (d + 1) k else l.get (d + 1) k := by
  by_cases hf : fit l r = true
  · rw [mk_of_fit hf]; rfl
  · obtain ⟨a, ha, hab, hw⟩ := hl
    obtain ⟨b, hb, hbb, hw'⟩ := hr
    cases l <;> cases r <;> simp_all [fit, Tr.mk, get]
    · rename_i k' v'
      intro h1 h2; subst h2
      have := hw'.1 d (by omega); simp_all
    · rename_i k' v'
      intro h1 h2; subst h2
      have := hw.1 d (by omega); simp_all

theorem Wf.del {t : Tr} : ∀ {d : Nat} {p k : K}, Wf d p t → Wf d p (t.del d k) := by
  induction t with
  | nil => intros; trivial
  | leaf k' v' => intro d p k h; unfold Tr.del; split; trivial; exact h
  | node l r ihl ihr =>
    intro d p k h
    obtain ⟨h1, h2, ⟨a, haa, hb, hc⟩, ⟨b, hbb, he, hf⟩⟩ := h
    unfold Tr.del
    split
    · exact Wf.mk h1 ⟨a, haa, hb, hc⟩ ⟨b, hbb, he, ihr hf⟩
    · exact Wf.mk h1 ⟨a, haa, hb, ihl hc⟩ ⟨b, hbb, he, hf⟩

theorem get_del {t : Tr} : ∀ {d : Nat} {p k : K} (k2 : K), Wf d p t → (t.del d k).get d k2 = if k2 = k then none else t.get d k2 := by
  induction t with
  | nil => intros; simp [Tr.del, get]
  | leaf k' v' =>
    intro d p k k2 h; unfold Tr.del
    split
    · rename_i e; subst e; simp only [get, eq_comm]; split <;> rfl
    · rename_i e
      simp only [get]
      by_cases h : k2 = k <;> simp_all
  | node l r ihl ihr =>
    intro d p k k2 h
    obtain ⟨h1, h2, ⟨a, haa, hb, hc⟩, ⟨b, hbb, he, hf⟩⟩ := h
    unfold Tr.del
    split
    · rename_i hk
      rw [get_mk k2 ⟨a, haa, hb, hc⟩ ⟨b, hbb, he, Wf.del hf⟩, ihr k2 hf]
      simp only [get]
      by_cases hk2 : bit k2 d = true
      · simp [hk2]
      · have : k2 ≠ k := fun e => hk2 (by rw [e]; exact hk)
        simp [hk2, this]
    · rename_i hk
      rw [get_mk k2 ⟨a, haa, hb, Wf.del hc⟩ ⟨b, hbb, he, hf⟩, ihl k2 hc]
      simp only [get]
      by_cases hk2 : bit k2 d = true
      · have : k2 ≠ k := fun e => hk (by rw [← e]; exact hk2)
        simp [hk2, this]
      · simp [hk2]
end Tr
end Rc
namespace Rc
/-- a write: a key, and its new value, or that it is deleted -/
structure Wr where
  k : K
  gone : Bool
  v : Bs
  deriving DecidableEq, Inhabited

def over (o : Option Bs) : Option Wr → Option Bs
  | none => o
  | some w => if w.gone then none else some w.v

/-- the last write of a key -/
def lastOf (l : List Wr) (k : K) : Option Wr := l.reverse.find? (fun w => w.k == k)
def RisingW (l : List Wr) : Prop := l.Pairwise (fun a b => ltK a.k b.k)
def wlook (l : List Wr) (k : K) : Option Wr := l.find? (fun w => w.k == k)

theorem lastOf_nil (k : K) : lastOf [] k = none := rfl
theorem lastOf_snoc (l : List Wr) (w : Wr) (k : K) : lastOf (l ++ [w]) k = if w.k = k then some w else lastOf l k := by
  by_cases h : w.k = k <;> simp [lastOf, h]
theorem wlook_none {l : List Wr} {k : K} (h : ∀ x ∈ l, x.k ≠ k) : wlook l k = none := by
  simp only [wlook, List.find?_eq_none]; intro x hx; simpa using h x hx
theorem wlook_cons (w : Wr) (l : List Wr) (k : K) : wlook (w :: l) k = if w.k = k then some w else wlook l k := by
  by_cases h : w.k = k <;> simp [wlook, h]
theorem wlook_mem {l : List Wr} {k : K} {w : Wr} (h : wlook l k = some w) : w ∈ l ∧ w.k = k := by
  unfold wlook at h
  exact ⟨List.mem_of_find?_eq_some h, by simpa using List.find?_some h⟩
theorem wlook_of_mem {l : List Wr} (hr : RisingW l) {w : Wr} (h : w ∈ l) : wlook l w.k = some w := by
  induction l with
  | nil => cases h
  | cons y l ih =>
    simp only [RisingW, List.pairwise_cons] at hr
    rw [wlook_cons]
    rcases List.mem_cons.1 h with rfl | h'
    · simp
    · rw [if_neg (hr.1 w h').ne]; exact ih hr.2 h'
theorem lastOf_eq_wlook {l : List Wr} (hr : RisingW l) (k : K) : lastOf l k = wlook l k := by
  cases hw : wlook l k with
  | none =>
    simp only [wlook, List.find?_eq_none] at hw
    simp only [lastOf, List.find?_eq_none]
    intro x hx; exact hw x (by simpa using hx)
  | some w =>
    obtain ⟨hm, rfl⟩ := wlook_mem hw
    cases hl : lastOf l w.k with
    | none => simp only [lastOf, List.find?_eq_none] at hl; exact (hl w (by simpa using hm) (by simp)).elim
    | some w' =>
      have h1 := List.mem_of_find?_eq_some hl
      have h2 : w'.k = w.k := by simpa using List.find?_some hl
      have h3 := wlook_of_mem hr (w := w') (by simpa using h1)
      rw [h2, hw] at h3; exact h3.symm
theorem wlook_filter (l : List Wr) (p : Wr → Bool) (k : K) (hp : ∀ w ∈ l, w.k = k → p w = true) : wlook (l.filter p) k = wlook l k := by
  induction l with
  | nil => rfl
  | cons w l ih =>
    have ih := ih (fun x hx => hp x (List.mem_cons_of_mem _ hx))
    by_cases h : p w = true
    · rw [List.filter_cons_of_pos h, wlook_cons, wlook_cons, ih]
    · rw [List.filter_cons_of_neg h, wlook_cons, ih, if_neg (fun e => h (hp w (List.mem_cons_self) e))]

/-- a map with one entry more, or another value -/
def insK : List (K × Bs) → K → Bs → List (K × Bs)
  | [], k, v => [(k, v)]
  | x :: m, k, v => if x.1 = k then (k, v) :: m else if ltK k x.1 then (k, v) :: x :: m else x :: insK m k v
def delK (m : List (K × Bs)) (k : K) : List (K × Bs) := m.filter (fun x => x.1 != k)
def appK (m : List (K × Bs)) (w : Wr) : List (K × Bs) := if w.gone then delK m w.k else insK m w.k w.v
/-- a map overridden -/
def ovr (m : List (K × Bs)) (l : List Wr) : List (K × Bs) := l.foldl appK m

open Tr
theorem look_cons (x : K × Bs) (m : List (K × Bs)) (k : K) : look (x :: m) k = if x.1 = k then some x.2 else look m k := by
  by_cases h : x.1 = k <;> simp [look, h]
theorem look_insK (m : List (K × Bs)) (k : K) (v : Bs) (k2 : K) : look (insK m k v) k2 = if k2 = k then some v else look m k2 := by
  induction m with
  | nil => simp only [insK, look_cons, eq_comm]
  | cons x m ih =>
    unfold insK
    split
    · rename_i h
      simp only [look_cons, eq_comm (a := k2)]
      by_cases hk : k = k2
      · simp [hk]
      · simp [hk, h]
    · rename_i h
      split
      · simp only [look_cons, eq_comm (a := k2)]
      · simp only [look_cons, ih]
        by_cases hk : k2 = k
        · subst hk; simp [h]
        · simp [hk]
theorem mem_insK {m : List (K × Bs)} {k : K} {v : Bs} {x : K × Bs} (h : x ∈ insK m k v) : x = (k, v) ∨ x ∈ m := by
  induction m with
  | nil => simp [insK] at h; exact .inl h
  | cons y m ih =>
    unfold insK at h
    split at h
    · rcases List.mem_cons.1 h with h | h
      · exact .inl h
      · exact .inr (List.mem_cons_of_mem _ h)
    · split at h
      · rcases List.mem_cons.1 h with h | h
        · exact .inl h
        · exact .inr h
      · rcases List.mem_cons.1 h with h | h
        · exact .inr (by simp [h])
        · rcases ih h with h | h
          · exact .inl h
          · exact .inr (List.mem_cons_of_mem _ h)
theorem rising_insK {m : List (K × Bs)} (hr : Rising m) (k : K) (v : Bs) : Rising (insK m k v) := by
  induction m with
  | nil => exact List.pairwise_singleton _ _
  | cons y m ih =>
    have hr' := List.pairwise_cons.1 hr
    unfold insK
    split
    · rename_i h
      refine List.pairwise_cons.2 ⟨fun x hx => ?_, hr'.2⟩
      rw [← h]; exact hr'.1 x hx
    · rename_i h
      split
      · rename_i h2
        refine List.pairwise_cons.2 ⟨fun x hx => ?_, hr⟩
        rcases List.mem_cons.1 hx with rfl | hx
        · exact h2
        · exact ltK_trans h2 (hr'.1 x hx)
      · rename_i h2
        refine List.pairwise_cons.2 ⟨fun x hx => ?_, ih hr'.2⟩
        rcases mem_insK hx with rfl | hx
        · rcases ltK_total h with h3 | h3
          · exact h3
          · exact absurd h3 h2
        · exact hr'.1 x hx
theorem look_delK (m : List (K × Bs)) (k k2 : K) : look (delK m k) k2 = if k2 = k then none else look m k2 := by
  induction m with
  | nil => simp [delK, look]
  | cons x m ih =>
    unfold delK at *
    by_cases h : x.1 = k
    · rw [List.filter_cons_of_neg (by simp [h]), ih, look_cons]
      by_cases hk : k2 = k
      · simp [hk]
      · simp [hk, h, Ne.symm hk]
    · rw [List.filter_cons_of_pos (by simp [h]), look_cons, look_cons, ih]
      by_cases hk : k2 = k
      · subst hk; simp [h]
      · simp [hk]
theorem rising_delK {m : List (K × Bs)} (hr : Rising m) (k : K) : Rising (delK m k) := hr.filter _
theorem rising_appK {m : List (K × Bs)} (hr : Rising m) (w : Wr) : Rising (appK m w) := by
  unfold appK; split
  · exact rising_delK hr _
  · exact rising_insK hr _ _
theorem look_appK (m : List (K × Bs)) (w : Wr) (k : K) : look (appK m w) k = if w.k = k then over none (some w) else look m k := by
  unfold appK
  cases hg : w.gone
  · simp only [Bool.false_eq_true, if_false, look_insK, over, hg, eq_comm (a := k)]
  · simp only [if_true, look_delK, over, hg, eq_comm (a := k)]
theorem rising_ovr {m : List (K × Bs)} (hr : Rising m) (l : List Wr) : Rising (ovr m l) := by
  induction l generalizing m with
  | nil => exact hr
  | cons w l ih => exact ih (rising_appK hr w)
theorem ovr_snoc (m : List (K × Bs)) (l : List Wr) (w : Wr) : ovr m (l ++ [w]) = appK (ovr m l) w := by simp [ovr]
theorem look_ovr (m : List (K × Bs)) (l : List Wr) (k : K) : look (ovr m l) k = over (look m k) (lastOf l k) := by
  suffices ∀ n (l : List Wr), l.length = n → look (ovr m l) k = over (look m k) (lastOf l k) from this _ l rfl
  intro n
  induction n with
  | zero => intro l h; have := List.eq_nil_of_length_eq_zero h; subst this; rfl
  | succ n ih =>
    intro l h
    obtain ⟨l', w, rfl⟩ : ∃ l' w, l = l' ++ [w] := ⟨l.dropLast, l.getLast (by intro e; subst e; simp at h), (List.dropLast_concat_getLast _).symm⟩
    rw [ovr_snoc, look_appK, lastOf_snoc, ih l' (by simpa using h)]
    split <;> rfl

namespace Tr
def app (t : Tr) (d : Nat) (w : Wr) : Tr := if w.gone then t.del d w.k else t.ins d w.k w.v
theorem entries_ins {t : Tr} {p k : K} {v : Bs} (h : Wf 0 p t) (hv : v.length ≤ 1024) : (t.ins 0 k v).entries = insK t.entries k v :=
  rising_ext (Wf.ins h (by omega) (agree.zero _ _) hv).rising (rising_insK h.rising _ _) fun k2 => by
    rw [look_insK, ← get_eq k2 (Wf.ins h (by omega) (agree.zero k p) hv), get_ins k2 h (by omega) (agree.zero _ _), get_eq k2 h]
theorem entries_del {t : Tr} {p k : K} (h : Wf 0 p t) : (t.del 0 k).entries = delK t.entries k :=
  rising_ext (Wf.del h).rising (rising_delK h.rising _) fun k2 => by
    rw [look_delK, ← get_eq k2 (Wf.del h), get_del k2 h, get_eq k2 h]
theorem Wf.any {t : Tr} {p : K} (h : Wf 0 p t) (q : K) : Wf 0 q t := h.congr (agree.zero _ _)

/-- the tree of rising entries at a depth, n levels being left -/
def ofList : Nat → Nat → List (K × Bs) → Tr
  | _, _, [] => nil
  | _, _, [x] => leaf x.1 x.2
  | 0, _, _ :: _ :: _ => nil
  | n + 1, d, x :: y :: l => node (ofList n (d + 1) ((x :: y :: l).filter (fun z => !bit z.1 d))) (ofList n (d + 1) ((x :: y :: l).filter (fun z => bit z.1 d)))

theorem ofList_two {n d : Nat} {l : List (K × Bs)} (h : 2 ≤ l.length) : ofList (n + 1) d l = node (ofList n (d + 1) (l.filter (fun z => !bit z.1 d))) (ofList n (d + 1) (l.filter (fun z => bit z.1 d))) := by
  match l, h with
  | x :: y :: l, _ => rfl

theorem length_filter_split (l : List (K × Bs)) (d : Nat) : (l.filter (fun z => !bit z.1 d)).length + (l.filter (fun z => bit z.1 d)).length = l.length := by
  induction l with
  | nil => rfl
  | cons x l ih => cases h : bit x.1 d <;> simp [h] <;> omega

theorem rising_one {l : List (K × Bs)} (hr : Rising l) {p : K} (h : ∀ x ∈ l, agree 256 x.1 p) : l.length ≤ 1 := by
  match l, hr, h with
  | [], _, _ => simp
  | [x], _, _ => simp
  | x :: y :: l, hr, h =>
    have h1 := agree.full (h x (by simp))
    have h2 := agree.full (h y (by simp))
    have := (List.pairwise_cons.1 hr).1 y (by simp)
    rw [h1, h2] at this; exact absurd this (ltK_irrefl _)

theorem look_filter_bit (d : Nat) (k : K) (b : Bool) (hk : bit k d = b) (m : List (K × Bs)) : look (m.filter (fun z => bit z.1 d == b)) k = look m k := by
  induction m with
  | nil => rfl
  | cons z m ih =>
    by_cases hz : bit z.1 d = b
    · rw [List.filter_cons_of_pos (by simp [hz]), look_cons, look_cons, ih]
    · rw [List.filter_cons_of_neg (by simp [hz]), look_cons, ih, if_neg (fun e => hz (by rw [e, hk]))]
theorem ofList_short {n d : Nat} {l : List (K × Bs)} {p : K} (h1 : l.length ≤ 1) (h : ∀ x ∈ l, agree d x.1 p ∧ x.2.length ≤ 1024) :
    Wf d p (ofList n d l) ∧ (ofList n d l).size = l.length ∧ ∀ k, (ofList n d l).get d k = look l k := by
  match l, h1, h with
  | [], _, _ => cases n <;> exact ⟨trivial, rfl, fun _ => rfl⟩
  | [x], _, h =>
    have hx := h x (by simp)
    cases n <;> exact ⟨hx, rfl, fun k => by simp only [ofList, get, look_cons]; split <;> rfl⟩
theorem ofList_spec (n : Nat) : ∀ (d : Nat) (m : List (K × Bs)) (p : K), d + n = 256 → Rising m → (∀ x ∈ m, agree d x.1 p ∧ x.2.length ≤ 1024) →
    Wf d p (ofList n d m) ∧ (ofList n d m).size = m.length ∧ ∀ k, (ofList n d m).get d k = look m k := by
  induction n with
  | zero =>
    intro d m p hd hr h
    have hd : d = 256 := by omega
    subst hd
    exact ofList_short (rising_one hr (fun x hx => (h x hx).1)) h
  | succ n ih =>
    intro d m p hd hr h
    rcases Nat.lt_or_ge 1 m.length with h2 | h2
    case inr => exact ofList_short h2 h
    have h2 : 2 ≤ m.length := h2
    rw [ofList_two h2]
    have ml : ∀ z ∈ m.filter (fun z => !bit z.1 d), agree (d + 1) z.1 (if bit p d then flipAt p d else p) ∧ z.2.length ≤ 1024 := by
      intro z hz
      have hz' := List.mem_filter.1 hz
      refine ⟨?_, (h z hz'.1).2⟩
      have hb : bit z.1 d = false := by simpa using hz'.2
      split
      · rename_i hp
        exact (((h z hz'.1).1).trans (agree_flip p d (by omega)).symm).succ (by rw [bit_flip_self p d (by omega), hp, hb]; rfl)
      · rename_i hp
        exact ((h z hz'.1).1).succ (by rw [hb]; simpa using hp)
    have mr : ∀ z ∈ m.filter (fun z => bit z.1 d), agree (d + 1) z.1 (if bit p d then p else flipAt p d) ∧ z.2.length ≤ 1024 := by
      intro z hz
      have hz' := List.mem_filter.1 hz
      refine ⟨?_, (h z hz'.1).2⟩
      have hb : bit z.1 d = true := by simpa using hz'.2
      split
      · rename_i hp
        exact ((h z hz'.1).1).succ (by rw [hb, hp])
      · rename_i hp
        have hp : bit p d = false := by simpa using hp
        exact (((h z hz'.1).1).trans (agree_flip p d (by omega)).symm).succ (by rw [bit_flip_self p d (by omega), hp, hb]; rfl)
    obtain ⟨w1, s1, g1⟩ := ih (d + 1) (m.filter (fun z => !bit z.1 d)) _ (by omega) (List.Pairwise.filter _ hr) ml
    obtain ⟨w2, s2, g2⟩ := ih (d + 1) (m.filter (fun z => bit z.1 d)) _ (by omega) (List.Pairwise.filter _ hr) mr
    have hlen := length_filter_split m d
    refine ⟨⟨by omega, ?_, ⟨_, ?_, ?_, w1⟩, ⟨_, ?_, ?_, w2⟩⟩, by simp only [size, s1, s2]; omega, fun k => ?_⟩
    · generalize ofList n (d + 1) (m.filter (fun z => !bit z.1 d)) = a at *
      generalize ofList n (d + 1) (m.filter (fun z => bit z.1 d)) = b at *
      have h3 : 2 ≤ a.size + b.size := by omega
      clear s1 s2 w1 w2 g1 g2 ml mr hlen
      cases a <;> cases b <;> simp [fit, size] at h3 ⊢
    · split
      · exact agree_flip p d (by omega)
      · exact agree.refl _ _
    · split
      · rename_i hp; rw [bit_flip_self p d (by omega), hp]; rfl
      · rename_i hp; simpa using hp
    · split
      · exact agree.refl _ _
      · exact agree_flip p d (by omega)
    · split
      · rename_i hp; exact hp
      · rename_i hp; rw [bit_flip_self p d (by omega)]; simpa using hp
    · simp only [get]
      split
      · rename_i hk
        rw [g2]
        have := look_filter_bit d k true hk m
        simpa using this
      · rename_i hk
        rw [g1]
        have := look_filter_bit d k false (by simpa using hk) m
        simpa using this

/-- what many writes (rising) make of a tree at depth d -/
def bat : Tr → Nat → List Wr → Tr
  | t, _, [] => t
  | node l r, d, w :: ws => mk (l.bat (d + 1) ((w :: ws).filter (fun z => !bit z.k d))) (r.bat (d + 1) ((w :: ws).filter (fun z => bit z.k d)))
  | nil, d, w :: ws => ofList (256 - d) d (ovr [] (w :: ws))
  | leaf k v, d, w :: ws => ofList (256 - d) d (ovr [(k, v)] (w :: ws))

theorem mem_ovr {m : List (K × Bs)} {l : List Wr} {x : K × Bs} (hr : Rising m) (h : x ∈ ovr m l) : x ∈ m ∨ ∃ w ∈ l, w.gone = false ∧ x = (w.k, w.v) := by
  have h1 := look_mem (rising_ovr hr l) h
  rw [look_ovr] at h1
  cases hl : lastOf l x.1 with
  | none => rw [hl] at h1; exact .inl (look_some_mem h1)
  | some w =>
    rw [hl] at h1
    have hm : w ∈ l := by have := List.mem_of_find?_eq_some hl; simpa using this
    have hk : w.k = x.1 := by simpa using List.find?_some hl
    cases hg : w.gone
    · simp [over, hg] at h1
      exact .inr ⟨w, hm, hg, by cases x; simp_all⟩
    · simp [over, hg] at h1

theorem bat_spec {t : Tr} : ∀ {d : Nat} {p : K} {ws : List Wr}, Wf d p t → d ≤ 256 → RisingW ws → (∀ w ∈ ws, agree d w.k p ∧ (w.gone = false → w.v.length ≤ 1024)) →
    Wf d p (t.bat d ws) ∧ ∀ k, (t.bat d ws).get d k = over (t.get d k) (wlook ws k) := by
  induction t with
  | nil =>
    intro d p ws h hd hr hw
    cases ws with
    | nil => exact ⟨trivial, fun k => rfl⟩
    | cons w ws =>
      unfold Tr.bat
      have hm : ∀ x ∈ ovr [] (w :: ws), agree d x.1 p ∧ x.2.length ≤ 1024 := by
        intro x hx
        rcases mem_ovr List.Pairwise.nil hx with h | ⟨y, hy, hg, rfl⟩
        · cases h
        · exact ⟨(hw y hy).1, (hw y hy).2 hg⟩
      obtain ⟨a, _, b⟩ := ofList_spec (256 - d) d (ovr [] (w :: ws)) p (by omega) (rising_ovr List.Pairwise.nil _) hm
      refine ⟨a, fun k => ?_⟩
      rw [b, look_ovr, lastOf_eq_wlook hr]; rfl
  | leaf k' v' =>
    intro d p ws h hd hr hw
    cases ws with
    | nil => exact ⟨h, fun k => rfl⟩
    | cons w ws =>
      unfold Tr.bat
      have hm : ∀ x ∈ ovr [(k', v')] (w :: ws), agree d x.1 p ∧ x.2.length ≤ 1024 := by
        intro x hx
        rcases mem_ovr (List.pairwise_singleton _ _) hx with hx | ⟨y, hy, hg, rfl⟩
        · simp at hx; subst hx; exact h
        · exact ⟨(hw y hy).1, (hw y hy).2 hg⟩
      obtain ⟨a, _, b⟩ := ofList_spec (256 - d) d (ovr [(k', v')] (w :: ws)) p (by omega) (rising_ovr (List.pairwise_singleton _ _) _) hm
      refine ⟨a, fun k => ?_⟩
      rw [b, look_ovr, lastOf_eq_wlook hr, look_cons]; rfl
  | node l r ihl ihr =>
    intro d p ws h hd hr hw
    cases ws with
    | nil => exact ⟨h, fun k => rfl⟩
    | cons w ws =>
      unfold Tr.bat
      obtain ⟨h1, h2, ⟨a, haa, hb, hc⟩, ⟨b, hbb, he, hf⟩⟩ := h
      generalize w :: ws = l' at *
      have hl := ihl (ws := l'.filter (fun z => !bit z.k d)) hc (by omega) (hr.filter _) (by
        intro z hz
        have hz' := List.mem_filter.1 hz
        exact ⟨((hw z hz'.1).1.trans haa.symm).succ (by rw [hb]; simpa using hz'.2), (hw z hz'.1).2⟩)
      have hr' := ihr (ws := l'.filter (fun z => bit z.k d)) hf (by omega) (hr.filter _) (by
        intro z hz
        have hz' := List.mem_filter.1 hz
        exact ⟨((hw z hz'.1).1.trans hbb.symm).succ (by rw [he]; simpa using hz'.2), (hw z hz'.1).2⟩)
      refine ⟨Wf.mk h1 ⟨a, haa, hb, hl.1⟩ ⟨b, hbb, he, hr'.1⟩, fun k => ?_⟩
      rw [get_mk k ⟨a, haa, hb, hl.1⟩ ⟨b, hbb, he, hr'.1⟩]
      simp only [get]
      split
      · rename_i hk
        rw [hr'.2, wlook_filter _ _ _ (fun z _ e => by simp [e, hk])]
      · rename_i hk
        rw [hl.2, wlook_filter _ _ _ (fun z _ e => by simp [e, hk])]

theorem entries_bat {t : Tr} {p : K} {ws : List Wr} (h : Wf 0 p t) (hr : RisingW ws) (hw : ∀ w ∈ ws, w.gone = false → w.v.length ≤ 1024) :
    (t.bat 0 ws).entries = ovr t.entries ws := by
  obtain ⟨a, b⟩ := bat_spec h (by omega) hr (fun w hx => ⟨agree.zero _ _, hw w hx⟩)
  exact rising_ext a.rising (rising_ovr h.rising _) fun k => by rw [← get_eq k a, b, look_ovr, lastOf_eq_wlook hr, get_eq k h]
end Tr
end Rc
namespace Rc
/-- the digests of this program, as plain functions -/
structure Dg where
  e : K
  val : Bs → K
  leaf : K → K → K
  inner : K → K → K

def Tr.dig (D : Dg) : Tr → K
  | .nil => D.e
  | .leaf k v => D.leaf k (D.val v)
  | .node l r => D.inner (l.dig D) (r.dig D)

def zeroK : K := Vector.replicate 32 0

/-- a node of a store -/
structure Nd where
  digest : K
  kind : Nat
  depth : Int
  key : K
  value : Bs
  hash : K
  left : Nat
  right : Nat
  size : Nat
  held : Nat
  deriving DecidableEq, Inhabited

def Nd.zero : Nd := ⟨zeroK, 0, 0, zeroK, [], zeroK, 0, 0, 0, 0⟩

structure St where
  slots : List (Nd × Nat)
  free : List Nat
  room : Nat
  deriving Inhabited

namespace St
def slot (st : St) (h : Nat) : Nd × Nat := match h with
  | 0 => (Nd.zero, 0)
  | n + 1 => st.slots.getD n (Nd.zero, 0)
def cnt (st : St) (h : Nat) : Nat := (st.slot h).2
def get (st : St) (h : Nat) : Option Nd := if st.cnt h = 0 then none else some (st.slot h).1
def put (st : St) (h : Nat) (x : Nd × Nat) : St := { st with slots := st.slots.set (h - 1) x }
def used (st : St) : Nat := st.slots.length - st.free.length
def full (st : St) : Bool := st.used == st.room
def take (st : St) (nd : Nd) : St × Nat := match st.free.getLast? with
  | some n => ({ st with slots := st.slots.set (n - 1) (nd, 1), free := st.free.dropLast }, n)
  | none => ({ st with slots := st.slots ++ [(nd, 1)] }, st.slots.length + 1)
/-- callers hold a node by so many more -/
def heldBy (st : St) (h : Nat) (f : Nat → Nat) : St := match st.get h with
  | none => st
  | some nd => st.put h ({ nd with held := f nd.held }, st.cnt h)
/-- one hold less: the state, and whether the slot is free then -/
def less (st : St) (h : Nat) : St × Bool :=
  if st.cnt h = 0 then (st, false)
  else if st.cnt h = 1 then ({ st with slots := st.slots.set (h - 1) (Nd.zero, 0), free := st.free ++ [h] }, true)
  else (st.put h ((st.slot h).1, st.cnt h - 1), false)

def leafNd (D : Dg) (k : K) (v : Bs) : Nd := ⟨D.leaf k (D.val v), 1, -1, k, v, D.val v, 0, 0, 1, 1⟩
def leaf (D : Dg) (st : St) (k : K) (v : Bs) : St × Nat := st.take (leafNd D k v)

def kindOf (st : St) (h : Nat) : Nat := match st.get h with | some nd => nd.kind | none => 0
def keyOf (st : St) (h : Nat) : K := match st.get h with | some nd => nd.key | none => zeroK
def valueOf (st : St) (h : Nat) : Bs := match st.get h with | some nd => nd.value | none => []
def leftOf (st : St) (h : Nat) : Nat := match st.get h with | some nd => nd.left | none => 0
def rightOf (st : St) (h : Nat) : Nat := match st.get h with | some nd => nd.right | none => 0
def sizeOf (st : St) (h : Nat) : Nat := match st.get h with | some nd => nd.size | none => 0
def heldOf (st : St) (h : Nat) : Nat := match st.get h with | some nd => nd.held | none => 0
def depthOf (st : St) (h : Nat) : Int := match st.get h with | some nd => nd.depth | none => -1
def digestOf (D : Dg) (st : St) (h : Nat) : K := if h = 0 then D.e else match st.get h with | some nd => nd.digest | none => zeroK

/-- a key's first d bits, the others 0 -/
def firstK (k : K) (d : Nat) : K := Vector.ofFn fun i : Fin 32 => if 8 * i.val + 8 ≤ d then k[i] else if d ≤ 8 * i.val then 0 else k[i] &&& ~~~ ((255 : UInt8) >>> (UInt8.ofNat (d - 8 * i.val)))

def innerNd (D : Dg) (st : St) (d l r : Nat) : Nd :=
  ⟨D.inner (st.digestOf D l) (st.digestOf D r), 2, d, firstK (if l = 0 then st.keyOf r else st.keyOf l) d, [], zeroK, l, r, st.sizeOf l + st.sizeOf r, 1⟩
/-- an inner node, where the sides fit and there is room -/
def inner (D : Dg) (st : St) (d l r : Nat) : St × Nat :=
  let x := st.take (innerNd D st d l r)
  ((x.1.heldBy l (· - 1)).heldBy r (· - 1), x.2)

def hold (st : St) (h : Nat) : St := (st.put h ((st.slot h).1, st.cnt h + 1)).heldBy h (· + 1)

def dropLoop : Nat → St → List Nat → Nat → St × Nat
  | 0, st, _, n => (st, n)
  | _ + 1, st, [], n => (st, n)
  | f + 1, st, h :: todo, n =>
    let x := st.less h
    if x.2 then dropLoop f x.1 ((if st.leftOf h = 0 then [] else [st.leftOf h]) ++ (if st.rightOf h = 0 then [] else [st.rightOf h]) ++ todo) (n + 1)
    else dropLoop f x.1 todo n
def drop (st : St) (h : Nat) : St × Nat := dropLoop (2 * st.slots.length + 2) (st.heldBy h (· - 1)) [h] 0

/-- how many sides of nodes a handle is -/
def pts (nd : Nd) (h : Nat) : Nat := (if nd.left = h then 1 else 0) + (if nd.right = h then 1 else 0)
def par (st : St) (h : Nat) : Nat := (st.slots.map (fun s => pts s.1 h)).sum
end St

open St
/-- a handle stands for a tree at a depth -/
inductive Den (st : St) : Nat → Nat → Tr → Prop
  | nil (d : Nat) : Den st d 0 .nil
  | leaf (d h : Nat) (nd : Nd) (hg : st.get h = some nd) (hk : nd.kind = 1) : Den st d h (.leaf nd.key nd.value)
  | node (d h : Nat) (nd : Nd) (l r : Tr) (hg : st.get h = some nd) (hk : nd.kind = 2) (hd : nd.depth = d) (hl : Den st (d + 1) nd.left l) (hr : Den st (d + 1) nd.right r) : Den st d h (.node l r)

/-- what a node says of its tree -/
def NdIs (D : Dg) (nd : Nd) : Tr → Prop
  | .nil => False
  | .leaf k v => nd = { leafNd D k v with held := nd.held } ∧ v.length ≤ 1024
  | .node l r => ∃ d : Nat, nd.depth = d ∧ Tr.Wf d nd.key (.node l r) ∧ (∃ k, nd.key = firstK k d) ∧ nd.kind = 2 ∧ nd.value = [] ∧ nd.hash = zeroK ∧ nd.digest = (Tr.node l r).dig D ∧ nd.size = (Tr.node l r).size

/-- the depth of a node's tree: of a leaf any -/
def dep (nd : Nd) : Nat := nd.depth.toNat

/-- the store is what its holds say: own: callers' holds; todo: holds that are still to be let go -/
structure InvT (D : Dg) (st : St) (own : Nat → Nat) (todo : List Nat) : Prop where
  room : st.slots.length ≤ st.room
  rmax : 1 ≤ st.room ∧ st.room ≤ 65536
  nodup : st.free.Nodup
  free : ∀ h, h ∈ st.free ↔ 1 ≤ h ∧ h ≤ st.slots.length ∧ st.cnt h = 0
  zero : ∀ h, st.cnt h = 0 → st.slot h = (Nd.zero, 0)
  count : ∀ h, h ≠ 0 → st.cnt h = own h + st.par h + todo.count h
  held : ∀ h nd, st.get h = some nd → nd.held = own h
  ok : ∀ h nd, st.get h = some nd → ∃ t, Den st (dep nd) h t ∧ NdIs D nd t
abbrev Inv (D : Dg) (st : St) (own : Nat → Nat) : Prop := InvT D st own []

namespace St
theorem get_some {st : St} {h : Nat} {nd : Nd} : st.get h = some nd ↔ st.cnt h ≠ 0 ∧ (st.slot h).1 = nd := by
  unfold get; split <;> simp_all
theorem get_none {st : St} {h : Nat} : st.get h = none ↔ st.cnt h = 0 := by unfold get; split <;> simp_all
theorem cnt_zero (st : St) : st.cnt 0 = 0 := rfl
theorem get_zero (st : St) : st.get 0 = none := rfl
theorem cnt_pos_lt {st : St} {h : Nat} (hc : st.cnt h ≠ 0) : 1 ≤ h ∧ h ≤ st.slots.length := by
  cases h with
  | zero => exact absurd rfl hc
  | succ n =>
    refine ⟨by omega, ?_⟩
    rcases Nat.lt_or_ge n st.slots.length with h1 | h1
    · omega
    · exfalso; apply hc; simp [cnt, slot, List.getD_eq_getElem?_getD, List.getElem?_eq_none h1]
theorem slot_put {st : St} {h : Nat} (x : Nd × Nat) (h1 : 1 ≤ h) (h2 : h ≤ st.slots.length) (h' : Nat) : (st.put h x).slot h' = if h' = h then x else st.slot h' := by
  cases h' with
  | zero => rw [if_neg (by omega)]; rfl
  | succ n =>
    simp only [slot, put, List.getD_eq_getElem?_getD, List.getElem?_set]
    by_cases e : h - 1 = n
    · subst e; rw [if_pos rfl, if_pos (by omega), if_pos (by omega)]; rfl
    · rw [if_neg e, if_neg (by omega)]
theorem slots_put (st : St) (h : Nat) (x : Nd × Nat) : (st.put h x).slots.length = st.slots.length := by simp [put]

theorem sum_set (l : List (Nd × Nat)) (f : Nd × Nat → Nat) (i : Nat) (x : Nd × Nat) (hi : i < l.length) : ((l.set i x).map f).sum + f l[i] = (l.map f).sum + f x := by
  induction l generalizing i with
  | nil => simp at hi
  | cons y l ih =>
    cases i with
    | zero => simp; omega
    | succ i => 
      have := ih i (by simpa using hi)
      simp only [List.set_cons_succ, List.map_cons, List.sum_cons, List.getElem_cons_succ]; omega

theorem par_put {st : St} {h : Nat} (x : Nd × Nat) (h1 : 1 ≤ h) (h2 : h ≤ st.slots.length) (h' : Nat) : (st.put h x).par h' + pts (st.slot h).1 h' = st.par h' + pts x.1 h' := by
  have := sum_set st.slots (fun s => pts s.1 h') (h - 1) x (by omega)
  unfold par put
  obtain ⟨n, rfl⟩ : ∃ n, h = n + 1 := ⟨h - 1, by omega⟩
  simp only [Nat.add_sub_cancel] at this
  have e : st.slot (n + 1) = st.slots[n]'(by omega) := by simp [slot, List.getD_eq_getElem?_getD, List.getElem?_eq_getElem (show n < st.slots.length by omega)]
  rw [e]; exact this
theorem pts_zero {h : Nat} (h0 : h ≠ 0) : pts Nd.zero h = 0 := by simp [pts, Nd.zero, Ne.symm h0]
theorem par_pos {st : St} {h h' : Nat} {nd : Nd} (hg : st.get h' = some nd) (hp : pts nd h ≠ 0) : st.par h ≠ 0 := by
  obtain ⟨hc, rfl⟩ := get_some.1 hg
  obtain ⟨h1, h2⟩ := cnt_pos_lt hc
  have := par_put (st := st) (Nd.zero, 0) h1 h2 h
  by_cases h0 : h = 0
  · subst h0
    obtain ⟨n, rfl⟩ : ∃ n, h' = n + 1 := ⟨h' - 1, by omega⟩
    intro e
    unfold par at e
    have hm : pts (st.slot (n + 1)).1 0 ∈ st.slots.map (fun s => pts s.1 0) := by
      refine List.mem_map.2 ⟨st.slot (n + 1), ?_, rfl⟩
      simp [slot, List.getD_eq_getElem?_getD, List.getElem?_eq_getElem (show n < st.slots.length by omega)]
    have := List.sum_eq_zero_iff_forall_eq_nat.1 e _ hm
    exact hp this
  · rw [pts_zero h0] at this; omega
end St

/-- one node is the other, but for how often callers hold it -/
def Nd.like (a b : Nd) : Prop := b = { a with held := b.held }
theorem Nd.like.refl (a : Nd) : a.like a := rfl

theorem Den.keep {st st' : St} {d h : Nat} {t : Tr} (hd : Den st d h t) (hs : ∀ x nd', st'.get x = some nd' → ∃ nd, st.get x = some nd ∧ nd.like nd')
    (hk : ∀ x nd', st'.get x = some nd' → (nd'.left ≠ 0 → st'.get nd'.left ≠ none) ∧ (nd'.right ≠ 0 → st'.get nd'.right ≠ none)) (h0 : h = 0 ∨ st'.get h ≠ none) : Den st' d h t := by
  induction hd with
  | nil d => exact .nil d
  | leaf d h nd hg hkd =>
    have hne : h ≠ 0 := fun e => by subst e; cases hg
    obtain ⟨nd', hn'⟩ := Option.ne_none_iff_exists'.1 (h0.resolve_left hne)
    obtain ⟨nd2, hg2, hl⟩ := hs _ _ hn'
    rw [hg] at hg2; cases hg2
    have hkey : nd'.key = nd.key := by rw [hl]
    have hval : nd'.value = nd.value := by rw [hl]
    have hkind : nd'.kind = nd.kind := by rw [hl]
    have := Den.leaf (st := st') d h nd' hn' (hkind.trans hkd)
    rwa [hkey, hval] at this
  | node d h nd l r hg hkd hdp _ _ ihl ihr =>
    have hne : h ≠ 0 := fun e => by subst e; cases hg
    obtain ⟨nd', hn'⟩ := Option.ne_none_iff_exists'.1 (h0.resolve_left hne)
    obtain ⟨nd2, hg2, hl⟩ := hs _ _ hn'
    rw [hg] at hg2; cases hg2
    have hL : nd'.left = nd.left := by rw [hl]
    have hR : nd'.right = nd.right := by rw [hl]
    have hkind : nd'.kind = nd.kind := by rw [hl]
    have hdep : nd'.depth = nd.depth := by rw [hl]
    have hk' := hk _ _ hn'
    rw [hL, hR] at hk'
    refine .node d h nd' l r hn' (hkind.trans hkd) (hdep.trans hdp) ?_ ?_
    · rw [hL]; apply ihl; by_cases e : nd.left = 0
      · exact .inl e
      · exact .inr (hk'.1 e)
    · rw [hR]; apply ihr; by_cases e : nd.right = 0
      · exact .inl e
      · exact .inr (hk'.2 e)

theorem NdIs.like {D : Dg} {a b : Nd} {t : Tr} (h : NdIs D a t) (hl : a.like b) : NdIs D b t := by
  cases t with
  | nil => exact h
  | leaf k v =>
    refine ⟨?_, h.2⟩
    have h1 := h.1
    rw [Nd.like] at hl
    rw [h1] at hl
    rw [hl]
  | node l r =>
    obtain ⟨d, h1, h2, h3, h4, h5, h6, h7, h8⟩ := h
    rw [Nd.like] at hl
    refine ⟨d, ?_, ?_, ?_, ?_, ?_, ?_, ?_, ?_⟩ <;> rw [hl] <;> assumption
theorem dep_like {a b : Nd} (hl : a.like b) : dep b = dep a := by rw [hl]; rfl

section
variable {D : Dg} {st : St} {own : Nat → Nat} {todo : List Nat}
theorem InvT.occ (I : InvT D st own todo) {h : Nat} (h0 : h ≠ 0) (hp : own h + st.par h + todo.count h ≠ 0) : st.get h ≠ none := by
  rw [Ne, get_none, I.count h h0]; exact hp
theorem InvT.kids (I : InvT D st own todo) {h : Nat} {nd : Nd} (hg : st.get h = some nd) : (nd.left ≠ 0 → st.get nd.left ≠ none) ∧ (nd.right ≠ 0 → st.get nd.right ≠ none) := by
  constructor
  · intro h0; apply I.occ h0; have := par_pos (h := nd.left) hg (by simp [pts]); omega
  · intro h0; apply I.occ h0; have := par_pos (h := nd.right) hg (by simp [pts]); omega
/-- what is there is kept from one state to the next -/
def Keeps (st st' : St) : Prop := ∀ x nd', st'.get x = some nd' → st.get x ≠ none → ∃ nd, st.get x = some nd ∧ nd.like nd'
theorem Den.next {st' : St} {own' : Nat → Nat} {todo' : List Nat} {d h : Nat} {t : Tr} (hd : Den st d h t) (I : InvT D st' own' todo') (hs : ∀ x nd', st'.get x = some nd' → ∃ nd, st.get x = some nd ∧ nd.like nd') (h0 : h = 0 ∨ st'.get h ≠ none) : Den st' d h t :=
  hd.keep hs (fun _ _ hg => I.kids hg) h0

theorem Den.fn {d h : Nat} {t : Tr} (a : Den st d h t) : ∀ {d' : Nat} {u : Tr}, Den st d' h u → t = u := by
  induction a with
  | nil d => intro d' u b; cases b <;> simp_all [get_zero]
  | leaf d h nd hg hk =>
    intro d' u b
    cases b with
    | nil => cases hg
    | leaf _ _ nd' hg' hk' => rw [hg] at hg'; cases hg'; rfl
    | node _ _ nd' l r hg' hk' => rw [hg] at hg'; cases hg'; omega
  | node d h nd l r hg hk hd _ _ ihl ihr =>
    intro d' u b
    cases b with
    | nil => cases hg
    | leaf _ _ nd' hg' hk' => rw [hg] at hg'; cases hg'; omega
    | node _ _ nd' l' r' hg' hk' hd' hl' hr' =>
      rw [hg] at hg'; cases hg'
      rw [ihl hl', ihr hr']
end
end Rc
namespace Rc
open St
def inc (own : Nat → Nat) (h : Nat) : Nat → Nat := fun x => own x + if x = h then 1 else 0
def dec (own : Nat → Nat) (h : Nat) : Nat → Nat := fun x => own x - if x = h then 1 else 0

theorem nodup_le : ∀ (n : Nat) (l : List Nat), l.Nodup → (∀ x ∈ l, 1 ≤ x ∧ x ≤ n) → l.length ≤ n
  | 0, l, _, h => by
    cases l with
    | nil => simp
    | cons x l => have := h x (by simp); omega
  | n + 1, l, hn, h => by
    have h2 := nodup_le n (l.erase (n + 1)) (hn.erase _) (by
      intro x hx
      have h3 := (List.Nodup.mem_erase_iff hn).1 hx
      have := h x h3.2
      have := h3.1
      omega)
    rw [List.length_erase] at h2
    split at h2 <;> omega

section
variable {D : Dg} {st st' : St} {own own' : Nat → Nat} {todo todo' : List Nat}

/-- every node of st' was one of st -/
def Shrinks (st st' : St) : Prop := ∀ x nd', st'.get x = some nd' → ∃ nd, st.get x = some nd ∧ nd.like nd'
theorem Shrinks.refl (st : St) : Shrinks st st := fun _ nd' h => ⟨nd', h, Nd.like.refl _⟩
theorem Nd.like.trans {a b c : Nd} (h : a.like b) (k : b.like c) : a.like c := by
  rw [Nd.like] at *
  rw [k, h]
theorem Shrinks.trans {a b c : St} (h : Shrinks a b) (k : Shrinks b c) : Shrinks a c := fun x nd' hg =>
  let ⟨nd1, h1, l1⟩ := k x nd' hg
  let ⟨nd2, h2, l2⟩ := h x nd1 h1
  ⟨nd2, h2, l2.trans l1⟩
/-- every node of st is one of st' -/
def Grows (st st' : St) : Prop := ∀ x nd, st.get x = some nd → ∃ nd', st'.get x = some nd' ∧ nd.like nd'
theorem Grows.refl (st : St) : Grows st st := fun _ nd h => ⟨nd, h, Nd.like.refl _⟩
theorem Grows.trans {a b c : St} (h : Grows a b) (k : Grows b c) : Grows a c := fun x nd hg =>
  let ⟨nd1, h1, l1⟩ := h x nd hg
  let ⟨nd2, h2, l2⟩ := k x nd1 h1
  ⟨nd2, h2, l1.trans l2⟩
theorem Den.grows {d h : Nat} {t : Tr} (a : Den st d h t) (g : Grows st st') : Den st' d h t := by
  induction a with
  | nil d => exact .nil d
  | leaf d h nd hg hk =>
    obtain ⟨nd', hg', hl⟩ := g _ _ hg
    have e1 : nd'.key = nd.key := by rw [hl]
    have e2 : nd'.value = nd.value := by rw [hl]
    have := Den.leaf (st := st') d h nd' hg' (by rw [hl]; exact hk)
    rwa [e1, e2] at this
  | node d h nd l r hg hk hd _ _ ihl ihr =>
    obtain ⟨nd', hg', hl⟩ := g _ _ hg
    have e1 : nd'.left = nd.left := by rw [hl]
    have e2 : nd'.right = nd.right := by rw [hl]
    exact .node d h nd' l r hg' (by rw [hl]; exact hk) (by rw [hl]; exact hd) (by rw [e1]; exact ihl) (by rw [e2]; exact ihr)

theorem InvT.makeOk (I : InvT D st own todo) (hc : ∀ h, h ≠ 0 → st'.cnt h = own' h + st'.par h + todo'.count h) (hs : Shrinks st st') :
    ∀ h nd, st'.get h = some nd → ∃ t, Den st' (dep nd) h t ∧ NdIs D nd t := by
  intro h nd' hg
  obtain ⟨nd, hg0, hl⟩ := hs h nd' hg
  obtain ⟨t, hd, hi⟩ := I.ok h nd hg0
  refine ⟨t, ?_, hi.like hl⟩
  rw [dep_like hl]
  refine hd.keep hs (fun x nd2 hx => ⟨fun h0 => ?_, fun h0 => ?_⟩) (.inr (by rw [hg]; simp))
  · rw [Ne, get_none, hc _ h0]; have := par_pos (h := nd2.left) hx (by simp [pts]); omega
  · rw [Ne, get_none, hc _ h0]; have := par_pos (h := nd2.right) hx (by simp [pts]); omega

theorem pts_sides (nd : Nd) (h : Nat) (h0 : h ≠ 0) : ((if nd.left = 0 then [] else [nd.left]) ++ (if nd.right = 0 then [] else [nd.right])).count h = pts nd h := by
  rw [List.count_append]
  unfold pts
  congr 1
  · by_cases e : nd.left = 0
    · rw [if_pos e, if_neg (by omega)]; rfl
    · rw [if_neg e, List.count_singleton]; simp
  · by_cases e : nd.right = 0
    · rw [if_pos e, if_neg (by omega)]; rfl
    · rw [if_neg e, List.count_singleton]; simp

theorem get_put {h : Nat} (x : Nd × Nat) (h1 : 1 ≤ h) (h2 : h ≤ st.slots.length) (h' : Nat) : (st.put h x).get h' = if h' = h then (if x.2 = 0 then none else some x.1) else st.get h' := by
  unfold St.get St.cnt
  rw [slot_put x h1 h2]
  split <;> rfl
theorem cnt_put {h : Nat} (x : Nd × Nat) (h1 : 1 ≤ h) (h2 : h ≤ st.slots.length) (h' : Nat) : (st.put h x).cnt h' = if h' = h then x.2 else st.cnt h' := by
  unfold St.cnt
  rw [slot_put x h1 h2]
  split <;> rfl

/-- what a slot holds says which sides it has -/
theorem leftOf_eq {h : Nat} : st.leftOf h = (st.slot h).1.left ∨ st.get h = none := by
  unfold St.leftOf
  cases hg : st.get h with
  | none => exact .inr rfl
  | some nd => left; rw [← (get_some.1 hg).2]
theorem pos_of_cons {h : Nat} (I : InvT D st own (h :: todo)) (h0 : h ≠ 0) : st.cnt h ≠ 0 := by
  rw [I.count h h0, List.count_cons_self]; omega

theorem InvT.lessKeep {h : Nat} (I : InvT D st own (h :: todo)) (h0 : h ≠ 0) (h1 : st.cnt h ≠ 1) :
    st.less h = (st.put h ((st.slot h).1, st.cnt h - 1), false) ∧ InvT D (st.less h).1 own todo ∧ Shrinks st (st.less h).1 ∧ Grows st (st.less h).1 := by
  have hp := pos_of_cons I h0
  obtain ⟨hb1, hb2⟩ := cnt_pos_lt hp
  have e : st.less h = (st.put h ((st.slot h).1, st.cnt h - 1), false) := by unfold St.less; rw [if_neg hp, if_neg h1]
  rw [e]
  have hget : ∀ x, (st.put h ((st.slot h).1, st.cnt h - 1)).get x = st.get x := by
    intro x
    rw [get_put _ hb1 hb2]
    split
    · rename_i ex; subst ex
      rw [if_neg (by show ¬ st.cnt x - 1 = 0; omega)]
      exact (get_some.2 ⟨hp, rfl⟩).symm
    · rfl
  have hcnt : ∀ x, (st.put h ((st.slot h).1, st.cnt h - 1)).cnt x = if x = h then st.cnt h - 1 else st.cnt x := cnt_put _ hb1 hb2
  have hpar : ∀ x, (st.put h ((st.slot h).1, st.cnt h - 1)).par x = st.par x := fun x => by
    have := par_put (st := st) ((st.slot h).1, st.cnt h - 1) hb1 hb2 x; simp only at this; omega
  have hs : Shrinks st (st.put h ((st.slot h).1, st.cnt h - 1)) := fun x nd' hx => ⟨nd', by rw [← hget]; exact hx, Nd.like.refl _⟩
  have hg : Grows st (st.put h ((st.slot h).1, st.cnt h - 1)) := fun x nd' hx => ⟨nd', by rw [hget]; exact hx, Nd.like.refl _⟩
  have hcount : ∀ x, x ≠ 0 → (st.put h ((st.slot h).1, st.cnt h - 1)).cnt x = own x + (st.put h ((st.slot h).1, st.cnt h - 1)).par x + todo.count x := by
    intro x hx
    have := I.count x hx
    rw [hcnt, hpar]
    split
    · rename_i ex; subst ex; rw [List.count_cons_self] at this; omega
    · rename_i ex; rw [List.count_cons_of_ne (Ne.symm ex)] at this; exact this
  refine ⟨rfl, ⟨by rw [slots_put]; exact I.room, I.rmax, I.nodup, fun x => ?_, fun x hx => ?_, hcount, fun x nd hx => I.held x nd (by rw [← hget]; exact hx), I.makeOk hcount hs⟩, hs, hg⟩
  · show x ∈ st.free ↔ _
    rw [slots_put, I.free x, hcnt]
    by_cases ex : x = h
    · subst ex; rw [if_pos rfl]; omega
    · rw [if_neg ex]
  · rw [hcnt] at hx
    by_cases ex : x = h
    · subst ex; rw [if_pos rfl] at hx; omega
    · rw [if_neg ex] at hx; rw [slot_put _ hb1 hb2, if_neg ex]; exact I.zero x hx

theorem InvT.lessFree {h : Nat} (I : InvT D st own (h :: todo)) (h0 : h ≠ 0) (h1 : st.cnt h = 1) :
    st.less h = ({ st with slots := st.slots.set (h - 1) (Nd.zero, 0), free := st.free ++ [h] }, true) ∧
    InvT D (st.less h).1 own ((if st.leftOf h = 0 then [] else [st.leftOf h]) ++ (if st.rightOf h = 0 then [] else [st.rightOf h]) ++ todo) ∧ Shrinks st (st.less h).1 ∧ st.free.length < st.slots.length := by
  have hp : st.cnt h ≠ 0 := by omega
  obtain ⟨hb1, hb2⟩ := cnt_pos_lt hp
  have e : st.less h = ({ st with slots := st.slots.set (h - 1) (Nd.zero, 0), free := st.free ++ [h] }, true) := by unfold St.less; rw [if_neg hp, if_pos h1]
  have hnf : h ∉ st.free := fun hm => hp ((I.free h).1 hm).2.2
  have hnd : (st.free ++ [h]).Nodup := by
    rw [List.nodup_append]
    refine ⟨I.nodup, by simp, ?_⟩
    intro a ha b hb
    simp at hb; subst hb
    intro e; subst e; exact hnf ha
  have hlt : st.free.length < st.slots.length := by
    have := nodup_le st.slots.length (st.free ++ [h]) hnd (by
      intro x hx
      rcases List.mem_append.1 hx with hx | hx
      · have := (I.free x).1 hx; omega
      · simp at hx; subst hx; omega)
    simp at this; omega
  rw [e]
  have eslot : ∀ x, ({ st with slots := st.slots.set (h - 1) (Nd.zero, 0), free := st.free ++ [h] } : St).slot x = (st.put h (Nd.zero, 0)).slot x := fun _ => rfl
  have ecnt : ∀ x, ({ st with slots := st.slots.set (h - 1) (Nd.zero, 0), free := st.free ++ [h] } : St).cnt x = if x = h then 0 else st.cnt x := fun x => (cnt_put (st := st) (Nd.zero, 0) hb1 hb2 x)
  have eget : ∀ x, ({ st with slots := st.slots.set (h - 1) (Nd.zero, 0), free := st.free ++ [h] } : St).get x = if x = h then none else st.get x := fun x => (get_put (st := st) (Nd.zero, 0) hb1 hb2 x)
  have epar : ∀ x, ({ st with slots := st.slots.set (h - 1) (Nd.zero, 0), free := st.free ++ [h] } : St).par x + pts (st.slot h).1 x = st.par x + pts Nd.zero x := fun x => par_put (st := st) (Nd.zero, 0) hb1 hb2 x
  generalize hS : ({ st with slots := st.slots.set (h - 1) (Nd.zero, 0), free := st.free ++ [h] } : St) = S at *
  have hS1 : S.slots.length = st.slots.length := by subst hS; simp
  have hS2 : S.free = st.free ++ [h] := by subst hS; rfl
  have hS3 : S.room = st.room := by subst hS; rfl
  have hl : st.leftOf h = (st.slot h).1.left := by
    rcases leftOf_eq (st := st) (h := h) with h' | h'
    · exact h'
    · exact absurd h' (by rw [get_none]; exact hp)
  have hr : st.rightOf h = (st.slot h).1.right := by
    unfold St.rightOf
    rw [get_some.2 ⟨hp, rfl⟩]
  rw [hl, hr]
  have hcount : ∀ x, x ≠ 0 → S.cnt x = own x + S.par x + ((if (st.slot h).1.left = 0 then [] else [(st.slot h).1.left]) ++ (if (st.slot h).1.right = 0 then [] else [(st.slot h).1.right]) ++ todo).count x := by
    intro x hx
    have hc := I.count x hx
    have hq := epar x
    rw [pts_zero hx] at hq
    rw [List.count_append, pts_sides _ _ hx, ecnt]
    by_cases ex : x = h
    · subst ex
      rw [List.count_cons_self] at hc
      rw [if_pos rfl]; omega
    · rw [List.count_cons_of_ne (Ne.symm ex)] at hc
      rw [if_neg ex]; omega
  have hs : Shrinks st S := fun x nd' hx => by
    rw [eget] at hx
    split at hx
    · cases hx
    · exact ⟨nd', hx, Nd.like.refl _⟩
  refine ⟨rfl, ⟨by rw [hS1, hS3]; exact I.room, by rw [hS3]; exact I.rmax, by rw [hS2]; exact hnd, fun x => ?_, fun x hx => ?_, hcount, fun x nd hx => ?_, I.makeOk hcount hs⟩, hs, hlt⟩
  · rw [hS1, hS2, List.mem_append, I.free x, ecnt]
    by_cases ex : x = h
    · subst ex; simp; omega
    · simp [ex]
  · by_cases ex : x = h
    · subst ex; show S.slot x = _; rw [eslot, slot_put _ hb1 hb2, if_pos rfl]
    · rw [ecnt, if_neg ex] at hx
      show S.slot x = _
      rw [eslot, slot_put _ hb1 hb2, if_neg ex]; exact I.zero x hx
  · rw [eget] at hx
    split at hx
    · cases hx
    · exact I.held x nd hx

theorem dropLoop_spec : ∀ (f : Nat) (st : St) (todo : List Nat) (n : Nat), InvT D st own todo → (∀ h ∈ todo, h ≠ 0) → 2 * (st.slots.length - st.free.length) + todo.length < f →
    InvT D (dropLoop f st todo n).1 own [] ∧ Shrinks st (dropLoop f st todo n).1
  | 0, st, todo, n, _, _, hf => by omega
  | f + 1, st, [], n, I, _, _ => ⟨I, Shrinks.refl _⟩
  | f + 1, st, h :: todo, n, I, hz, hf => by
    have h0 := hz h (by simp)
    unfold dropLoop
    by_cases h1 : st.cnt h = 1
    · obtain ⟨e, I', s, hlt⟩ := I.lessFree h0 h1
      have e1 : (st.less h).1.slots.length = st.slots.length := by rw [e]; simp
      have e2 : (st.less h).1.free.length = st.free.length + 1 := by rw [e]; simp
      have e3 : (st.less h).2 = true := by rw [e]
      simp only [e3, if_true]
      obtain ⟨a, b⟩ := dropLoop_spec f (st.less h).1 _ (n + 1) I' (by
        intro x hx
        rcases List.mem_append.1 hx with hx | hx
        · rcases List.mem_append.1 hx with hx | hx
          · split at hx
            · cases hx
            · simp at hx; subst hx; assumption
          · split at hx
            · cases hx
            · simp at hx; subst hx; assumption
        · exact hz x (by simp [hx])) (by
        rw [e1, e2]
        have : ((if st.leftOf h = 0 then [] else [st.leftOf h]) ++ (if st.rightOf h = 0 then [] else [st.rightOf h]) ++ todo).length ≤ 2 + todo.length := by
          simp only [List.length_append]
          split <;> split <;> simp <;> omega
        simp only [List.length_cons] at hf
        omega)
      exact ⟨a, s.trans b⟩
    · obtain ⟨e, I', s, _⟩ := I.lessKeep h0 h1
      have e1 : (st.less h).1.slots.length = st.slots.length := by rw [e]; simp [St.put]
      have e2 : (st.less h).1.free.length = st.free.length := by rw [e]; rfl
      have e3 : (st.less h).2 = false := by rw [e]
      simp only [e3, Bool.false_eq_true, if_false]
      obtain ⟨a, b⟩ := dropLoop_spec f (st.less h).1 todo n I' (fun x hx => hz x (by simp [hx])) (by rw [e1, e2]; simp only [List.length_cons] at hf; omega)
      exact ⟨a, s.trans b⟩

theorem heldBy_some {h : Nat} {nd : Nd} (f : Nat → Nat) (hg : st.get h = some nd) : st.heldBy h f = st.put h ({ nd with held := f nd.held }, st.cnt h) := by simp [St.heldBy, hg]
theorem heldBy_none {h : Nat} (f : Nat → Nat) (hg : st.get h = none) : st.heldBy h f = st := by simp [St.heldBy, hg]

/-- callers' holds of a node are another number: what it is counted stays -/
theorem InvT.heldBy {h : Nat} {nd : Nd} (f : Nat → Nat) (hg : st.get h = some nd) (I : InvT D st own todo)
    (hc : ∀ x, x ≠ 0 → own x + st.par x + todo.count x = own' x + st.par x + todo'.count x) (ho : own' h = f (own h)) (hother : ∀ x, x ≠ h → own' x = own x) :
    InvT D (st.heldBy h f) own' todo' ∧ Shrinks st (st.heldBy h f) ∧ Grows st (st.heldBy h f) := by
  obtain ⟨hp, hnd⟩ := get_some.1 hg
  obtain ⟨hb1, hb2⟩ := cnt_pos_lt hp
  rw [heldBy_some f hg]
  have hcnt : ∀ x, (st.put h ({ nd with held := f nd.held }, st.cnt h)).cnt x = st.cnt x := fun x => by
    rw [cnt_put _ hb1 hb2]; split
    · rename_i e; subst e; rfl
    · rfl
  have hget : ∀ x, (st.put h ({ nd with held := f nd.held }, st.cnt h)).get x = if x = h then some { nd with held := f nd.held } else st.get x := fun x => by
    rw [get_put _ hb1 hb2]; split
    · first | rfl | exact if_neg hp
    · rfl
  have hpar : ∀ x, (st.put h ({ nd with held := f nd.held }, st.cnt h)).par x = st.par x := fun x => by
    have := par_put (st := st) ({ nd with held := f nd.held }, st.cnt h) hb1 hb2 x
    rw [hnd] at this
    have e : pts ({ nd with held := f nd.held } : Nd) x = pts nd x := rfl
    simp only [e] at this; omega
  have hs : Shrinks st (st.put h ({ nd with held := f nd.held }, st.cnt h)) := fun x nd' hx => by
    rw [hget] at hx
    split at hx
    · rename_i e; subst e; cases hx; exact ⟨nd, hg, rfl⟩
    · exact ⟨nd', hx, Nd.like.refl _⟩
  have hgr : Grows st (st.put h ({ nd with held := f nd.held }, st.cnt h)) := fun x nd' hx => by
    rw [hget]
    split
    · rename_i e; subst e; rw [hg] at hx; cases hx; exact ⟨_, rfl, rfl⟩
    · exact ⟨nd', hx, Nd.like.refl _⟩
  have hcount : ∀ x, x ≠ 0 → (st.put h ({ nd with held := f nd.held }, st.cnt h)).cnt x = own' x + (st.put h ({ nd with held := f nd.held }, st.cnt h)).par x + todo'.count x := by
    intro x h0
    rw [hcnt, hpar, I.count x h0, hc x h0]
  refine ⟨⟨by rw [slots_put]; exact I.room, I.rmax, I.nodup, fun x => ?_, fun x hz => ?_, hcount, fun x nd' hz => ?_, I.makeOk hcount hs⟩, hs, hgr⟩
  · show x ∈ st.free ↔ _
    rw [slots_put, I.free x, hcnt]
  · rw [hcnt] at hz
    rw [slot_put _ hb1 hb2, if_neg (fun e => hp (by rw [← e]; exact hz))]
    exact I.zero x hz
  · rw [hget] at hz
    split at hz
    · rename_i e; subst e; cases hz
      show f nd.held = own' x
      rw [ho, I.held x nd hg]
    · rename_i e; rw [hother x e]; exact I.held x nd' hz

/-- DROP: callers hold a node once less -/
theorem Inv.drop {h : Nat} (I : Inv D st own) (ho : own h ≠ 0) (h0 : h ≠ 0) : Inv D (st.drop h).1 (dec own h) ∧ Shrinks st (st.drop h).1 := by
  have hg : st.get h ≠ none := I.occ h0 (by omega)
  obtain ⟨nd, hg⟩ := Option.ne_none_iff_exists'.1 hg
  obtain ⟨I', s, _⟩ := I.heldBy (own' := dec own h) (todo' := [h]) (· - 1) hg (by
    intro x hx
    simp only [dec, List.count_nil]
    by_cases e : x = h
    · subst e; simp; omega
    · rw [if_neg e, List.count_cons_of_ne (Ne.symm e)]; simp) (by simp [dec]) (by intro x e; simp [dec, e])
  have e1 : (st.heldBy h (· - 1)).slots.length = st.slots.length := by rw [heldBy_some _ hg, slots_put]
  obtain ⟨a, b⟩ := dropLoop_spec (2 * st.slots.length + 2) (st.heldBy h (· - 1)) [h] 0 I' (by simp [h0]) (by rw [e1]; simp; omega)
  exact ⟨a, s.trans b⟩

/-- HOLD: callers hold a node once more -/
theorem Inv.hold {h : Nat} (I : Inv D st own) (hg : st.get h ≠ none) : Inv D (st.hold h) (inc own h) ∧ Shrinks st (st.hold h) ∧ Grows st (st.hold h) := by
  obtain ⟨nd, hg⟩ := Option.ne_none_iff_exists'.1 hg
  obtain ⟨hp, hnd⟩ := get_some.1 hg
  obtain ⟨hb1, hb2⟩ := cnt_pos_lt hp
  have h0 : h ≠ 0 := by omega
  have hcnt : ∀ x, (st.hold h).cnt x = if x = h then st.cnt h + 1 else st.cnt x := by
    intro x
    have hg2 : (st.put h ((st.slot h).1, st.cnt h + 1)).get h = some nd := by rw [get_put _ hb1 hb2, if_pos rfl, if_neg (by simp), hnd]
    unfold St.hold
    rw [heldBy_some _ hg2, cnt_put _ hb1 (by rw [slots_put]; exact hb2), cnt_put _ hb1 hb2, if_pos rfl]
    split
    · rfl
    · rw [cnt_put _ hb1 hb2, if_neg (by assumption)]
  have hslot : ∀ x, (st.hold h).slot x = if x = h then ({ nd with held := nd.held + 1 }, st.cnt h + 1) else st.slot x := by
    intro x
    have hg2 : (st.put h ((st.slot h).1, st.cnt h + 1)).get h = some nd := by rw [get_put _ hb1 hb2, if_pos rfl, if_neg (by simp), hnd]
    unfold St.hold
    rw [heldBy_some _ hg2, slot_put _ hb1 (by rw [slots_put]; exact hb2), cnt_put _ hb1 hb2, if_pos rfl]
    split
    · rfl
    · rw [slot_put _ hb1 hb2, if_neg (by assumption)]
  have hget : ∀ x, (st.hold h).get x = if x = h then some { nd with held := nd.held + 1 } else st.get x := by
    intro x
    unfold St.get
    rw [hcnt, hslot]
    split
    · rw [if_neg (by omega)]
    · rfl
  have hpar : ∀ x, (st.hold h).par x = st.par x := by
    intro x
    have hg2 : (st.put h ((st.slot h).1, st.cnt h + 1)).get h = some nd := by rw [get_put _ hb1 hb2, if_pos rfl, if_neg (by simp), hnd]
    have p1 := par_put (st := st) ((st.slot h).1, st.cnt h + 1) hb1 hb2 x
    have p2 := par_put (st := st.put h ((st.slot h).1, st.cnt h + 1)) ({ nd with held := nd.held + 1 }, (st.put h ((st.slot h).1, st.cnt h + 1)).cnt h) hb1 (by rw [slots_put]; exact hb2) x
    rw [slot_put _ hb1 hb2, if_pos rfl] at p2
    have e : pts ({ nd with held := nd.held + 1 } : Nd) x = pts nd x := rfl
    simp only [e, hnd] at p1 p2
    unfold St.hold
    rw [heldBy_some _ hg2]
    simp only [hnd]
    omega
  have hs : Shrinks st (st.hold h) := fun x nd' hx => by
    rw [hget] at hx
    split at hx
    · rename_i e; subst e; cases hx; exact ⟨nd, hg, rfl⟩
    · exact ⟨nd', hx, Nd.like.refl _⟩
  have hgr : Grows st (st.hold h) := fun x nd' hx => by
    rw [hget]
    split
    · rename_i e; subst e; rw [hg] at hx; cases hx; exact ⟨_, rfl, rfl⟩
    · exact ⟨nd', hx, Nd.like.refl _⟩
  have hlen : (st.hold h).slots.length = st.slots.length := by
    unfold St.hold St.heldBy; split <;> simp [St.put]
  have hfree : (st.hold h).free = st.free ∧ (st.hold h).room = st.room := by
    unfold St.hold St.heldBy; split <;> exact ⟨rfl, rfl⟩
  have hcount : ∀ x, x ≠ 0 → (st.hold h).cnt x = inc own h x + (st.hold h).par x + ([] : List Nat).count x := by
    intro x hx
    have := I.count x hx
    rw [hcnt, hpar]
    unfold inc
    split
    · rename_i e; subst e; omega
    · rename_i e; omega
  refine ⟨⟨by rw [hlen, hfree.2]; exact I.room, by rw [hfree.2]; exact I.rmax, by rw [hfree.1]; exact I.nodup, fun x => ?_, fun x hz => ?_, hcount, fun x nd' hz => ?_, I.makeOk hcount hs⟩, hs, hgr⟩
  · rw [hfree.1, hlen, I.free x, hcnt]
    by_cases e : x = h
    · subst e; rw [if_pos rfl]; omega
    · rw [if_neg e]
  · rw [hcnt] at hz
    split at hz
    · omega
    · rename_i e; rw [hslot, if_neg e]; exact I.zero x hz
  · rw [hget] at hz
    unfold inc
    split at hz
    · rename_i e; subst e; cases hz; rw [if_pos rfl, ← I.held x nd hg]
    · rename_i e; rw [if_neg e]; exact I.held x nd' hz
end
end Rc
