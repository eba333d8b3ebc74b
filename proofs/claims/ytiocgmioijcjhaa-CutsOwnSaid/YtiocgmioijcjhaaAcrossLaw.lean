/- The plain laws of cuts.Across: what goes across some sets; normal lists of sets are told by what they hit; no such list has more than seventy sets. -/
import Derived.Test.YtiocgmioijcjhaaCutsLaw
import Derived.Test.YtiocgmioijcjhaaGateLaw
namespace Go.Proofs.Ytiocgmioijcjhaa
open Go.ChangeShapes Go.WideShapes Go.ChangeAt Go.RowKit
set_option linter.unusedVariables false

/-- the parts of a set, each alone -/
def bitsL (s : Nat) : List Nat := ((List.range 8).filter fun i => s.testBit i).map fun i => 2 ^ i
def acrossL (l : List Nat) : List Nat := l.foldl (fun o s => bothL o (bitsL s)) [0]
/-- sorted, and no set lies in another -/
def Norm (xs : List Nat) : Prop := Anti xs ∧ xs.Pairwise fun a b => ¬ ordI b a < 0
theorem bits_lt (s : Nat) : ∀ c ∈ bitsL s, c < 256 := fun c hc => by
  obtain ⟨i, hi, rfl⟩ := List.mem_map.1 hc
  have := List.mem_range.1 (List.mem_filter.1 hi).1
  exact Nat.pow_lt_pow_right (by decide) this
theorem bits_len (s : Nat) : (bitsL s).length ≤ 8 := by
  unfold bitsL
  rw [List.length_map]
  exact Nat.le_trans (List.length_filter_le _ _) (by simp)
theorem hit_bits (s q : Nat) : hit (bitsL s) q = true ↔ ∃ i, i < 8 ∧ s.testBit i = true ∧ q.testBit i = true := by
  rw [hit_iff]
  constructor
  · rintro ⟨c, hc, e⟩
    obtain ⟨i, hi, rfl⟩ := List.mem_map.1 hc
    obtain ⟨h1, h2⟩ := List.mem_filter.1 hi
    refine ⟨i, List.mem_range.1 h1, h2, ?_⟩
    rw [← hit_bit]; exact hit_iff.2 ⟨_, by simp, e⟩
  · rintro ⟨i, h1, h2, h3⟩
    rw [← hit_bit] at h3
    obtain ⟨c, hc, e⟩ := hit_iff.1 h3
    obtain rfl : c = 2 ^ i := by simpa using hc
    exact ⟨_, List.mem_map.2 ⟨i, List.mem_filter.2 ⟨List.mem_range.2 h1, h2⟩, rfl⟩, e⟩
theorem comp_bit {q i : Nat} (hq : q < 256) : (255 - q).testBit i = (decide (i < 8) && !q.testBit i) := by
  have := Nat.testBit_two_pow_sub_succ (n := 8) (x := q) hq i
  rw [show (2 : Nat) ^ 8 - (q + 1) = 255 - q by omega] at this
  exact this
theorem hit_bits_comp {s q : Nat} (hs : s < 256) (hq : q < 256) : hit (bitsL s) q = !((255 - q) &&& s == s) := by
  rw [Bool.eq_iff_iff, hit_bits, Bool.not_eq_true', beq_eq_false_iff_ne]
  constructor
  · rintro ⟨i, h1, h2, h3⟩ e
    have := congrArg (Nat.testBit · i) e
    simp only [Nat.testBit_and, comp_bit hq, h2, h3] at this
    simp at this
  · intro h
    apply Classical.byContradiction
    intro hn
    refine h (Nat.eq_of_testBit_eq fun i => ?_)
    rw [Nat.testBit_and, comp_bit hq]
    by_cases h8 : i < 8
    · cases h2 : s.testBit i
      · simp
      · cases h3 : q.testBit i
        · simp [h8]
        · exact absurd ⟨i, h8, h2, h3⟩ hn
    · rw [Nat.testBit_lt_two_pow (Nat.lt_of_lt_of_le hs (Nat.pow_le_pow_right (n := 2) (by decide) (by omega : 8 ≤ i)))]
      simp
theorem hit_fold_both (l : List Nat) (q : Nat) : ∀ acc, hit (l.foldl (fun o s => bothL o (bitsL s)) acc) q = (hit acc q && l.all fun s => hit (bitsL s) q) := by
  induction l with
  | nil => intro acc; simp
  | cons s l ih => intro acc; rw [List.foldl_cons, ih, hit_both, List.all_cons, Bool.and_assoc]
theorem hit_across {l : List Nat} {q : Nat} (hl : ∀ s ∈ l, s < 256) (hq : q < 256) : hit (acrossL l) q = !hit l (255 - q) := by
  unfold acrossL
  rw [hit_fold_both, hit_zero, Bool.true_and, Bool.eq_iff_iff, List.all_eq_true, Bool.not_eq_true']
  constructor
  · intro h
    rw [← Bool.not_eq_true, hit_iff]
    rintro ⟨c, hc, e⟩
    have := h c hc
    rw [hit_bits_comp (hl c hc) hq] at this
    simp [e] at this
  · intro h s hs
    rw [hit_bits_comp (hl s hs) hq]
    rw [← Bool.not_eq_true, hit_iff] at h
    simp only [Bool.not_eq_true', beq_eq_false_iff_ne]
    exact fun e => h ⟨s, hs, e⟩
theorem least_sorted (xs : List Nat) : (leastL xs).Pairwise fun a b => ¬ ordI b a < 0 :=
  (sort_sorted xs).sublist (show (List.foldl keep1 [] (sortN xs)).Sublist (sortN xs) by simpa using keep_sub (sortN xs) [])
theorem norm_zero : Norm [0] := ⟨anti_zero, by simp⟩
theorem norm_nil : Norm [] := ⟨⟨by simp, by simp⟩, by simp⟩
theorem both_norm {a b : List Nat} (ha : ∀ c ∈ a, c < 256) (hb : ∀ c ∈ b, c < 256) : Norm (bothL a b) := ⟨both_anti ha hb, least_sorted _⟩
theorem fold_norm (l : List Nat) : ∀ acc, Norm acc → Norm (l.foldl (fun o s => bothL o (bitsL s)) acc) := by
  induction l with
  | nil => intro acc h; exact h
  | cons s l ih => intro acc h; exact ih _ (both_norm h.1.1 (bits_lt s))
theorem across_norm (l : List Nat) : Norm (acrossL l) := fold_norm l _ norm_zero
theorem some_norm {of : List (List Nat)} (h : ∀ x ∈ of, Anti x) (n : Int) : Norm (someL of n) := by
  refine ⟨some_anti h n, ?_⟩
  cases of with
  | nil => unfold someL; split <;> simp
  | cons x r =>
    unfold someL
    split
    · simp
    · split
      · simp
      · exact least_sorted _
theorem cutsK_norm {ts : List GateR} (h : TreeOk ts) : ∀ k, k ≤ ts.length → ∀ x ∈ cutsK ts k, Norm x := by
  intro k
  induction k with
  | zero => intro _ x hx; simp [cutsK] at hx
  | succ k ih =>
    intro hk x hx
    refine ⟨cutsK_anti h (k + 1) hk x hx, ?_⟩
    have ha := cutsK_anti h k (by omega)
    rcases List.mem_append.1 hx with hx | hx
    · exact (ih (by omega) x hx).2
    · obtain rfl : x = cutG (cutsK ts k) (ts.getD k (0, 0, [])) := by simpa using hx
      unfold cutG
      split
      · simp
      · refine (some_norm (fun y hy => ?_) _).2
        obtain ⟨j, hj, rfl⟩ := List.mem_map.1 hy
        rw [List.getD_eq_getElem?_getD]
        cases hs : (cutsK ts k)[j.toNat]? with
        | none => exact ⟨by simp, by simp⟩
        | some v => exact ha v (List.mem_of_getElem? hs)
theorem cuts_norm {ts : List GateR} (h : TreeOk ts) : Norm (cutsL ts) := by
  unfold cutsL
  rw [List.getD_eq_getElem?_getD]
  cases hs : (cutsK ts ts.length)[ts.length - 1]? with
  | none => exact norm_nil
  | some v => exact cutsK_norm h _ (Nat.le_refl _) v (List.mem_of_getElem? hs)
theorem anti_eq {xs : List Nat} (h : Anti xs) {a b : Nat} (ha : a ∈ xs) (hb : b ∈ xs) (e : a &&& b = b) : a = b := by
  apply Classical.byContradiction
  intro hne
  obtain ⟨i, hi, rfl⟩ := List.getElem_of_mem ha
  obtain ⟨j, hj, rfl⟩ := List.getElem_of_mem hb
  have hij : i ≠ j := fun e => hne (by subst e; rfl)
  rcases Nat.lt_or_gt_of_ne hij with hlt | hlt
  · exact (List.pairwise_iff_getElem.1 h.2 i j hi hj hlt).2 e
  · exact (List.pairwise_iff_getElem.1 h.2 j i hj hi hlt).1 e
theorem norm_sub {xs ys : List Nat} (hx : Norm xs) (hy : Norm ys) (h : ∀ q, q < 256 → hit xs q = hit ys q) : ∀ c ∈ xs, c ∈ ys := by
  intro c hc
  have c6 := hx.1.1 c hc
  have h1 : hit ys c = true := by rw [← h c c6]; exact hit_iff.2 ⟨c, hc, Nat.and_self c⟩
  obtain ⟨d, hd, e1⟩ := hit_iff.1 h1
  have d6 := hy.1.1 d hd
  have h2 : hit xs d = true := by rw [h d d6]; exact hit_iff.2 ⟨d, hd, Nat.and_self d⟩
  obtain ⟨e, he, e2⟩ := hit_iff.1 h2
  have e3 := anti_eq hx.1 hc he (sub_trans e1 e2)
  subst e3
  rw [Nat.and_comm] at e2
  rw [e2] at e1
  rw [e1]; exact hd
theorem sorted_eq : ∀ {xs ys : List Nat}, (xs.Pairwise fun a b => a ≠ b ∧ ¬ ordI b a < 0) → (ys.Pairwise fun a b => a ≠ b ∧ ¬ ordI b a < 0) → (∀ c, c ∈ xs ↔ c ∈ ys) → xs = ys := by
  intro xs
  induction xs with
  | nil =>
    intro ys _ _ h
    cases ys with
    | nil => rfl
    | cons y ys => exact absurd ((h y).2 (by simp)) (by simp)
  | cons x xs ih =>
    intro ys hx hy h
    cases ys with
    | nil => exact absurd ((h x).1 (by simp)) (by simp)
    | cons y ys =>
      rw [List.pairwise_cons] at hx hy
      have exy : x = y := by
        apply Classical.byContradiction
        intro hne
        have m1 : x ∈ ys := by
          rcases List.mem_cons.1 ((h x).1 (by simp)) with e | e
          · exact absurd e hne
          · exact e
        have m2 : y ∈ xs := by
          rcases List.mem_cons.1 ((h y).2 (by simp)) with e | e
          · exact absurd e.symm hne
          · exact e
        have o1 := (hx.1 y m2).2
        have o2 := (hy.1 x m1).2
        rw [ord_lt] at o1 o2
        omega
      subst exy
      congr 1
      refine ih hx.2 hy.2 fun c => ?_
      have n1 : ∀ l : List Nat, (∀ b ∈ l, x ≠ b ∧ ¬ ordI b x < 0) → x ∉ l := fun l hl hm => (hl x hm).1 rfl
      constructor
      · intro hc
        rcases List.mem_cons.1 ((h c).1 (List.mem_cons_of_mem _ hc)) with e | e
        · subst e; exact absurd hc (n1 _ hx.1)
        · exact e
      · intro hc
        rcases List.mem_cons.1 ((h c).2 (List.mem_cons_of_mem _ hc)) with e | e
        · subst e; exact absurd hc (n1 _ hy.1)
        · exact e
theorem norm_eq {xs ys : List Nat} (hx : Norm xs) (hy : Norm ys) (h : ∀ q, q < 256 → hit xs q = hit ys q) : xs = ys := by
  have ne : ∀ {l : List Nat}, Norm l → l.Pairwise fun a b => a ≠ b ∧ ¬ ordI b a < 0 := fun hl => (hl.1.2.and hl.2).imp fun {a b} ⟨⟨h1, h2⟩, h3⟩ => ⟨fun e => h1 (by rw [e, Nat.and_self]), h3⟩
  exact sorted_eq (ne hx) (ne hy) fun c => ⟨norm_sub hx hy h c, norm_sub hy hx (fun q hq => (h q hq).symm) c⟩
/-- seventy chains of sets that hold all sets of eight parts (Sperner) -/
def chains : List (List Nat) := [[0, 1, 3, 7, 15, 31, 63, 127, 255], [2, 6, 14, 30, 62, 126, 254], [4, 5, 13, 29, 61, 125, 253], [8, 9, 11, 27, 59, 123, 251], [10, 26, 58, 122, 250], [12, 28, 60, 124, 252], [16, 17, 19, 23, 55, 119, 247], [18, 22, 54, 118, 246], [20, 21, 53, 117, 245], [24, 25, 57, 121, 249], [32, 33, 35, 39, 47, 111, 239], [34, 38, 46, 110, 238], [36, 37, 45, 109, 237], [40, 41, 43, 107, 235], [42, 106, 234], [44, 108, 236], [48, 49, 51, 115, 243], [50, 114, 242], [52, 116, 244], [56, 120, 248], [64, 65, 67, 71, 79, 95, 223], [66, 70, 78, 94, 222], [68, 69, 77, 93, 221], [72, 73, 75, 91, 219], [74, 90, 218], [76, 92, 220], [80, 81, 83, 87, 215], [82, 86, 214], [84, 85, 213], [88, 89, 217], [96, 97, 99, 103, 231], [98, 102, 230], [100, 101, 229], [104, 105, 233], [112, 113, 241], [128, 129, 131, 135, 143, 159, 191], [130, 134, 142, 158, 190], [132, 133, 141, 157, 189], [136, 137, 139, 155, 187], [138, 154, 186], [140, 156, 188], [144, 145, 147, 151, 183], [146, 150, 182], [148, 149, 181], [152, 153, 185], [160, 161, 163, 167, 175], [162, 166, 174], [164, 165, 173], [168, 169, 171], [170], [172], [176, 177, 179], [178], [180], [184], [192, 193, 195, 199, 207], [194, 198, 206], [196, 197, 205], [200, 201, 203], [202], [204], [208, 209, 211], [210], [212], [216], [224, 225, 227], [226], [228], [232], [240]]
theorem chains_all : ((List.range 256).all fun a => chains.any fun c => c.contains a) = true := by decide +kernel
theorem chains_chain : (chains.all fun c => c.all fun a => c.all fun b => (a &&& b == b) || (b &&& a == a)) = true := by decide +kernel
theorem chains_len : chains.length = 70 := by decide +kernel
def chOf (a : Nat) : Nat := chains.findIdx fun c => c.contains a
theorem ch_mem {a : Nat} (h : a < 256) : ∃ c, chains[chOf a]? = some c ∧ a ∈ c := by
  have h1 := List.all_eq_true.1 chains_all a (List.mem_range.2 h)
  obtain ⟨c, hc, hm⟩ := List.any_eq_true.1 h1
  have h2 : chOf a < chains.length := List.findIdx_lt_length_of_exists ⟨c, hc, hm⟩
  refine ⟨chains[chOf a], List.getElem?_eq_getElem h2, ?_⟩
  have h3 := List.findIdx_getElem (p := fun c : List Nat => c.contains a) (xs := chains) (w := h2)
  exact List.contains_iff_mem.1 h3
theorem ch_cmp {a b : Nat} (ha : a < 256) (hb : b < 256) (e : chOf a = chOf b) : a &&& b = b ∨ b &&& a = a := by
  obtain ⟨c, h1, h2⟩ := ch_mem ha
  obtain ⟨d, h3, h4⟩ := ch_mem hb
  rw [e, h3] at h1
  obtain rfl : d = c := Option.some.inj h1
  have h5 := List.all_eq_true.1 (List.all_eq_true.1 (List.all_eq_true.1 chains_chain d (List.mem_of_getElem? h3)) a h2) b h4
  simpa using h5
theorem anti_len70 {xs : List Nat} (h : Anti xs) : xs.length ≤ 70 := by
  have h3 : xs.Pairwise fun a b => a < 256 ∧ b < 256 := List.pairwise_iff_forall_sublist.2 fun {a b} hs => ⟨h.1 a (hs.subset (by simp)), h.1 b (hs.subset (by simp))⟩
  have hn : (xs.map chOf).Nodup := by
    unfold List.Nodup
    rw [List.pairwise_map]
    refine (h.2.and h3).imp ?_
    rintro a b ⟨⟨n1, n2⟩, a6, b6⟩ e
    rcases ch_cmp a6 b6 e with e | e
    · exact n2 e
    · exact n1 e
  have := hn.length_le_of_subset (l₂ := List.range 70) (fun c hc => by
    obtain ⟨a, ha, rfl⟩ := List.mem_map.1 hc
    obtain ⟨d, h1, -⟩ := ch_mem (h.1 a ha)
    have := (List.getElem?_eq_some_iff.1 h1).1
    rw [chains_len] at this
    exact List.mem_range.2 this)
  simpa using this
/-! What CutsAcross says. -/
theorem across_dual {ts : List GateR} (h : TreeOk ts) : acrossL (cutsL ts) = cutsL (dualL ts) := by
  refine norm_eq (across_norm _) (cuts_norm (dual_ok h)) fun q hq => ?_
  rw [hit_across (cuts_anti h).1 hq, hit_cuts h, hit_cuts (dual_ok h)]
  have := top_dual h (q := 255 - q) (by omega)
  rw [show 255 - (255 - q) = q by omega] at this
  rw [this]
theorem across_across {l : List Nat} (h : Norm l) : acrossL (acrossL l) = l := by
  refine norm_eq (across_norm _) h fun q hq => ?_
  rw [hit_across (across_norm l).1.1 hq, hit_across h.1.1 (by omega), show 255 - (255 - q) = q by omega, Bool.not_not]
theorem across_meet {l : List Nat} (hl : ∀ s ∈ l, s < 256) {x y : Nat} (hx : x ∈ l) (hy : y ∈ acrossL l) : x &&& y ≠ 0 := by
  intro e
  have y6 := (across_norm l).1.1 y hy
  have h1 : hit (acrossL l) y = true := hit_iff.2 ⟨y, hy, Nat.and_self y⟩
  rw [hit_across hl y6, Bool.not_eq_true', ← Bool.not_eq_true, hit_iff] at h1
  refine h1 ⟨x, hx, Nat.eq_of_testBit_eq fun i => ?_⟩
  rw [Nat.testBit_and, comp_bit y6]
  have := congrArg (Nat.testBit · i) e
  simp only [Nat.testBit_and, Nat.zero_testBit] at this
  cases hb : x.testBit i
  · simp
  · rw [hb] at this
    have h8 : i < 8 := by
      apply Classical.byContradiction
      intro hn
      rw [Nat.testBit_lt_two_pow (Nat.lt_of_lt_of_le (hl x hx) (Nat.pow_le_pow_right (n := 2) (by decide) (by omega : 8 ≤ i)))] at hb
      cases hb
    have h9 : y.testBit i = false := by simpa using this
    simp [h8, h9]
theorem across_two : acrossL [1, 2] = [3] := by
  refine norm_eq (across_norm _) ⟨⟨by simp, by simp⟩, by simp⟩ fun q hq => ?_
  rw [hit_across (by simp) hq]
  have : ((List.range 256).all fun q => (!hit [1, 2] (255 - q)) == hit [3] q) = true := by decide +kernel
  simpa using List.all_eq_true.1 this q (List.mem_range.2 hq)
theorem across_one : acrossL [2] = [2] := by
  refine norm_eq (across_norm _) ⟨⟨by simp, by simp⟩, by simp⟩ fun q hq => ?_
  rw [hit_across (by simp) hq]
  have : ((List.range 256).all fun q => (!hit [2] (255 - q)) == hit [2] q) = true := by decide +kernel
  simpa using List.all_eq_true.1 this q (List.mem_range.2 hq)

end Go.Proofs.Ytiocgmioijcjhaa
