/- The plain laws of cuts: the least sets, both, some; what they hit. -/
import Derived.Test.YtiocgmioijcjhaaCutsOnes
import Derived.Test.YtiocgmioijcjhaaGateFail
namespace Go.Proofs.Ytiocgmioijcjhaa
open Go.ChangeShapes Go.WideShapes Go.ChangeAt Go.RowKit
set_option linter.unusedVariables false

/-- q holds one of the sets -/
def hit (xs : List Nat) (q : Nat) : Bool := xs.any fun c => q &&& c == c
def keep1 (kept : List Nat) (c : Nat) : List Nat := if kept.any (fun k => c &&& k == k) then kept else kept ++ [c]
def sortN (xs : List Nat) : List Nat := xs.mergeSort fun a b => !decide (ordI b a < 0)
def leastL (xs : List Nat) : List Nat := (sortN xs).foldl keep1 []
def bothL (a b : List Nat) : List Nat := leastL (a.flatMap fun x => b.map fun y => x ||| y)
def someL : List (List Nat) → Int → List Nat
  | [], n => if n ≤ 0 then [0] else []
  | x :: r, n => if n ≤ 0 then [0] else if n > ((x :: r).length : Int) then [] else leastL (bothL x (someL r (n - 1)) ++ someL r n)
def cutG (sets : List (List Nat)) (g : GateR) : List Nat := if g.1 = 1 then [2 ^ g.2.1.toNat] else someL (g.2.2.map fun j => sets.getD j.toNat []) (needsI g)
def cutsK (ts : List GateR) : Nat → List (List Nat)
  | 0 => []
  | k + 1 => cutsK ts k ++ [cutG (cutsK ts k) (ts.getD k (0, 0, []))]
def cutsL (ts : List GateR) : List Nat := (cutsK ts ts.length).getD (ts.length - 1) []
theorem sub_trans {q c k : Nat} (h1 : q &&& c = c) (h2 : c &&& k = k) : q &&& k = k := by
  rw [← h2, ← Nat.and_assoc, h1]
theorem hit_iff {xs : List Nat} {q : Nat} : hit xs q = true ↔ ∃ c ∈ xs, q &&& c = c := by simp [hit]
theorem hit_append (xs ys : List Nat) (q : Nat) : hit (xs ++ ys) q = (hit xs q || hit ys q) := by simp [hit]
theorem hit_keep (acc : List Nat) (c q : Nat) : hit (keep1 acc c) q = (hit acc q || hit [c] q) := by
  unfold keep1
  split
  · rename_i h
    obtain ⟨k, hk, hs⟩ := List.any_eq_true.1 h
    have hs' : c &&& k = k := by simpa using hs
    cases h1 : hit acc q with
    | true => rfl
    | false =>
      cases h2 : hit [c] q with
      | false => rfl
      | true =>
        obtain ⟨c', hc', hq⟩ := hit_iff.1 h2
        obtain rfl : c' = c := by simpa using hc'
        have : hit acc q = true := hit_iff.2 ⟨k, hk, sub_trans hq hs'⟩
        rw [this] at h1; simp at h1
  · exact hit_append acc [c] q
theorem hit_fold (xs : List Nat) (q : Nat) : ∀ acc, hit (xs.foldl keep1 acc) q = (hit acc q || hit xs q) := by
  induction xs with
  | nil => intro acc; simp [hit]
  | cons c xs ih =>
    intro acc
    rw [List.foldl_cons, ih, hit_keep, Bool.or_assoc, show c :: xs = [c] ++ xs from rfl, hit_append]
theorem sort_perm (xs : List Nat) : (sortN xs).Perm xs := List.mergeSort_perm _ _
theorem hit_least (xs : List Nat) (q : Nat) : hit (leastL xs) q = hit xs q := by
  unfold leastL
  rw [hit_fold]
  have : hit (sortN xs) q = hit xs q := by
    rw [Bool.eq_iff_iff, hit_iff, hit_iff]
    exact ⟨fun ⟨c, h, e⟩ => ⟨c, (sort_perm xs).mem_iff.1 h, e⟩, fun ⟨c, h, e⟩ => ⟨c, (sort_perm xs).mem_iff.2 h, e⟩⟩
  rw [this]; simp [hit]
theorem or_sub (q x y : Nat) : q &&& (x ||| y) = x ||| y ↔ q &&& x = x ∧ q &&& y = y := by
  constructor
  · intro h
    constructor
    · refine Nat.eq_of_testBit_eq fun i => ?_
      have := congrArg (Nat.testBit · i) h
      simp only [Nat.testBit_and, Nat.testBit_or] at this ⊢
      revert this; cases q.testBit i <;> cases x.testBit i <;> cases y.testBit i <;> simp
    · refine Nat.eq_of_testBit_eq fun i => ?_
      have := congrArg (Nat.testBit · i) h
      simp only [Nat.testBit_and, Nat.testBit_or] at this ⊢
      revert this; cases q.testBit i <;> cases x.testBit i <;> cases y.testBit i <;> simp
  · rintro ⟨h1, h2⟩
    rw [Nat.and_or_distrib_left, h1, h2]
theorem hit_both (a b : List Nat) (q : Nat) : hit (bothL a b) q = (hit a q && hit b q) := by
  unfold bothL
  rw [hit_least, Bool.eq_iff_iff, Bool.and_eq_true, hit_iff, hit_iff, hit_iff]
  constructor
  · rintro ⟨c, hc, e⟩
    obtain ⟨x, hx, hc⟩ := List.mem_flatMap.1 hc
    obtain ⟨y, hy, rfl⟩ := List.mem_map.1 hc
    obtain ⟨e1, e2⟩ := (or_sub q x y).1 e
    exact ⟨⟨x, hx, e1⟩, ⟨y, hy, e2⟩⟩
  · rintro ⟨⟨x, hx, e1⟩, ⟨y, hy, e2⟩⟩
    exact ⟨x ||| y, List.mem_flatMap.2 ⟨x, hx, List.mem_map.2 ⟨y, hy, rfl⟩⟩, (or_sub q x y).2 ⟨e1, e2⟩⟩
theorem hit_zero (q : Nat) : hit [0] q = true := by simp [hit]
theorem hit_some (of : List (List Nat)) (q : Nat) : ∀ n : Int, hit (someL of n) q = decide (n ≤ ((of.countP fun x => hit x q) : Nat)) := by
  induction of with
  | nil =>
    intro n
    unfold someL
    by_cases h : n ≤ 0
    · rw [if_pos h, hit_zero]; simp [h]
    · rw [if_neg h]; simp [hit, h]
  | cons x r ih =>
    intro n
    unfold someL
    by_cases h : n ≤ 0
    · rw [if_pos h, hit_zero]
      symm; rw [decide_eq_true_eq]; omega
    · rw [if_neg h]
      have hc : (x :: r).countP (fun x => hit x q) ≤ (x :: r).length := List.countP_le_length
      by_cases h1 : n > ((x :: r).length : Int)
      · rw [if_pos h1]
        have : ¬ n ≤ (((x :: r).countP fun x => hit x q) : Nat) := by omega
        simp only [this, decide_false]
        rfl
      · rw [if_neg h1, hit_least, hit_append, hit_both, ih, ih, List.countP_cons]
        cases hx : hit x q
        · simp
        · simp only [if_true, Bool.true_and]
          rw [Bool.eq_iff_iff]
          simp only [Bool.or_eq_true, decide_eq_true_eq]
          omega
theorem hit_bit (n p : Nat) : hit [2 ^ n] p = p.testBit n := by
  have : (p &&& 2 ^ n = 2 ^ n) ↔ p.testBit n = true := by
    constructor
    · intro h
      have := congrArg (Nat.testBit · n) h
      simpa [Nat.testBit_and] using this
    · intro h
      refine Nat.eq_of_testBit_eq fun i => ?_
      rw [Nat.testBit_and, Nat.testBit_two_pow]
      by_cases e : n = i
      · subst e; simp [h]
      · simp [e]
  rw [Bool.eq_iff_iff, hit_iff]
  simp [this]
theorem cutsK_len (ts : List GateR) (k : Nat) : (cutsK ts k).length = k := by
  induction k with
  | zero => rfl
  | succ k ih => simp [cutsK, ih]
theorem cuts_hit (ts : List GateR) (p : Nat) (h : TreeOk ts) : ∀ k, k ≤ ts.length → (cutsK ts k).map (hit · p) = failK ts p k := by
  intro k
  induction k with
  | zero => intro _; rfl
  | succ k ih =>
    intro hk
    have ih := ih (by omega)
    simp only [cutsK, failK, List.map_append, List.map_cons, List.map_nil, ih]
    congr 2
    have hg : ts[k]? = some (ts.getD k (0, 0, [])) := by
      rw [List.getD_eq_getElem?_getD, List.getElem?_eq_getElem (by omega)]; rfl
    generalize hgd : ts.getD k (0, 0, []) = g at *
    have hok := h.2.2 k g hg
    unfold cutG gateB
    by_cases h1 : g.1 = 1
    · rw [if_pos h1, if_pos h1]
      exact hit_bit _ _
    · rw [if_neg h1, if_neg h1, hit_some]
      congr 2
      unfold cntF
      rw [List.countP_map]
      have : (List.countP ((fun x => hit x p) ∘ fun j : Int => (cutsK ts k).getD j.toNat []) g.2.2) = List.countP (fun j : Int => (failK ts p k).getD j.toNat false) g.2.2 := by
        refine List.countP_congr fun j hj => ?_
        have e : (failK ts p k).getD j.toNat false = hit ((cutsK ts k).getD j.toNat []) p := by
          rw [← ih, List.getD_eq_getElem?_getD, List.getD_eq_getElem?_getD, List.getElem?_map]
          cases (cutsK ts k)[j.toNat]? with
          | none => rfl
          | some v => rfl
        rw [e]; rfl
      rw [this]
theorem hit_cuts {ts : List GateR} (h : TreeOk ts) (p : Nat) : hit (cutsL ts) p = topB ts p := by
  unfold cutsL topB
  rw [← cuts_hit ts p h _ (Nat.le_refl _), List.getD_eq_getElem?_getD, List.getD_eq_getElem?_getD, List.getElem?_map]
  cases (cutsK ts ts.length)[ts.length - 1]? with
  | none => rfl
  | some v => rfl
/-! No set of a list of least sets lies in another. -/
theorem pop_sub : ∀ (f x y : Nat), y &&& x = x → Lib.popAux f x ≤ Lib.popAux f y ∧ (x < 2 ^ f → y < 2 ^ f → Lib.popAux f x = Lib.popAux f y → x = y) := by
  intro f
  induction f with
  | zero => intro x y h; exact ⟨Nat.le_refl _, fun h1 h2 _ => by simp at h1 h2; omega⟩
  | succ f ih =>
    intro x y h
    have h2 : y / 2 &&& x / 2 = x / 2 := by rw [← Nat.and_div_two, h]
    have h0 : x % 2 ≤ y % 2 := by
      have : (y &&& x).testBit 0 = x.testBit 0 := by rw [h]
      rw [Nat.testBit_and] at this
      simp only [Nat.testBit_zero] at this
      revert this
      rcases Nat.mod_two_eq_zero_or_one x with hx | hx <;> rcases Nat.mod_two_eq_zero_or_one y with hy | hy <;> simp [hx, hy]
    obtain ⟨i1, i2⟩ := ih (x / 2) (y / 2) h2
    refine ⟨by simp only [Lib.popAux]; omega, fun hx hy he => ?_⟩
    simp only [Lib.popAux] at he
    rw [Nat.pow_succ] at hx hy
    have := i2 (by omega) (by omega) (by omega)
    omega
theorem pc_sub {x y : Nat} (hx : x < 65536) (hy : y < 65536) (h : y &&& x = x) : pc x ≤ pc y ∧ (pc x = pc y → x = y) := by
  have hd : y / 256 &&& x / 256 = x / 256 := by
    have := congrArg (· / 2 ^ 8) h
    simp only [Nat.and_div_two_pow] at this
    exact this
  have hm : y % 256 &&& x % 256 = x % 256 := by
    have := congrArg (· % 2 ^ 8) h
    simp only [Nat.and_mod_two_pow] at this
    exact this
  obtain ⟨a1, a2⟩ := pop_sub 64 _ _ hd
  obtain ⟨b1, b2⟩ := pop_sub 64 _ _ hm
  unfold pc Lib.onesCount
  refine ⟨by omega, fun e => ?_⟩
  have e1 := a2 (by omega) (by omega) (by omega)
  have e2 := b2 (by omega) (by omega) (by omega)
  omega
theorem ord_lt (a b : Nat) : ordI a b < 0 ↔ pc a < pc b ∨ (pc a = pc b ∧ a < b) := by
  unfold ordI
  split <;> omega
theorem sort_sorted (xs : List Nat) : (sortN xs).Pairwise fun a b => ¬ ordI b a < 0 := by
  have := List.pairwise_mergeSort (le := fun a b => !decide (ordI b a < 0)) (by
    intro a b c; simp only [Bool.not_eq_true', decide_eq_false_iff_not, ord_lt]; omega) (by
    intro a b; simp only [Bool.or_eq_true, Bool.not_eq_true', decide_eq_false_iff_not, ord_lt]; omega) xs
  refine this.imp fun h => ?_
  simpa using h
theorem keep_sub (xs : List Nat) : ∀ acc, (xs.foldl keep1 acc).Sublist (acc ++ xs) := by
  induction xs with
  | nil => intro acc; simp
  | cons c xs ih =>
    intro acc
    rw [List.foldl_cons]
    refine (ih _).trans ?_
    unfold keep1
    split
    · exact (List.sublist_cons_self c xs).append_left acc
    · simp
theorem keep_pair (xs : List Nat) : ∀ acc, acc.Pairwise (fun a b => ¬ b &&& a = a) → (xs.foldl keep1 acc).Pairwise fun a b => ¬ b &&& a = a := by
  induction xs with
  | nil => intro acc h; exact h
  | cons c xs ih =>
    intro acc h
    rw [List.foldl_cons]
    refine ih _ ?_
    unfold keep1
    split
    · exact h
    · rename_i hn
      refine List.pairwise_append.2 ⟨h, by simp, fun a ha b hb => ?_⟩
      obtain rfl : b = c := by simpa using hb
      intro he
      exact hn (List.any_eq_true.2 ⟨a, ha, by simpa using he⟩)
theorem least_mem {xs : List Nat} {c : Nat} (h : c ∈ leastL xs) : c ∈ xs := by
  have := (keep_sub (sortN xs) []).subset h
  exact (sort_perm xs).mem_iff.1 (by simpa using this)
/-- least sets: sorted, and none lies in another -/
def Anti (xs : List Nat) : Prop := (∀ c ∈ xs, c < 256) ∧ xs.Pairwise fun a b => ¬ b &&& a = a ∧ ¬ a &&& b = b
theorem least_anti {xs : List Nat} (hb : ∀ c ∈ xs, c < 256) : Anti (leastL xs) := by
  refine ⟨fun c hc => hb c (least_mem hc), ?_⟩
  have h1 := keep_pair (sortN xs) [] List.Pairwise.nil
  have h2 : (leastL xs).Pairwise fun a b => ¬ ordI b a < 0 := (sort_sorted xs).sublist (show (List.foldl keep1 [] (sortN xs)).Sublist (sortN xs) by simpa using keep_sub (sortN xs) [])
  have h3 : (leastL xs).Pairwise fun a b => a < 256 ∧ b < 256 := List.pairwise_iff_forall_sublist.2 fun {a b} h => by
    have m1 : a ∈ leastL xs := h.subset (by simp)
    have m2 : b ∈ leastL xs := h.subset (by simp)
    exact ⟨hb a (least_mem m1), hb b (least_mem m2)⟩
  refine (h1.and (h2.and h3)).imp ?_
  rintro a b ⟨n1, n2, n3, n4⟩
  refine ⟨n1, fun he => ?_⟩
  obtain ⟨p1, p2⟩ := pc_sub (x := b) (y := a) (by omega) (by omega) he
  rw [ord_lt] at n2
  have := p2 (by omega)
  subst this
  exact n1 he
theorem anti_len {xs : List Nat} (h : Anti xs) : xs.length ≤ 256 := by
  have hn : xs.Nodup := h.2.imp fun ⟨h1, _⟩ e => h1 (by rw [e, Nat.and_self])
  have := hn.length_le_of_subset (l₂ := List.range 256) (fun c hc => List.mem_range.2 (h.1 c hc))
  simpa using this
theorem anti_zero : Anti [0] := ⟨by simp, by simp⟩
theorem both_anti {a b : List Nat} (ha : ∀ c ∈ a, c < 256) (hb : ∀ c ∈ b, c < 256) : Anti (bothL a b) :=
  least_anti fun c hc => by
    obtain ⟨x, hx, hc⟩ := List.mem_flatMap.1 hc
    obtain ⟨y, hy, rfl⟩ := List.mem_map.1 hc
    exact Nat.or_lt_two_pow (n := 8) (ha x hx) (hb y hy)
theorem some_anti {of : List (List Nat)} (h : ∀ x ∈ of, Anti x) : ∀ n, Anti (someL of n) := by
  induction of with
  | nil => intro n; unfold someL; split; exact anti_zero; exact ⟨by simp, by simp⟩
  | cons x r ih =>
    intro n
    have ih := ih fun y hy => h y (List.mem_cons_of_mem _ hy)
    unfold someL
    split
    · exact anti_zero
    · split
      · exact ⟨by simp, by simp⟩
      · refine least_anti fun c hc => ?_
        rcases List.mem_append.1 hc with hc | hc
        · exact (both_anti (h x (by simp)).1 (ih (n - 1)).1).1 c hc
        · exact (ih n).1 c hc
theorem cutsK_anti {ts : List GateR} (h : TreeOk ts) : ∀ k, k ≤ ts.length → ∀ x ∈ cutsK ts k, Anti x := by
  intro k
  induction k with
  | zero => intro _ x hx; simp [cutsK] at hx
  | succ k ih =>
    intro hk x hx
    have ih := ih (by omega)
    have hg : ts[k]? = some (ts.getD k (0, 0, [])) := by
      rw [List.getD_eq_getElem?_getD, List.getElem?_eq_getElem (by omega)]; rfl
    rcases List.mem_append.1 hx with hx | hx
    · exact ih x hx
    · obtain rfl : x = cutG (cutsK ts k) (ts.getD k (0, 0, [])) := by simpa using hx
      have hok := (h.2.2 k _ hg).1
      generalize ts.getD k (0, 0, []) = g at *
      unfold cutG
      split
      · rename_i h1
        have hn : g.2.1.toNat < 8 := by
          rcases hok with h | h | h
          · omega
          · omega
          · omega
        refine ⟨fun c hc => ?_, by simp⟩
        obtain rfl : c = 2 ^ g.2.1.toNat := by simpa using hc
        exact Nat.pow_lt_pow_right (by decide) hn
      · refine some_anti (fun y hy => ?_) _
        obtain ⟨j, hj, rfl⟩ := List.mem_map.1 hy
        rw [List.getD_eq_getElem?_getD]
        cases hs : (cutsK ts k)[j.toNat]? with
        | none => exact ⟨by simp, by simp⟩
        | some v => exact ih v (List.mem_of_getElem? hs)
theorem cuts_anti {ts : List GateR} (h : TreeOk ts) : Anti (cutsL ts) := by
  unfold cutsL
  rw [List.getD_eq_getElem?_getD]
  cases hs : (cutsK ts ts.length)[ts.length - 1]? with
  | none => exact ⟨by simp, by simp⟩
  | some v => exact cutsK_anti h _ (Nat.le_refl _) v (List.mem_of_getElem? hs)

end Go.Proofs.Ytiocgmioijcjhaa
