/- A nominal world arrives: the numbers of a leg. -/
import Derived.Test.YtlagmebnjagoaaaGreatWRst
namespace Go.Proofs.YtlagmebnjagoaaaGreat
open Go.ChangeShapes Go.WideShapes Go.ChangeAt Go.RowKit
set_option linter.unusedVariables false

theorem toward2 (v u : Int) : 2 * towardI v u 2 ≤ u + v + 1 ∧ u + v - 1 ≤ 2 * towardI v u 2 := by
  unfold towardI
  obtain ⟨q, hq⟩ : ∃ q, (u - v).tdiv 2 = q := ⟨_, rfl⟩
  have h : 2 * q ≤ u - v + 1 ∧ u - v - 1 ≤ 2 * q ∧ (0 ≤ u - v → 2 * q ≤ u - v) ∧ (u - v ≤ 0 → u - v ≤ 2 * q) := by
    by_cases h0 : 0 ≤ u - v
    · rw [tdiv_pos h0] at hq; omega
    · rw [show u - v = -(v - u) from by omega, tdiv_negI, tdiv_pos (by omega)] at hq; omega
  rw [hq]
  by_cases h0 : q = 0
  · rw [if_neg (by omega)]
    by_cases h1 : v < u
    · rw [if_pos h1]; omega
    · rw [if_neg h1]
      by_cases h2 : u < v
      · rw [if_pos h2]; omega
      · rw [if_neg h2]; omega
  · rw [if_pos h0]; omega
/-- what one step does, in bounds: d the goal's way, s the deviation that the lane sees -/
theorem mo_step (m : Mo) (W : Int) (hx : -5000000 ≤ m.x ∧ m.x ≤ 5000000) (hv : -524288 ≤ m.v ∧ m.v ≤ 524288) :
    ∃ s u, s ≤ (m.next W).g - m.x + 99 ∧ (m.next W).g - m.x - 99 ≤ s ∧ (u = 524288 ∧ 1048575 ≤ s ∨ u = -524288 ∧ s ≤ -1048575 ∨ (2 * u ≤ s + 1 ∧ s ≤ 2 * u ∧ -524288 ≤ u ∧ u ≤ 524288)) ∧
      2 * (m.next W).v ≤ u + m.v + 1 ∧ u + m.v - 1 ≤ 2 * (m.next W).v ∧ -524288 ≤ (m.next W).v ∧ (m.next W).v ≤ 524288 ∧
      4 * ((m.next W).x - m.x) ≤ (m.next W).v + 2 ∧ (m.next W).v - 1 ≤ 4 * ((m.next W).x - m.x) := by
  have hs := @seen_bd m.x
  obtain ⟨v', hv'⟩ : ∃ y, vS m.v m.g W m.x = y := ⟨_, rfl⟩
  have hb := vS_bd (g := m.g) (W := W) (x := m.x) hv
  rw [hv'] at hb
  refine ⟨gS m.g W - seen m.x, toldS (gS m.g W - seen m.x), by show _ ≤ gS m.g W - m.x + 99; omega, by show gS m.g W - m.x - 99 ≤ _; omega, ?_, ?_⟩
  · generalize gS m.g W - seen m.x = s
    unfold toldS clampI; omega
  · have ht := toward2 m.v (toldS (gS m.g W - seen m.x))
    have e : towardI m.v (toldS (gS m.g W - seen m.x)) 2 = v' := hv'
    rw [e] at ht
    show 2 * vS m.v m.g W m.x ≤ _ ∧ _ ≤ 2 * vS m.v m.g W m.x ∧ -524288 ≤ vS m.v m.g W m.x ∧ vS m.v m.g W m.x ≤ 524288 ∧ 4 * (xS m.x (vS m.v m.g W m.x) - m.x) ≤ vS m.v m.g W m.x + 2 ∧ vS m.v m.g W m.x - 1 ≤ 4 * (xS m.x (vS m.v m.g W m.x) - m.x)
    rw [hv']
    refine ⟨ht.1, ht.2, hb.1, hb.2, ?_⟩
    unfold xS clampI; omega
/-- a place within the half of the surface's way -/
def Half (x : Int) : Prop := -3276800 ≤ x ∧ x ≤ 3276800
theorem gS_half {g W : Int} (hg : Half g) (hW : Half W) : Half (gS g W) := by unfold Half gS clampI at *; omega
theorem gS_way (g W : Int) : gS g W - g ≤ 131072 ∧ -131072 ≤ gS g W - g := by unfold gS clampI; omega
theorem gS_at (W : Int) : gS W W = W := by unfold gS clampI; omega
/-- how far a lane is behind, at most; K grows with the roundings -/
structure Beh (m : Mo) (K : Int) : Prop where
  t : m.t = m.g
  g : Half m.g
  v : -524288 ≤ m.v ∧ m.v ≤ 524288
  b : 4 * (m.g - m.x) - m.v ≤ K ∧ -K ≤ 4 * (m.g - m.x) - m.v
theorem beh_next {m : Mo} {W K : Int} (h : Beh m K) (hW : Half W) (hK : 4259840 ≤ K) (hK2 : K ≤ 4300000) : Beh (m.next W) (K + 4) := by
  have h1 := h.v; have h2 := h.b; have h3 := h.g; have hg := gS_half h.g hW
  have hx : -5000000 ≤ m.x ∧ m.x ≤ 5000000 := by unfold Half at h3; omega
  obtain ⟨s, u, a1, a2, a3, a4, a5, a6, a7, a8, a9⟩ := mo_step m W hx h.v
  have hw := gS_way m.g W
  have eg : (m.next W).g = gS m.g W := rfl
  have et : (m.next W).t = tS m.t W := rfl
  refine ⟨?_, by rw [eg]; exact hg, ⟨a6, a7⟩, ?_⟩
  · rw [et, h.t, eg]; unfold Half at hg; unfold tS; unfold clampI; omega
  · rw [← eg] at hw hg
    generalize (m.next W).g = g' at *
    generalize (m.next W).v = v' at *
    generalize (m.next W).x = x' at *
    rcases a3 with ⟨rfl, a3⟩ | ⟨rfl, a3⟩ | a3 <;> omega
theorem beh_near {m : Mo} {W K : Int} (h : Beh (m.next W) K) (hK : K ≤ 4300000) : NearM m W := by
  have h1 := h.v; have h2 := h.b; have h3 := h.g
  have hs := @seen_bd (m.next W).x
  have ht := h.t
  unfold NearM Near
  show -2621440 ≤ seen (m.next W).x - (m.next W).t ∧ seen (m.next W).x - (m.next W).t ≤ 2621440
  omega
theorem beh_run {m : Mo} {W : Int} (h : Beh m 4259840) (hW : Half W) : ∀ n : Nat, n ≤ 1000 → Beh (m.run W n) (4259840 + 4 * n)
  | 0, _ => h
  | n + 1, hn => by
    have h1 := beh_next (beh_run h hW n (by omega)) hW (by omega) (by omega)
    have e : (4259840 + 4 * (n : Int)) + 4 = 4259840 + 4 * ((n + 1 : Nat) : Int) := by omega
    rw [e] at h1; exact h1
/-- the goal is there in so many steps -/
theorem goal_run {m : Mo} {W : Int} : ∀ n : Nat, W - (m.run W n).g ≤ max 0 (W - m.g - 131072 * n) ∧ (m.run W n).g - W ≤ max 0 (m.g - W - 131072 * n)
  | 0 => by show W - m.g ≤ _ ∧ m.g - W ≤ _; omega
  | n + 1 => by
    have h := @goal_run m W n
    show W - gS (m.run W n).g W ≤ _ ∧ gS (m.run W n).g W - W ≤ _
    generalize (m.run W n).g = g at *
    unfold gS clampI; omega
/-- the goal is there, and the deviation is where nothing is clamped -/
structure Lin (m : Mo) (W r : Int) : Prop where
  g : m.g = W
  v : -524288 ≤ m.v ∧ m.v ≤ 524288
  e : m.g - m.x ≤ 1040000 ∧ -1040000 ≤ m.g - m.x
  b : 4 * (m.g - m.x) - m.v ≤ 3932160 ∧ -3932160 ≤ 4 * (m.g - m.x) - m.v
  y1 : 8 * (m.g - m.x) - 3 * m.v ≤ r ∧ -r ≤ 8 * (m.g - m.x) - 3 * m.v
  y2 : 8 * (m.g - m.x) - 11 * m.v ≤ r ∧ -r ≤ 8 * (m.g - m.x) - 11 * m.v
theorem there_next {m : Mo} {W : Int} (h : m.g = W) : (m.next W).g = W := by show gS m.g W = W; rw [h]; exact gS_at W
theorem lin_next {m : Mo} {W r r' : Int} (h : Lin m W r) (hW : Half W) (hr : 852 * r + 2000000 ≤ 1000 * r') : Lin (m.next W) W r' := by
  have h0 := h.g; have h1 := h.v; have h2 := h.e; have h3 := h.b; have h4 := h.y1; have h5 := h.y2
  have hg := there_next h.g
  have hx : -5000000 ≤ m.x ∧ m.x ≤ 5000000 := by unfold Half at hW; omega
  obtain ⟨s, u, a1, a2, a3, a4, a5, a6, a7, a8, a9⟩ := mo_step m W hx h.v
  rw [hg] at a1 a2
  have a3 : 2 * u ≤ s + 1 ∧ s ≤ 2 * u := by omega
  clear hW hx
  refine ⟨hg, ⟨a6, a7⟩, ?_, ?_, ?_, ?_⟩ <;> rw [hg] <;> generalize (m.next W).v = v' at * <;> generalize (m.next W).x = x' at * <;> omega
theorem set_b {m : Mo} {W K : Int} (h : Beh m K) (hW : Half W) (hK : K ≤ 4300000) (hg0 : m.g = W) : (m.next W).g = W ∧ (-524288 ≤ (m.next W).v ∧ (m.next W).v ≤ 524288) ∧ 4 * ((m.next W).g - (m.next W).x) - (m.next W).v ≤ 3932160 ∧ -3932160 ≤ 4 * ((m.next W).g - (m.next W).x) - (m.next W).v := by
  have h1 := h.v; have h2 := h.b
  have hg := there_next hg0
  have hx : -5000000 ≤ m.x ∧ m.x ≤ 5000000 := by unfold Half at hW; omega
  obtain ⟨s, u, a1, a2, a3, a4, a5, a6, a7, a8, a9⟩ := mo_step m W hx h.v
  rw [hg] at a1 a2
  refine ⟨hg, ⟨a6, a7⟩, ?_⟩
  rw [hg]
  clear hW hx hg
  generalize (m.next W).v = v' at *
  generalize (m.next W).x = x' at *
  rcases a3 with ⟨rfl, a3⟩ | ⟨rfl, a3⟩ | a3 <;> omega
theorem set_e {m : Mo} {W : Int} (hg0 : m.g = W) (h1 : -524288 ≤ m.v ∧ m.v ≤ 524288) (h2 : 4 * (m.g - m.x) - m.v ≤ 3932160 ∧ -3932160 ≤ 4 * (m.g - m.x) - m.v) (hW : Half W) : Lin (m.next W) W 15000000 := by
  have hg := there_next hg0
  have hx : -5000000 ≤ m.x ∧ m.x ≤ 5000000 := by unfold Half at hW; omega
  obtain ⟨s, u, a1, a2, a3, a4, a5, a6, a7, a8, a9⟩ := mo_step m W hx h1
  rw [hg] at a1 a2
  clear hW hx
  have key : (W - (m.next W).x ≤ 1040000 ∧ -1040000 ≤ W - (m.next W).x) ∧ 4 * (W - (m.next W).x) - (m.next W).v ≤ 3932160 ∧ -3932160 ≤ 4 * (W - (m.next W).x) - (m.next W).v := by
    clear hg
    generalize (m.next W).v = v' at *
    generalize (m.next W).x = x' at *
    rcases a3 with ⟨rfl, a3⟩ | ⟨rfl, a3⟩ | a3 <;> omega
  refine ⟨hg, ⟨a6, a7⟩, ?_, ?_, ?_, ?_⟩ <;> rw [hg] <;> omega
/-- how far off it may still be -/
def rho : Nat → Int
  | 0 => 15000000
  | n + 1 => (852 * rho n + 2000000) / 1000 + 1
theorem rho_60 : rho 60 ≤ 200000 := by decide +kernel
theorem rho_late : ∀ j, rho (60 + j) ≤ 200000
  | 0 => rho_60
  | j + 1 => by
    have := rho_late j
    show (852 * rho (60 + j) + 2000000) / 1000 + 1 ≤ _
    omega
theorem lin_run {m : Mo} {W : Int} (h : Lin m W 15000000) (hW : Half W) : ∀ n, Lin (m.run W n) W (rho n)
  | 0 => h
  | n + 1 => lin_next (lin_run h hW n) hW (by
    show 852 * rho n + 2000000 ≤ 1000 * ((852 * rho n + 2000000) / 1000 + 1)
    omega)
theorem Mo.run_add (m : Mo) (W : Int) (a : Nat) : ∀ b, m.run W (a + b) = (m.run W a).run W b
  | 0 => rfl
  | b + 1 => by
    show (m.run W (a + b)).next W = ((m.run W a).run W b).next W
    rw [Mo.run_add m W a b]
/-- a whole way -/
theorem way_run {m : Mo} {W : Int} (h : Beh m 4259840) (hW : Half W) :
    (∀ k, k < 900 → NearM (m.run W k) W) ∧ ∀ k, 120 ≤ k → ((m.run W k).x - W ≤ 65536 ∧ -65536 ≤ (m.run W k).x - W) ∧ (k ≤ 900 → Beh (m.run W k) 4259840) := by
  refine ⟨fun k hk => beh_near (beh_run h hW (k + 1) (by omega)) (by omega), fun k hk => ?_⟩
  have hg : (m.run W 50).g = W := by
    have h1 := @goal_run m W 50
    have h2 := h.g
    unfold Half at h2 hW
    omega
  have hb := beh_run h hW 50 (by omega)
  obtain ⟨b1, b2, b3⟩ := set_b hb hW (by omega) hg
  have hl := set_e b1 b2 b3 hW
  obtain ⟨j, hj⟩ : ∃ j, k = 52 + (60 + j) := ⟨k - 112, by omega⟩
  have h1 := lin_run hl hW (60 + j)
  have h2 := rho_late j
  have e : m.run W k = (((m.run W 50).next W).next W).run W (60 + j) := by rw [hj, Mo.run_add m W 52 (60 + j)]; rfl
  rw [← e] at h1
  have g := h1.g; have y1 := h1.y1; have y2 := h1.y2
  refine ⟨by omega, fun hk2 => ?_⟩
  have hq := beh_run h hW k (by omega)
  exact ⟨hq.t, hq.g, hq.v, by omega⟩
def cmdI (q x : Int) : Inp := { calmI with ground := false, cmd := packS 2 0 q [x] }
theorem cmd_calm (q x : Int) : Calm (cmdI q x) := ⟨⟨rfl, rfl, rfl, fun _ _ => rfl⟩, rfl, rfl, rfl⟩
theorem half_in {x : Int} (h : Half x) : In x := by unfold Half In at *; omega
/-- a flying world that is told where to go -/
theorem leg_fly {D : Dyn} {m : Mo} {W0 q W q' : Int} (h : FlyM D m W0 q) (hb : Beh m 4259840) (hW : Half W) (hq : 0 ≤ q' ∧ q' ≤ 255) (hnew : D.lh = false ∨ newB q' q = true) :
    ∀ k, k ≤ 800 → FlyM (itD (frameL nomS D (cmdI q' W)) k) (m.run W (k + 1)) W q' ∧ (itD (frameL nomS D (cmdI q' W)) k).ac = 2 := by
  obtain ⟨n1, n2⟩ := way_run hb hW
  have h0 : FlyM (frameL nomS D (cmdI q' W)) (m.next W) W q' ∧ (frameL nomS D (cmdI q' W)).us = 4 ∧ (frameL nomS D (cmdI q' W)).ac = 2 := fly_cmd h (cmd_calm q' W) rfl hq (half_in hW) hnew (n1 0 (by omega))
  intro k hk
  obtain ⟨h1, h2⟩ := fly_run h0.1 k (fun j hj => by rw [← Mo.run_inn]; exact n1 (j + 1) (by omega))
  rw [Mo.run_inn]
  refine ⟨h1, ?_⟩
  cases k with
  | zero => exact h0.2.2
  | succ k => exact (h2 (by omega)).2
/-- a world that is there, and heard the command k -/
def Arr (D : Dyn) (k : Int) : Prop := ∃ m W0, FlyM D m W0 k ∧ Beh m 4259840 ∧ (D.lh = false ∨ newB (k + 1) k = true)
theorem arr_start : Arr flyD 0 := ⟨⟨0, 0, 0, 0⟩, 0, fly_start.1, ⟨rfl, by unfold Half; decide, by decide, by decide⟩, .inl fly_start.2.1⟩
theorem arr_leg {D D' : Dyn} {k W : Int} (h : Arr D k) (hk : 0 ≤ k ∧ k ≤ 200) (hW : Half W) (hD : frameL nomS D (cmdI (k + 1) W) = D') :
    ((itD D' 150).pos - W ≤ 65536 ∧ -65536 ≤ (itD D' 150).pos - W) ∧ (itD D' 150).lost = false ∧ (itD D' 150).ac = 2 ∧ ((itD D' 151).pos - W ≤ 65536 ∧ -65536 ≤ (itD D' 151).pos - W) ∧ Arr (itD D' 151) (k + 1) := by
  obtain ⟨m, W0, h1, h2, h3⟩ := h
  have hl := leg_fly h1 h2 hW (q' := k + 1) (by omega) h3
  rw [hD] at hl
  obtain ⟨-, hr⟩ := way_run h2 hW
  obtain ⟨a1, a2⟩ := hl 150 (by omega)
  obtain ⟨b1, b2⟩ := hl 151 (by omega)
  refine ⟨?_, a1.heal.lost, a2, ?_, m.run W 152, W, b1, (hr 152 (by omega)).2 (by omega), .inr ?_⟩
  · rw [a1.heal.pos]; exact (hr 151 (by omega)).1
  · rw [b1.heal.pos]; exact (hr 152 (by omega)).1
  · unfold newB; simp only [decide_eq_true_eq]; omega

end Go.Proofs.YtlagmebnjagoaaaGreat
