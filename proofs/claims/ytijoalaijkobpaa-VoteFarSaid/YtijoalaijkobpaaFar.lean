/- What vote.Far and vote.Spread compute. -/
import Derived.Test.YtijoalaijkobpaaMid64
import Derived.Test.YtijoalaijkobpaaRecs
import Derived.Laws.MakeOwn
namespace Go.Proofs.Ytijoalaijkobpaa
open Go.ChangeShapes Go.WideShapes Go.ChangeAt Go.RowKit
set_option linter.unusedVariables false

set_option maxHeartbeats 2000000 in
theorem index_none (xs : List Bool) (v : Value) (x : Bool) (w : World) (hv : BoolsAt w v xs) (hx : xs.length ≤ 9223372036854775807) (hno : ∀ j, j < xs.length → xs.getD j false ≠ x) :
    Calls Try.prog 36 #[v, .bool x] w fun e w' => e = .returned (.int .i64 (-1)) ∧ w = w' := by
  by_cases h0 : xs = []
  · subst h0
    obtain ⟨a, c, rfl⟩ := hv.len
    clear hv hx hno
    simp only [List.length_nil]
    have hd : ¬ ((0 : Int) < 0) := by omega
    go_enter Try.func36, Try.ntmps36
    go_wp2
    go_loop [8] (fun i => i = .int .i64 0) (fun i => 0)
    case atStart => rfl
    case round =>
      subst hrel
      go_wp2
      go_ret
      exact ⟨rfl, rfl⟩
  · rcases hv with ⟨h1, -⟩ | ⟨h1, b, off, cap, rfl, hl1, hm1, hc⟩
    · exact absurd h1 h0
    have HC := Lib.hid hc
    have HNO := Lib.hid hno
    clear hc h0 hno
    go_enter Try.func36, Try.ntmps36
    go_wp2
    go_loop [8] (fun i => IdxRel false xs x i) (fun i => xs.length - (intOf i).toNat)
    case atStart => exact ⟨0, by omega, rfl, fun j hj => absurd hj (by omega)⟩
    case round =>
      obtain ⟨k, hk, rfl, hsame⟩ := hrel
      have HS := Lib.hid hsame
      clear hsame
      by_cases hlt : k < xs.length
      · have c1 := HC.out k hlt
        obtain ⟨p, hp⟩ : ∃ p, xs.getD k false = p := ⟨_, rfl⟩
        have hpq := HNO.out k hlt
        rw [hp] at c1 hpq
        have d1 : (k : Int) < (xs.length : Int) := by omega
        have dd : (x == p) = false := by cases x <;> cases p <;> simp_all
        have HN : Hid (xs.getD k false ≠ x) := HNO.out k hlt
        clear hp hpq
        go_wp2
        go_round
        case rel => exact ⟨k + 1, by omega, by go_num, IdxRel.step HS.out HN.out⟩
        case measure => simp [intOf]; omega
      · obtain rfl : k = xs.length := by omega
        go_wp2
        go_ret
        exact ⟨rfl, rfl⟩
set_option maxHeartbeats 4000000 in
set_option maxRecDepth 100000 in
theorem contains_none (xs : List Bool) (v : Value) (x : Bool) (w : World) (hv : BoolsAt w v xs) (hx : xs.length ≤ 9223372036854775807) (hno : ∀ j, j < xs.length → xs.getD j false ≠ x) :
    Calls Try.prog 25 #[v, .bool x] w fun e w' => e = .returned (.bool false) ∧ w = w' := by
  have HV := Lib.hid hv; have HNO := Lib.hid hno
  clear hv hno
  go_enter Try.func25, Try.ntmps25
  go_wp2_with fail
  refine (index_none xs v x _ HV.out hx HNO.out).mono ?_
  rintro e1 w1 ⟨rfl, rfl⟩
  go_wp2
  go_ret
  exact ⟨rfl, rfl⟩

def SprRel (xs : List Int) (sl sh sk : Value) : Prop := ∃ (k : Nat) (lo hi : Int), k ≤ xs.length ∧ sk = .int .i64 k ∧ sl = .int .i32 lo ∧ sh = .int .i32 hi ∧ (-2147483648 ≤ lo ∧ lo ≤ 2147483647 ∧ lo ≤ hi) ∧ (-2147483648 ≤ hi ∧ hi ≤ 2147483647) ∧ ∀ j, j < k → lo ≤ xs.getD j 0 ∧ xs.getD j 0 ≤ hi
theorem spr_step {xs : List Int} {k : Nat} {lo hi lo' hi' x : Int} (h : ∀ j, j < k → lo ≤ xs.getD j 0 ∧ xs.getD j 0 ≤ hi) (hx : xs.getD k 0 = x) (h1 : lo' ≤ lo) (h2 : lo' ≤ x) (h3 : hi ≤ hi') (h4 : x ≤ hi') : ∀ j, j < k + 1 → lo' ≤ xs.getD j 0 ∧ xs.getD j 0 ≤ hi' := by
  intro j hj
  by_cases e : j = k
  · subst e; rw [hx]; exact ⟨h2, h4⟩
  · have := h j (by omega); omega
def SprPost (xs : List Int) (w : World) (e : Ending) (w' : World) : Prop := ∃ s : Int, e = .returned (.tuple #[.int .i64 s, .int .i64 0]) ∧ (∃ n, w' = w.drewN n) ∧ ∀ i j, i < xs.length → j < xs.length → xs.getD i 0 - xs.getD j 0 ≤ s
set_option maxHeartbeats 4000000 in
set_option maxRecDepth 100000 in
theorem spread_is (xs : List Int) (v : Value) (w : World) (hv : IntsAt .i32 w v xs) (hx : 0 < xs.length ∧ xs.length ≤ 64) (hb : ∀ j, -2147483648 ≤ xs.getD j 0 ∧ xs.getD j 0 ≤ 2147483647) :
    Calls Try.prog 24 #[v] w (SprPost xs w) := by
  obtain ⟨h0, h64⟩ := hx
  rcases hv with ⟨h1, -⟩ | ⟨h1, b, off, cap, rfl, hl1, hm1, hc⟩
  · rw [h1] at h0; simp at h0
  have HC := Lib.hid hc; have HXB := Lib.hid hb
  have c0 := hc 0 h0
  rw [Nat.add_zero] at c0
  obtain ⟨x0, hx0⟩ : ∃ x, xs.getD 0 0 = x := ⟨_, rfl⟩
  rw [hx0] at c0
  have b0 := hb 0
  rw [hx0] at b0
  have q1 : ((xs.length : Int) == 0) = false := by rw [beq_eq_false_iff_ne]; omega
  have q2 : ¬ (64 : Int) < (xs.length : Int) := by omega
  have q3 : (0 : Int) < (xs.length : Int) := by omega
  clear hc hb hx0
  go_enter Try.func24, Try.ntmps24
  go_wp2
  go_region
  go_wp2
  go_loopw [4, 5, 22] (fun sl sh sk wr => SprRel xs sl sh sk ∧ ∃ n, wr = w.drewN n) (fun _ _ sk _ => xs.length - (intOf sk).toNat)
  case atStart => exact ⟨⟨0, x0, x0, Nat.zero_le _, rfl, rfl, rfl, by omega, b0, fun j hj => absurd hj (Nat.not_lt_zero _)⟩, by first | exact ⟨0, rfl⟩ | exact ⟨1, rfl⟩⟩
  case round =>
    obtain ⟨⟨k, lo, hi, hk, rfl, rfl, rfl, hlo, hhi, hall⟩, n, rfl⟩ := hrel
    have HALL := Lib.hid hall
    clear hall
    by_cases hlt : k < xs.length
    · have c1 := HC.out k hlt
      have xb := HXB.out k
      obtain ⟨x, hx⟩ : ∃ x, xs.getD k 0 = x := ⟨_, rfl⟩
      rw [hx] at c1 xb
      have HX := Lib.hid hx
      have d1 : (k : Int) < (xs.length : Int) := by omega
      clear hx
      by_cases t1 : x < lo
      · by_cases t2 : hi < x
        · omega
        · go_wp2
          all_goals
            go_roundw
            case rel => exact ⟨⟨k + 1, _, _, by omega, by go_num, rfl, rfl, by omega, by omega, spr_step HALL.out HX.out (by omega) (by omega) (by omega) (by omega)⟩, n, rfl⟩
            case measure => simp [intOf]; omega
      · by_cases t2 : hi < x
        · go_wp2
          all_goals
            go_roundw
            case rel => exact ⟨⟨k + 1, _, _, by omega, by go_num, rfl, rfl, by omega, by omega, spr_step HALL.out HX.out (by omega) (by omega) (by omega) (by omega)⟩, n, rfl⟩
            case measure => simp [intOf]; omega
        · go_wp2
          all_goals
            go_roundw
            case rel => exact ⟨⟨k + 1, _, _, by omega, by go_num, rfl, rfl, by omega, by omega, spr_step HALL.out HX.out (by omega) (by omega) (by omega) (by omega)⟩, n, rfl⟩
            case measure => simp [intOf]; omega
    · obtain rfl : k = xs.length := by omega
      go_wp2
      go_ret2
      exact ⟨hi - lo, rfl, ⟨n, rfl⟩, fun i j hi hj => by have := HALL.out i hi; have := HALL.out j hj; omega⟩

def far1 (y : Bool) (x mid most : Int) : Bool := y && (decide (most < x - mid) || decide (most < -(x - mid)))
def farK (xs : List Int) (oks : List Bool) (mid most : Int) : Nat → List Bool
  | 0 => []
  | k + 1 => farK xs oks mid most k ++ [far1 (oks.getD k false) (xs.getD k 0) mid most]
theorem farK_len (xs : List Int) (oks : List Bool) (mid most : Int) (k : Nat) : (farK xs oks mid most k).length = k := by
  induction k with
  | zero => rfl
  | succ k ih => simp [farK, ih]
theorem farK_at (xs : List Int) (oks : List Bool) (mid most : Int) (n k : Nat) (h : k < n) : (farK xs oks mid most n).getD k false = far1 (oks.getD k false) (xs.getD k 0) mid most := by
  induction n with
  | zero => omega
  | succ n ih =>
    rw [farK, List.getD_eq_getElem?_getD]
    by_cases e : k = n
    · subst e
      rw [List.getElem?_append_right (by rw [farK_len]; exact Nat.le_refl _), farK_len]
      simp
    · rw [List.getElem?_append_left (by rw [farK_len]; omega), ← List.getD_eq_getElem?_getD]
      exact ih (by omega)
theorem infoFB : (Try.prog.info? 4).map (fun i => (i.zero, i.size, i.bytes)) = some (some (.bool false), 1, 1) := by kernel_rfl
def FarRel (w0 : World) (xs : List Int) (oks : List Bool) (mid most : Int) (T : TypeId) (sk : Value) (w : World) : Prop := ∃ k : Nat, k ≤ xs.length ∧ sk = .int .i64 k ∧ BoolBlk w w0.heap.size T xs.length (farK xs oks mid most k) ∧ Below w0.heap.size w0 w
def FarPost (w0 : World) (base : Nat) (xs : List Int) (oks : List Bool) (mid most : Int) (T : TypeId) (e : Ending) (w : World) : Prop := ∃ v, e = .returned (.tuple #[v, .int .i64 0]) ∧ w.ownsRow base T 1 v xs.length ((farK xs oks mid most xs.length).map .bool) ∧ Below base w0 w
set_option maxHeartbeats 8000000 in
set_option maxRecDepth 100000 in
theorem far_is (xs : List Int) (oks : List Bool) (most mid : Int) (v u : Value) (w : World) (hv : IntsAt .i32 w v xs) (hu : BoolsAt w u oks) (hx : xs.length ≤ 9223372036854775807) (hy : oks.length ≤ 9223372036854775807)
    (hve : voteE xs oks = (mid, 0)) (hl : xs.length = oks.length) (h64 : xs.length ≤ 64) (hm : 0 ≤ most ∧ most ≤ 2147483647) (hmid : -2147483648 ≤ mid ∧ mid ≤ 2147483647) (hxb : ∀ j, -2147483648 ≤ xs.getD j 0 ∧ xs.getD j 0 ≤ 2147483647) :
    Calls Try.prog 21 #[v, u, .int .i32 most] w (FarPost w w.heap.size xs oks mid most 4) := by
  have HV := Lib.hid hv; have HU := Lib.hid hu; have HVE := Lib.hid hve; have HL := Lib.hid hl; have HXB := Lib.hid hxb
  obtain ⟨av, cv, rfl⟩ := hv.len
  obtain ⟨au, cu, rfl⟩ := hu.len
  obtain ⟨i0, hi, hz0, hz1, hz2⟩ := info_parts infoFB
  have hmk : ∀ W : World, (Instr.makeSlice 56 (.int .i64 (xs.length : Int)) (.int .i64 (xs.length : Int))).run Try.prog W = .ok (.slice (some ⟨W.heap.size, 0, none⟩) xs.length xs.length) (W.alloc (.cells (madeCells #[.bool false] xs.length) 4)) := by
    intro W
    have := run_make (P := Try.prog) W 56 4 i0 (.bool false) Try.underlying56 hi hz0 .i64 .i64 xs.length xs.length (by omega) (by omega) (by rw [hz2]; omega) (by omega)
    rw [this, hz1]
    simp [Value.cells]
  have hm0 : ¬ most < 0 := by omega
  clear hv hu hve hl hxb hi hz0 hz1 hz2
  go_enter Try.func21, Try.ntmps21
  go_wp2_with fail
  refine (vmid_is xs oks _ _ _ HV.out HU.out hx hy).mono ?_
  rw [HVE.out]
  rintro e w1 ⟨rfl, hb⟩
  have B1 := Lib.hid hb
  have HBLK := Lib.hid (BoolBlk.made w1 4 xs.length)
  have B2 : Hid (Below w1.heap.size w1 (w1.alloc (.cells (madeCells #[.bool false] xs.length) 4))) := (Below.refl w1.heap.size w1).alloc (Nat.le_refl _) _
  clear hb
  go_wp2_with fail
  generalize w1.alloc (.cells (madeCells #[.bool false] xs.length) 4) = w2 at *
  clear hmk
  go_loopw [30] (fun sk wr => FarRel w1 xs oks mid most 4 sk wr) (fun sk _ => xs.length - (intOf sk).toNat)
  case atStart => exact ⟨0, Nat.zero_le _, rfl, HBLK.out, B2.out⟩
  case round =>
    clear HBLK B2
    obtain ⟨k, hk, rfl, hblk, hB⟩ := hrel
    have HBLK := Lib.hid hblk; have HB := Lib.hid hB
    have zG := hblk.lt
    have zB := hB.size
    by_cases hlt : k < xs.length
    · have BB := B1.out.trans (hB.mono B1.out.size)
      rcases (HV.out.later BB (Nat.le_refl _)) with ⟨h0, -⟩ | ⟨-, b1, off, cp, hae, hl1, hm1, hc⟩
      · rw [h0] at hlt; simp at hlt
      rcases (HU.out.later BB (Nat.le_refl _)) with ⟨h0, -⟩ | ⟨-, b2, off2, cp2, hae2, hl2, hm2, hc2⟩
      · have := HL.out; rw [h0, List.length_nil] at this; omega
      simp only [Value.slice.injEq, true_and] at hae hae2
      obtain ⟨rfl, rfl⟩ := hae
      obtain ⟨rfl, rfl⟩ := hae2
      have hlt2 : k < oks.length := by have := HL.out; omega
      have x1 := hc k hlt
      have x2 := hc2 k hlt2
      have xb := HXB.out k
      obtain ⟨x, hxe⟩ : ∃ x, xs.getD k 0 = x := ⟨_, rfl⟩
      obtain ⟨y, hye⟩ : ∃ y, oks.getD k false = y := ⟨_, rfl⟩
      rw [hxe] at x1 xb
      rw [hye] at x2
      have hst : farK xs oks mid most (k + 1) = farK xs oks mid most k ++ [far1 y x mid most] := by rw [farK, hxe, hye]
      have HST := Lib.hid hst
      have d1 : (k : Int) < (xs.length : Int) := by omega
      have d2 : (k : Int) < (oks.length : Int) := by omega
      have ck := hblk.cell k hlt
      have fk := hblk.frozen k
      clear hc hc2 hxe hye hst hblk hB BB
      cases y with
      | false =>
        have E : Hid (far1 false x mid most = false) := (rfl : far1 false x mid most = false)
        go_wp2
        go_roundw
        case rel => exact ⟨k + 1, by omega, by go_num, by rw [HST.out, E.out]; exact HBLK.out.push (farK_len _ _ _ _ _) hlt _, by repeat (first | with_reducible exact Below.refl _ _ | with_reducible exact HB.out | ((with_reducible refine Below.setCell ?_ ?_ _); rotate_left; (· first | (simp; done) | omega | (simp; omega))) | with_reducible refine below_drewN ?_ _ | with_reducible refine Below.drew ?_ | ((with_reducible refine Below.alloc ?_ ?_ _); rotate_left; (· first | (simp; done) | omega | (simp; omega))) | exact Below.refl _ _ | exact HB.out | refine Below.setCell ?_ (by first | (simp; done) | omega | (simp; omega)) _ | refine below_drewN ?_ _ | refine Below.drew ?_ | refine Below.alloc ?_ (by first | (simp; done) | omega | (simp; omega)) _)⟩
        case measure => simp [intOf]; omega
      | true =>
        by_cases t1 : most < x - mid
        · have E : Hid (far1 true x mid most = true) := (by simp [far1, t1] : far1 true x mid most = true)
          go_wp2
          go_roundw
          case rel => exact ⟨k + 1, by omega, by go_num, by rw [HST.out, E.out]; exact HBLK.out.push (farK_len _ _ _ _ _) hlt _, by repeat (first | with_reducible exact Below.refl _ _ | with_reducible exact HB.out | ((with_reducible refine Below.setCell ?_ ?_ _); rotate_left; (· first | (simp; done) | omega | (simp; omega))) | with_reducible refine below_drewN ?_ _ | with_reducible refine Below.drew ?_ | ((with_reducible refine Below.alloc ?_ ?_ _); rotate_left; (· first | (simp; done) | omega | (simp; omega))) | exact Below.refl _ _ | exact HB.out | refine Below.setCell ?_ (by first | (simp; done) | omega | (simp; omega)) _ | refine below_drewN ?_ _ | refine Below.drew ?_ | refine Below.alloc ?_ (by first | (simp; done) | omega | (simp; omega)) _)⟩
          case measure => simp [intOf]; omega
        · by_cases t2 : most < -(x - mid)
          · have E : Hid (far1 true x mid most = true) := (by unfold far1; rw [decide_eq_true t2]; simp : far1 true x mid most = true)
            go_wp2
            go_roundw
            case rel => exact ⟨k + 1, by omega, by go_num, by rw [HST.out, E.out]; exact HBLK.out.push (farK_len _ _ _ _ _) hlt _, by repeat (first | with_reducible exact Below.refl _ _ | with_reducible exact HB.out | ((with_reducible refine Below.setCell ?_ ?_ _); rotate_left; (· first | (simp; done) | omega | (simp; omega))) | with_reducible refine below_drewN ?_ _ | with_reducible refine Below.drew ?_ | ((with_reducible refine Below.alloc ?_ ?_ _); rotate_left; (· first | (simp; done) | omega | (simp; omega))) | exact Below.refl _ _ | exact HB.out | refine Below.setCell ?_ (by first | (simp; done) | omega | (simp; omega)) _ | refine below_drewN ?_ _ | refine Below.drew ?_ | refine Below.alloc ?_ (by first | (simp; done) | omega | (simp; omega)) _)⟩
            case measure => simp [intOf]; omega
          · have E : Hid (far1 true x mid most = false) := (by unfold far1; rw [decide_eq_false t1, decide_eq_false t2]; rfl : far1 true x mid most = false)
            go_wp2
            go_roundw
            case rel => exact ⟨k + 1, by omega, by go_num, by rw [HST.out, E.out]; exact HBLK.out.push (farK_len _ _ _ _ _) hlt _, by repeat (first | with_reducible exact Below.refl _ _ | with_reducible exact HB.out | ((with_reducible refine Below.setCell ?_ ?_ _); rotate_left; (· first | (simp; done) | omega | (simp; omega))) | with_reducible refine below_drewN ?_ _ | with_reducible refine Below.drew ?_ | ((with_reducible refine Below.alloc ?_ ?_ _); rotate_left; (· first | (simp; done) | omega | (simp; omega))) | exact Below.refl _ _ | exact HB.out | refine Below.setCell ?_ (by first | (simp; done) | omega | (simp; omega)) _ | refine below_drewN ?_ _ | refine Below.drew ?_ | refine Below.alloc ?_ (by first | (simp; done) | omega | (simp; omega)) _)⟩
            case measure => simp [intOf]; omega
    · obtain rfl : k = xs.length := by omega
      clear hblk hB
      go_wp2
      go_ret2
      exact ⟨_, rfl, HBLK.out.own (farK_len _ _ _ _ _) B1.out.size (by unfold maxLen; omega), B1.out.trans (HB.out.mono B1.out.size)⟩
def farErr (xs : List Int) (oks : List Bool) (most : Int) : Int := if (voteE xs oks).2 = 0 then (if most < 0 then 1 else 0) else (voteE xs oks).2
set_option maxHeartbeats 8000000 in
set_option maxRecDepth 100000 in
theorem far_not (xs : List Int) (oks : List Bool) (most : Int) (v u : Value) (w : World) (hv : IntsAt .i32 w v xs) (hu : BoolsAt w u oks) (hx : xs.length ≤ 9223372036854775807) (hy : oks.length ≤ 9223372036854775807)
    (h : farErr xs oks most ≠ 0) :
    Calls Try.prog 21 #[v, u, .int .i32 most] w fun e w' => e = .returned (.tuple #[.slice none 0 0, .int .i64 (farErr xs oks most)]) ∧ Below w.heap.size w w' := by
  have HV := Lib.hid hv; have HU := Lib.hid hu
  clear hv hu
  obtain ⟨er, her⟩ : ∃ er, farErr xs oks most = er := ⟨_, rfl⟩
  rw [her] at h ⊢
  obtain ⟨q1, hq1⟩ : ∃ q, (voteE xs oks).1 = q := ⟨_, rfl⟩
  obtain ⟨q2, hq2⟩ : ∃ q, (voteE xs oks).2 = q := ⟨_, rfl⟩
  unfold farErr at her
  rw [hq2] at her
  have hve : voteE xs oks = (q1, q2) := by rw [← hq1, ← hq2]
  have HVE := Lib.hid hve
  clear hq1 hq2 hve
  by_cases h2 : q2 = 0
  · rw [if_pos h2] at her
    subst h2
    by_cases hm : most < 0
    · rw [if_pos hm] at her
      subst her
      go_enter Try.func21, Try.ntmps21
      go_wp2_with fail
      refine (vmid_is xs oks _ _ _ HV.out HU.out hx hy).mono ?_
      rw [HVE.out]
      rintro e w1 ⟨rfl, hb⟩
      have B1 := Lib.hid hb
      clear hb
      go_wp2
      go_ret2
      exact ⟨rfl, B1.out⟩
    · rw [if_neg hm] at her; exact absurd her.symm h
  · rw [if_neg h2] at her
    subst her
    have hne : (q2 != 0) = true := by simpa using h2
    go_enter Try.func21, Try.ntmps21
    go_wp2_with fail
    refine (vmid_is xs oks _ _ _ HV.out HU.out hx hy).mono ?_
    rw [HVE.out]
    rintro e w1 ⟨rfl, hb⟩
    have B1 := Lib.hid hb
    clear hb
    go_wp2
    go_ret2
    exact ⟨rfl, B1.out⟩

end Go.Proofs.Ytijoalaijkobpaa
