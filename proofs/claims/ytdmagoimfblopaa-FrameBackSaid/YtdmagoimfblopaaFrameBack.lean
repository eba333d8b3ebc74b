/- FrameBack: whatever the frame and the text are, the law answers true and leaves memory as it was. -/
import Derived.Test.YtdmagoimfblopaaFrameSame
namespace Go.Proofs.Ytdmagoimfblopaa.frameBack
open Go.ChangeShapes Go.WideShapes Go.ChangeAt Go.RowKit Go.Proofs.Ytdmagoimfblopaa Go.Proofs.Ytdmagoimfblopaa.Open
set_option linter.unusedVariables false
/-- what packing a frame comes to -/
def PackIs (k l q : Int) (ws : List Int) (t : ByteArray) (e : Int) : Prop :=
  (e = 0 ∧ ReadOk t ∧ kindI t = k ∧ laneI t = l ∧ (byteI t 1 : Int) = q ∧ wordsI t (byteI t 2) = ws) ∨ (e ≠ 0 ∧ t = ⟨#[]⟩)
theorem pack_is (k l q : Int) (v : Value) (ws : List Int) (w : World) (hv : IntsAt .i32 w v ws) (hk : -9223372036854775808 ≤ k ∧ k ≤ 9223372036854775807) (hl : -9223372036854775808 ≤ l ∧ l ≤ 9223372036854775807) (hq : 0 ≤ q ∧ q ≤ 255) (hn : ws.length ≤ 9223372036854775807)
    (hws : ∀ x ∈ ws, -2147483648 ≤ x ∧ x ≤ 2147483647) :
    Calls Try.prog 16 #[frameV k l q v] w fun e w' => ∃ t c, e = .returned (.tuple #[.string t, .int .i64 c]) ∧ PackIs k l q ws t c ∧ Below w.heap.size w w' := by
  by_cases hc : frameChk k l (ws.length : Int) = 0
  · obtain ⟨h1, h2, h3⟩ := chk_ok hc
    refine (pack_yes k l q v ws w hv h1 h2 hq h3 hws).mono ?_
    rintro e w' ⟨he, hb⟩
    obtain ⟨p1, p2, p3, p4, p5⟩ := pack_read k l q ws h1 h2 hq h3 hws
    exact ⟨_, _, he, .inl ⟨rfl, p1, p2, p3, p4, p5⟩, hb⟩
  · obtain ⟨a, cap, rfl⟩ := hv.len
    refine (pack_no k l q a ws.length cap w hk hl hn hc).mono ?_
    rintro e w' ⟨he, hb⟩
    exact ⟨_, _, he, .inr ⟨hc, rfl⟩, hb⟩
theorem first_size : (packS 2 3 9 [-1]).size = 9 := pack_size _ _ _ _
theorem first_front : (packS 2 3 9 [-1]).extract 0 3 = ⟨#[35, 9, 1]⟩ := by
  have g := fun i hi => byteI_pack 2 3 9 [-1] (by decide) (by decide) (by decide) (by decide) i hi
  have g0 : (byteI (packS 2 3 9 [-1]) 0 : Int) = 35 := g 0 (by decide)
  have g1 : (byteI (packS 2 3 9 [-1]) 1 : Int) = 9 := g 1 (by decide)
  have g2 : (byteI (packS 2 3 9 [-1]) 2 : Int) = 1 := g 2 (by decide)
  have hs := first_size
  generalize packS 2 3 9 [-1] = s at *
  rw [← strN_bytesN (s.extract 0 3), bytesN_extract]
  have e : (bytesN s).take 3 = [35, 9, 1] := by
    refine List.ext_getElem? fun i => ?_
    rw [List.getElem?_take]
    by_cases hi : i < 3
    · rw [if_pos hi]
      rw [byteI_at s _ (by omega)] at g0 g1 g2
      rcases (by omega : i = 0 ∨ i = 1 ∨ i = 2) with rfl | rfl | rfl <;> rw [bytesN_get s _ (by omega)] <;> simp <;> omega
    · rw [if_neg hi, List.getElem?_eq_none (by simp; omega)]
  rw [e]
  rfl
set_option maxHeartbeats 4000000 in
set_option maxRecDepth 100000 in
theorem law' (k l q : Int) (v : Value) (ws : List Int) (s : ByteArray) (w : World) (hv : IntsAt .i32 w v ws) (hk : -9223372036854775808 ≤ k ∧ k ≤ 9223372036854775807) (hl : -9223372036854775808 ≤ l ∧ l ≤ 9223372036854775807) (hq : 0 ≤ q ∧ q ≤ 255) (hn : ws.length ≤ 9223372036854775807)
    (hws : ∀ x ∈ ws, -2147483648 ≤ x ∧ x ≤ 2147483647) (hs : s.size ≤ 140737488351232) :
    Calls Try.prog 6 #[frameV k l q v, .string s] w fun e w' => e = .returned (.bool true) ∧ Below w.heap.size w w' := by
  have HV := Lib.hid hv; have HWS := Lib.hid hws
  have z0 := first_size
  have f0 := first_front
  obtain ⟨t0, ht0⟩ : ∃ t0, packS 2 3 9 [-1] = t0 := ⟨_, rfl⟩
  rw [ht0] at z0 f0
  have HT0 := Lib.hid ht0
  clear hv hws ht0
  obtain ⟨a, cap, rfl⟩ := HV.out.len
  go_enter Try.func6, Try.ntmps6
  go_wp2_with fail
  refine (pack_yes 2 3 9 _ [-1] _ (.inr ⟨by decide, w.heap.size + 1, 0, 1, rfl, by decide, by decide, fun i hi => ?_⟩) (by decide) (by decide) (by decide) (by decide) (by decide)).mono ?_
  · obtain rfl : i = 0 := by simp at hi; omega
    show World.cell? _ _ = some (.int .i32 (-1)); go_simp
  rw [HT0.out]
  rintro e1 w1 ⟨rfl, hb1⟩
  have z1 := hb1.size
  try simp at z1
  have B1 : Below w.heap.size w w1 := by repeat (first | with_reducible exact Below.refl _ _ | ((with_reducible refine Below.setCell ?_ ?_ _); rotate_left; (· first | (simp; done) | omega | (simp; omega))) | with_reducible refine below_drewN ?_ _ | with_reducible refine Below.drew ?_ | ((with_reducible refine Below.trans ?_ (Below.mono hb1 ?_)); rotate_left; (· first | (simp; done) | omega | (simp; omega))) | ((with_reducible refine Below.alloc ?_ ?_ _); rotate_left; (· first | (simp; done) | omega | (simp; omega))) | exact Below.refl _ _ | refine Below.setCell ?_ (by first | (simp; done) | omega | (simp; omega)) _ | refine below_drewN ?_ _ | refine Below.drew ?_ | refine Below.trans ?_ (Below.mono hb1 (by first | (simp; done) | omega | (simp; omega))) | refine Below.alloc ?_ (by first | (simp; done) | omega | (simp; omega)) _)
  obtain ⟨chb, fhb⟩ := Open.bcell hb1
  have x0 : w1.cell? ⟨w.heap.size, 0, none⟩ = some (.int .i64 k) := by rw [chb _ _ (by first | (simp; done) | omega | (simp; omega))]; go_simp
  have x1 : w1.cell? ⟨w.heap.size, 1, none⟩ = some (.int .i64 l) := by rw [chb _ _ (by first | (simp; done) | omega | (simp; omega))]; go_simp
  have x2 : w1.cell? ⟨w.heap.size, 2, none⟩ = some (.int .u8 q) := by rw [chb _ _ (by first | (simp; done) | omega | (simp; omega))]; go_simp
  have x3 : w1.cell? ⟨w.heap.size, 3, none⟩ = some (.slice a ws.length cap) := by rw [chb _ _ (by first | (simp; done) | omega | (simp; omega))]; go_simp
  have fx : ∀ o, w1.frozen? ⟨w.heap.size, o, none⟩ = false := fun o => by rw [fhb _ _ (by first | (simp; done) | omega | (simp; omega))]; go_simp
  clear hb1 chb fhb
  have sz1 : w.heap.size < w1.heap.size := by omega
  go_wp2_with fail
  refine (pack_is k l q _ ws _ (HV.out.later B1 (Nat.le_refl _)) hk hl hq hn HWS.out).mono ?_
  rintro e2 w2 ⟨t, c, rfl, hpk, hb2⟩
  have z2 := hb2.size
  have BB : Below w.heap.size w w2 := by repeat (first | with_reducible exact Below.refl _ _ | with_reducible exact B1 | ((with_reducible refine Below.setCell ?_ ?_ _); rotate_left; (· first | (simp; done) | omega | (simp; omega))) | with_reducible refine below_drewN ?_ _ | with_reducible refine Below.drew ?_ | ((with_reducible refine Below.trans ?_ (Below.mono hb2 ?_)); rotate_left; (· first | (simp; done) | omega | (simp; omega))) | ((with_reducible refine Below.alloc ?_ ?_ _); rotate_left; (· first | (simp; done) | omega | (simp; omega))) | exact Below.refl _ _ | exact B1 | refine Below.setCell ?_ (by first | (simp; done) | omega | (simp; omega)) _ | refine below_drewN ?_ _ | refine Below.drew ?_ | refine Below.trans ?_ (Below.mono hb2 (by first | (simp; done) | omega | (simp; omega))) | refine Below.alloc ?_ (by first | (simp; done) | omega | (simp; omega)) _)
  replace x0 := cell_later hb2 x0
  replace x1 := cell_later hb2 x1
  replace x2 := cell_later hb2 x2
  replace x3 := cell_later hb2 x3
  have HP := Lib.hid hpk
  have sz2 : w.heap.size < w2.heap.size := by omega
  clear hb2 B1 hpk fx
  rcases HP.out with ⟨rfl, hro, e1, e2, e3, e4⟩ | ⟨hc, rfl⟩
  · have HRO := Lib.hid hro; have E4 := Lib.hid e4
    have E1 := Lib.hid e1; have E2 := Lib.hid e2; have E3 := Lib.hid e3
    clear hro e1 e2 e3 e4
    go_wp2_with fail
    refine (frame_ok t HRO.out _).mono ?_
    rw [E1.out, E2.out, E3.out, E4.out]
    rintro e3 w3 ⟨v3, rfl, hown3, hb3⟩
    have z3 := hb3.size
    have B3 : Below w.heap.size w w3 := by repeat (first | with_reducible exact Below.refl _ _ | with_reducible exact BB | ((with_reducible refine Below.setCell ?_ ?_ _); rotate_left; (· first | (simp; done) | omega | (simp; omega))) | with_reducible refine below_drewN ?_ _ | with_reducible refine Below.drew ?_ | ((with_reducible refine Below.trans ?_ (Below.mono hb3 ?_)); rotate_left; (· first | (simp; done) | omega | (simp; omega))) | ((with_reducible refine Below.alloc ?_ ?_ _); rotate_left; (· first | (simp; done) | omega | (simp; omega))) | exact Below.refl _ _ | exact BB | refine Below.setCell ?_ (by first | (simp; done) | omega | (simp; omega)) _ | refine below_drewN ?_ _ | refine Below.drew ?_ | refine Below.trans ?_ (Below.mono hb3 (by first | (simp; done) | omega | (simp; omega))) | refine Below.alloc ?_ (by first | (simp; done) | omega | (simp; omega)) _)
    have HI3 := Lib.hid (own_ints' hown3)
    have hl3 := HI3.out.len
    obtain ⟨a3, cap3, rfl⟩ := hl3
    replace x0 := cell_later hb3 x0
    replace x1 := cell_later hb3 x1
    replace x2 := cell_later hb3 x2
    replace x3 := cell_later hb3 x3
    have sz3 : w.heap.size < w3.heap.size := by omega
    clear hb3 hown3 BB
    go_wp2_with fail
    refine (same_yes k l q _ _ ws _ (by exact (HV.out.later B3 (Nat.le_refl _)).later ((Below.refl w3.heap.size w3).alloc (Nat.le_refl _) _) (Nat.le_refl _)) (by exact HI3.out.later ((Below.refl w3.heap.size w3).alloc (Nat.le_refl _) _) (Nat.le_refl _)) hn).mono ?_
    rintro e6 w6 ⟨rfl, hb6⟩
    have z6 := hb6.size
    try simp at z6
    have BB : Below w.heap.size w w6 := by repeat (first | with_reducible exact Below.refl _ _ | with_reducible exact B3 | ((with_reducible refine Below.setCell ?_ ?_ _); rotate_left; (· first | (simp; done) | omega | (simp; omega))) | with_reducible refine below_drewN ?_ _ | with_reducible refine Below.drew ?_ | ((with_reducible refine Below.trans ?_ (Below.mono hb6 ?_)); rotate_left; (· first | (simp; done) | omega | (simp; omega))) | ((with_reducible refine Below.alloc ?_ ?_ _); rotate_left; (· first | (simp; done) | omega | (simp; omega))) | exact Below.refl _ _ | exact B3 | refine Below.setCell ?_ (by first | (simp; done) | omega | (simp; omega)) _ | refine below_drewN ?_ _ | refine Below.drew ?_ | refine Below.trans ?_ (Below.mono hb6 (by first | (simp; done) | omega | (simp; omega))) | refine Below.alloc ?_ (by first | (simp; done) | omega | (simp; omega)) _)
    clear hb6 B3 x0 x1 x2 x3
    go_wp2_with fail
    rcases read_cases s with hr | ⟨c3, hr⟩
    · have HR := Lib.hid hr
      refine (frame_ok s HR.out _).mono ?_
      rintro e4 w4 ⟨v4, rfl, hown4, hb4⟩
      have z4 := hb4.size
      try simp at z4
      have B4 : Below w.heap.size w w4 := by repeat (first | with_reducible exact Below.refl _ _ | with_reducible exact BB | ((with_reducible refine Below.setCell ?_ ?_ _); rotate_left; (· first | (simp; done) | omega | (simp; omega))) | with_reducible refine below_drewN ?_ _ | with_reducible refine Below.drew ?_ | ((with_reducible refine Below.trans ?_ (Below.mono hb4 ?_)); rotate_left; (· first | (simp; done) | omega | (simp; omega))) | ((with_reducible refine Below.alloc ?_ ?_ _); rotate_left; (· first | (simp; done) | omega | (simp; omega))) | exact Below.refl _ _ | exact BB | refine Below.setCell ?_ (by first | (simp; done) | omega | (simp; omega)) _ | refine below_drewN ?_ _ | refine Below.drew ?_ | refine Below.trans ?_ (Below.mono hb4 (by first | (simp; done) | omega | (simp; omega))) | refine Below.alloc ?_ (by first | (simp; done) | omega | (simp; omega)) _)
      have HI4 := Lib.hid (own_ints' hown4)
      have hl4 := HI4.out.len
      obtain ⟨a4, cap4, rfl⟩ := hl4
      obtain ⟨hk4, hl4, hn4⟩ := chk_ok HR.out.2.2
      have hq4 := byteI_lt s 1
      clear hb4 hown4
      go_wp2_with fail
      refine (pack_yes (kindI s) (laneI s) (byteI s 1) _ (wordsI s (byteI s 2)) _ (by exact HI4.out.later ((Below.refl w4.heap.size w4).alloc (Nat.le_refl _) _) (Nat.le_refl _)) hk4 hl4 (by omega) (by rw [wordsI_len]; exact hn4) (wordsI_bd s _)).mono ?_
      rw [read_pack s HR.out]
      rintro e5 w5 ⟨rfl, hb5⟩
      have B5 : Below w.heap.size w w5 := by repeat (first | with_reducible exact Below.refl _ _ | with_reducible exact B4 | ((with_reducible refine Below.setCell ?_ ?_ _); rotate_left; (· first | (simp; done) | omega | (simp; omega))) | with_reducible refine below_drewN ?_ _ | with_reducible refine Below.drew ?_ | ((with_reducible refine Below.trans ?_ (Below.mono hb5 ?_)); rotate_left; (· first | (simp; done) | omega | (simp; omega))) | ((with_reducible refine Below.alloc ?_ ?_ _); rotate_left; (· first | (simp; done) | omega | (simp; omega))) | exact Below.refl _ _ | exact B4 | refine Below.setCell ?_ (by first | (simp; done) | omega | (simp; omega)) _ | refine below_drewN ?_ _ | refine Below.drew ?_ | refine Below.trans ?_ (Below.mono hb5 (by first | (simp; done) | omega | (simp; omega))) | refine Below.alloc ?_ (by first | (simp; done) | omega | (simp; omega)) _)
      clear hb5
      go_wp2
      go_ret
      exact ⟨ret_bool (by first | rfl | (simp; done)), B5⟩
    · have HR := Lib.hid hr
      have hne := hr.ne
      have d3 : (c3 != 0) = true := by simpa using hne
      clear hr hne
      refine (frame_err s hs c3 HR.out _).mono ?_
      rintro e4 w4 ⟨rfl, hb4⟩
      have z4 := hb4.size
      try simp at z4
      have B4 : Below w.heap.size w w4 := by repeat (first | with_reducible exact Below.refl _ _ | with_reducible exact BB | ((with_reducible refine Below.setCell ?_ ?_ _); rotate_left; (· first | (simp; done) | omega | (simp; omega))) | with_reducible refine below_drewN ?_ _ | with_reducible refine Below.drew ?_ | ((with_reducible refine Below.trans ?_ (Below.mono hb4 ?_)); rotate_left; (· first | (simp; done) | omega | (simp; omega))) | ((with_reducible refine Below.alloc ?_ ?_ _); rotate_left; (· first | (simp; done) | omega | (simp; omega))) | exact Below.refl _ _ | exact BB | refine Below.setCell ?_ (by first | (simp; done) | omega | (simp; omega)) _ | refine below_drewN ?_ _ | refine Below.drew ?_ | refine Below.trans ?_ (Below.mono hb4 (by first | (simp; done) | omega | (simp; omega))) | refine Below.alloc ?_ (by first | (simp; done) | omega | (simp; omega)) _)
      clear hb4
      go_wp2_with fail
      refine (pack_no 0 0 0 none 0 0 _ (by decide) (by decide) (by decide) (by decide)).mono ?_
      rintro e5 w5 ⟨rfl, hb5⟩
      have z5 := hb5.size
      try simp at z5
      have B5 : Below w.heap.size w w5 := by repeat (first | with_reducible exact Below.refl _ _ | with_reducible exact B4 | ((with_reducible refine Below.setCell ?_ ?_ _); rotate_left; (· first | (simp; done) | omega | (simp; omega))) | with_reducible refine below_drewN ?_ _ | with_reducible refine Below.drew ?_ | ((with_reducible refine Below.trans ?_ (Below.mono hb5 ?_)); rotate_left; (· first | (simp; done) | omega | (simp; omega))) | ((with_reducible refine Below.alloc ?_ ?_ _); rotate_left; (· first | (simp; done) | omega | (simp; omega))) | exact Below.refl _ _ | exact B4 | refine Below.setCell ?_ (by first | (simp; done) | omega | (simp; omega)) _ | refine below_drewN ?_ _ | refine Below.drew ?_ | refine Below.trans ?_ (Below.mono hb5 (by first | (simp; done) | omega | (simp; omega))) | refine Below.alloc ?_ (by first | (simp; done) | omega | (simp; omega)) _)
      obtain ⟨chb, fhb⟩ := Open.bcell hb5
      have y0 : w5.cell? ⟨w4.heap.size, 0, none⟩ = some (.int .i64 0) := by rw [chb _ _ (by first | (simp; done) | omega | (simp; omega))]; go_simp
      have y1 : w5.cell? ⟨w4.heap.size, 1, none⟩ = some (.int .i64 0) := by rw [chb _ _ (by first | (simp; done) | omega | (simp; omega))]; go_simp
      have y2 : w5.cell? ⟨w4.heap.size, 2, none⟩ = some (.int .u8 0) := by rw [chb _ _ (by first | (simp; done) | omega | (simp; omega))]; go_simp
      have y3 : w5.cell? ⟨w4.heap.size, 3, none⟩ = some (.slice none 0 0) := by rw [chb _ _ (by first | (simp; done) | omega | (simp; omega))]; go_simp
      have s5 : w4.heap.size < w5.heap.size := by omega
      clear hb5 chb fhb
      go_wp2
      go_ret
      exact ⟨ret_bool (by first | rfl | (simp; done)), B5⟩
  · have dc : (c != 0) = true := by simpa using hc
    have dc2 : (c == 0) = false := by simpa using hc
    clear hc x0 x1 x2 x3
    go_wp2_with fail
    rcases read_cases s with hr | ⟨c3, hr⟩
    · have HR := Lib.hid hr
      refine (frame_ok s HR.out _).mono ?_
      rintro e4 w4 ⟨v4, rfl, hown4, hb4⟩
      have z4 := hb4.size
      try simp at z4
      have B4 : Below w.heap.size w w4 := by repeat (first | with_reducible exact Below.refl _ _ | with_reducible exact BB | ((with_reducible refine Below.setCell ?_ ?_ _); rotate_left; (· first | (simp; done) | omega | (simp; omega))) | with_reducible refine below_drewN ?_ _ | with_reducible refine Below.drew ?_ | ((with_reducible refine Below.trans ?_ (Below.mono hb4 ?_)); rotate_left; (· first | (simp; done) | omega | (simp; omega))) | ((with_reducible refine Below.alloc ?_ ?_ _); rotate_left; (· first | (simp; done) | omega | (simp; omega))) | exact Below.refl _ _ | exact BB | refine Below.setCell ?_ (by first | (simp; done) | omega | (simp; omega)) _ | refine below_drewN ?_ _ | refine Below.drew ?_ | refine Below.trans ?_ (Below.mono hb4 (by first | (simp; done) | omega | (simp; omega))) | refine Below.alloc ?_ (by first | (simp; done) | omega | (simp; omega)) _)
      have HI4 := Lib.hid (own_ints' hown4)
      have hl4 := HI4.out.len
      obtain ⟨a4, cap4, rfl⟩ := hl4
      obtain ⟨hk4, hl4, hn4⟩ := chk_ok HR.out.2.2
      have hq4 := byteI_lt s 1
      clear hb4 hown4
      go_wp2_with fail
      refine (pack_yes (kindI s) (laneI s) (byteI s 1) _ (wordsI s (byteI s 2)) _ (by exact HI4.out.later ((Below.refl w4.heap.size w4).alloc (Nat.le_refl _) _) (Nat.le_refl _)) hk4 hl4 (by omega) (by rw [wordsI_len]; exact hn4) (wordsI_bd s _)).mono ?_
      rw [read_pack s HR.out]
      rintro e5 w5 ⟨rfl, hb5⟩
      have B5 : Below w.heap.size w w5 := by repeat (first | with_reducible exact Below.refl _ _ | with_reducible exact B4 | ((with_reducible refine Below.setCell ?_ ?_ _); rotate_left; (· first | (simp; done) | omega | (simp; omega))) | with_reducible refine below_drewN ?_ _ | with_reducible refine Below.drew ?_ | ((with_reducible refine Below.trans ?_ (Below.mono hb5 ?_)); rotate_left; (· first | (simp; done) | omega | (simp; omega))) | ((with_reducible refine Below.alloc ?_ ?_ _); rotate_left; (· first | (simp; done) | omega | (simp; omega))) | exact Below.refl _ _ | exact B4 | refine Below.setCell ?_ (by first | (simp; done) | omega | (simp; omega)) _ | refine below_drewN ?_ _ | refine Below.drew ?_ | refine Below.trans ?_ (Below.mono hb5 (by first | (simp; done) | omega | (simp; omega))) | refine Below.alloc ?_ (by first | (simp; done) | omega | (simp; omega)) _)
      clear hb5
      go_wp2
      go_ret
      exact ⟨ret_bool (by first | rfl | (simp; done)), B5⟩
    · have HR := Lib.hid hr
      have hne := hr.ne
      have d3 : (c3 != 0) = true := by simpa using hne
      clear hr hne
      refine (frame_err s hs c3 HR.out _).mono ?_
      rintro e4 w4 ⟨rfl, hb4⟩
      have z4 := hb4.size
      try simp at z4
      have B4 : Below w.heap.size w w4 := by repeat (first | with_reducible exact Below.refl _ _ | with_reducible exact BB | ((with_reducible refine Below.setCell ?_ ?_ _); rotate_left; (· first | (simp; done) | omega | (simp; omega))) | with_reducible refine below_drewN ?_ _ | with_reducible refine Below.drew ?_ | ((with_reducible refine Below.trans ?_ (Below.mono hb4 ?_)); rotate_left; (· first | (simp; done) | omega | (simp; omega))) | ((with_reducible refine Below.alloc ?_ ?_ _); rotate_left; (· first | (simp; done) | omega | (simp; omega))) | exact Below.refl _ _ | exact BB | refine Below.setCell ?_ (by first | (simp; done) | omega | (simp; omega)) _ | refine below_drewN ?_ _ | refine Below.drew ?_ | refine Below.trans ?_ (Below.mono hb4 (by first | (simp; done) | omega | (simp; omega))) | refine Below.alloc ?_ (by first | (simp; done) | omega | (simp; omega)) _)
      clear hb4
      go_wp2_with fail
      refine (pack_no 0 0 0 none 0 0 _ (by decide) (by decide) (by decide) (by decide)).mono ?_
      rintro e5 w5 ⟨rfl, hb5⟩
      have z5 := hb5.size
      try simp at z5
      have B5 : Below w.heap.size w w5 := by repeat (first | with_reducible exact Below.refl _ _ | with_reducible exact B4 | ((with_reducible refine Below.setCell ?_ ?_ _); rotate_left; (· first | (simp; done) | omega | (simp; omega))) | with_reducible refine below_drewN ?_ _ | with_reducible refine Below.drew ?_ | ((with_reducible refine Below.trans ?_ (Below.mono hb5 ?_)); rotate_left; (· first | (simp; done) | omega | (simp; omega))) | ((with_reducible refine Below.alloc ?_ ?_ _); rotate_left; (· first | (simp; done) | omega | (simp; omega))) | exact Below.refl _ _ | exact B4 | refine Below.setCell ?_ (by first | (simp; done) | omega | (simp; omega)) _ | refine below_drewN ?_ _ | refine Below.drew ?_ | refine Below.trans ?_ (Below.mono hb5 (by first | (simp; done) | omega | (simp; omega))) | refine Below.alloc ?_ (by first | (simp; done) | omega | (simp; omega)) _)
      obtain ⟨chb, fhb⟩ := Open.bcell hb5
      have y0 : w5.cell? ⟨w4.heap.size, 0, none⟩ = some (.int .i64 0) := by rw [chb _ _ (by first | (simp; done) | omega | (simp; omega))]; go_simp
      have y1 : w5.cell? ⟨w4.heap.size, 1, none⟩ = some (.int .i64 0) := by rw [chb _ _ (by first | (simp; done) | omega | (simp; omega))]; go_simp
      have y2 : w5.cell? ⟨w4.heap.size, 2, none⟩ = some (.int .u8 0) := by rw [chb _ _ (by first | (simp; done) | omega | (simp; omega))]; go_simp
      have y3 : w5.cell? ⟨w4.heap.size, 3, none⟩ = some (.slice none 0 0) := by rw [chb _ _ (by first | (simp; done) | omega | (simp; omega))]; go_simp
      have s5 : w4.heap.size < w5.heap.size := by omega
      clear hb5 chb fhb
      go_wp2
      go_ret
      exact ⟨ret_bool (by first | rfl | (simp; done)), B5⟩
theorem law (k l q : Int) (a : Option Addr) (n cap : Nat) (zs : List Int) (s : ByteArray) (w : World) (hk : -9223372036854775808 ≤ k ∧ k ≤ 9223372036854775807) (hl : -9223372036854775808 ≤ l ∧ l ≤ 9223372036854775807) (hq : 0 ≤ q ∧ q ≤ 255) (hz : IsRow .i32 w a n cap zs) (hs0 : s.size ≤ maxLen) (hs : s.size ≤ 140737488351232) :
    Calls Try.prog 6 #[frameV k l q (.slice a n cap), .string s] w fun e w' => e = .returned (.bool true) ∧ Below w.heap.size w w' := by
  obtain ⟨h1, h2⟩ := isRow_ints hz
  have hb := hz.maxLen
  refine law' k l q _ (zs.take n) s w h1 hk hl hq (by omega) (fun x hx => ?_) hs
  exact isRow_bd hz x (List.mem_of_mem_take hx)
set_option maxRecDepth 100000 in
theorem lifted (os : Os) (started : os.Started) (H : Type) (enc : TypeId × Value → H) :
    ReturnsInHanded {} Try.checked os 6 .any (Rows.frameBackSpec.pre6 enc Try.prog Try.f6 Rows.frameBackRow.domain false) (Rows.frameBackSpec.post enc Try.prog Try.f6 false true false false) := by
  refine returnsInHanded_of_change_sized (C := Try.checked) own started (by kernel_rfl) Try.func6
    (ChangeSpec.witness6 (enc := enc) (C := Try.checked) false ⟨#[], #[.agg #[.int .i64 0, .int .i64 0, .int .u8 0, .slice none 0 0], .string ByteArray.empty], []⟩ 8 (by kernel_rfl) (by kernel_rfl) (by kernel_rfl) (by kernel_rfl)) ?_
  intro W base args ds gs before hval0 hW hcnd hsz0 _
  have hsz : (DataW.weightsEach Try.prog (Try.f6.params.toList ++ Rows.frameBackSpec.plain.varTypes Try.prog) (ds ++ gs)).all (· ≤ reachBytes) = true := hsz0
  have hval : ∀ (j : Nat) t v, Try.f6.params[j]? = some t → args[j]? = some v → Value.okWide Try.prog W .any base t v := hval0
  have hW' := hW
  obtain ⟨p, q, hA0, hV, rfl, hfz, hnd⟩ := hW
  have hA : DataW.TrodAll enc Try.prog W 0 (fun _ => true) true Try.f6.params.toList args.toList ds p := hA0
  rw [Try.params6] at hA hval hsz
  obtain ⟨v0, vs0, d0, ds0, p0, q0, hargs, rfl, rfl, h0, r0⟩ := trodAll_cons hA
  obtain ⟨v1, vs1, d1, ds1, p1, q1, rfl, rfl, rfl, h1, r1⟩ := trodAll_cons r0
  obtain ⟨rfl, rfl, rfl⟩ := trodAll_nil r1
  obtain rfl : args = #[v0, v1] := by cases args; simp_all
  obtain ⟨rfl, rfl⟩ := trodVars_none hV
  have k0 := h0
  have lt0 : ∀ x ∈ p0, x.block < W.heap.size := by obtain ⟨m, hm⟩ := k0; exact DataW.trod_lt m _ _ _ hm
  have k1 := h1
  have lt1 : ∀ x ∈ p1, x.block < W.heap.size := by obtain ⟨m, hm⟩ := k1; exact DataW.trod_lt m _ _ _ hm
  obtain ⟨cs0, rfl, lf0_0⟩ := open_flat 12 [3, 3, 5, 35] (by kernel_rfl) (by kernel_rfl) (by kernel_rfl) (hval 0 37 v0 rfl rfl) h0
  obtain ⟨c0_0, r0_0, rfl, y0_0, lf0_1⟩ := leafs_cons lf0_0
  obtain ⟨a0_0, rfl, w0_0⟩ := leaf_int Try.underlying3 y0_0
  obtain ⟨c0_1, r0_1, rfl, y0_1, lf0_2⟩ := leafs_cons lf0_1
  obtain ⟨a0_1, rfl, w0_1⟩ := leaf_int Try.underlying3 y0_1
  obtain ⟨c0_2, r0_2, rfl, y0_2, lf0_3⟩ := leafs_cons lf0_2
  obtain ⟨a0_2, rfl, w0_2⟩ := leaf_int Try.underlying5 y0_2
  obtain ⟨c0_3, r0_3, rfl, y0_3, lf0_4⟩ := leafs_cons lf0_3
  obtain ⟨a0_3, len0_3, cap0_3, z0_3, rfl, w0_3⟩ := leaf_ints Try.underlying35 Try.underlying21 (by kernel_rfl) y0_3
  obtain rfl := leafs_nil lf0_4
  obtain ⟨a1, rfl, rfl, rfl, w1⟩ := Go.ChangeMaps.open_string Try.underlying9 (hval 1 9 v1 rfl rfl) h1
  have R1 : a1.size ≤ 140737488351232 := by have := sized_string hsz (j := 1) (t := 9) (bytes := a1.data.toList) rfl rfl; simpa [reachBytes] using this
  clear hA0 hval0
  refine (law a0_0 a0_1 a0_2 a0_3 len0_3 cap0_3 z0_3 a1 W (bounds_i64 w0_0) (bounds_i64 w0_1) (bounds_u8 w0_2) w0_3 w1 R1).mono fun e W' ⟨he, bel⟩ => ?_
  subst he
  exact ⟨_, rfl, _, _, _, [], _, [], hW', trodAll_mk1 (shut_bool Try.underlying4 _), (trodAll_cons_mk (Below.trod laidOut (by kernel_rfl) (of_decide_eq_true (by kernel_rfl)) k0 bel lt0) (trodAll_cons_mk (Below.trod laidOut (by kernel_rfl) (of_decide_eq_true (by kernel_rfl)) k1 bel lt1) trodAll_mk0)), rfl, bel.frame _, fun h => by cases h⟩
theorem over : Rows.frameBackRow.holds Try.pinned (OpenSpec.ofChange Rows.frameBackSpec) :=
  OpenClaim.holds_of_wide 6 Try.f6 rfl rfl rfl rfl rfl rfl rfl ⟨rfl, rfl, rfl, rfl, rfl⟩ rfl rfl rfl rfl rfl (by kernel_rfl) Try.func6 (by kernel_rfl)
    (of_decide_eq_true (by kernel_rfl)) (by unfold Func.isWrapper; first | (rw [if_pos (by decide +kernel)]; kernel_rfl) | (rw [if_neg (by decide +kernel)]; exact ⟨rfl, rfl⟩))
    (fun os started H enc _ => lifted os started H enc)
theorem proved : Rows.FrameBackSaid := over
#print axioms proved

end Go.Proofs.Ytdmagoimfblopaa.frameBack
