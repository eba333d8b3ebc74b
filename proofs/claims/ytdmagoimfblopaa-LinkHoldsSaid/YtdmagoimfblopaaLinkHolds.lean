/- LinkHolds: whatever the link and the text are, the law answers true and leaves memory as it was. -/
import Derived.Test.YtdmagoimfblopaaLinkHeard
namespace Go.Proofs.Ytdmagoimfblopaa.linkHolds
open Go.ChangeShapes Go.WideShapes Go.ChangeAt Go.RowKit Go.Proofs.Ytdmagoimfblopaa Go.Proofs.Ytdmagoimfblopaa.Open
set_option linter.unusedVariables false
theorem chk_small {k l q : Int} {n : Nat} {h : Bool} {g d : Int} (hc : linkChk k l q n h g d = 0) : n ≤ 8 ∧ 0 ≤ d ∧ d ≤ 10000 := by
  unfold linkChk at hc
  split at hc
  · omega
  · rename_i h1
    split at hc
    · have := (chk_ok hc).2.2; omega
    · split at hc <;> omega
set_option maxHeartbeats 4000000 in
set_option maxRecDepth 100000 in
theorem same_zero (w : World) :
    Calls Try.prog 23 #[linkV 0 0 0 (.slice none 0 0) false 0 0, linkV 0 0 0 (.slice none 0 0) false 0 0] w fun e w' => e = .returned (.bool true) ∧ Below w.heap.size w w' := by
  go_enter Try.func23, Try.ntmps23
  go_wp2_with fail
  refine (same_yes 0 0 0 _ _ [] _ (.inl ⟨rfl, .inl rfl⟩) (.inl ⟨rfl, .inl rfl⟩) (by decide)).mono ?_
  rintro e1 w1 ⟨rfl, hb1⟩
  have B1 : Below w.heap.size w w1 := by repeat (first | with_reducible exact Below.refl _ _ | ((with_reducible refine Below.setCell ?_ ?_ _); rotate_left; (· first | (simp; done) | omega | (simp; omega))) | with_reducible refine below_drewN ?_ _ | with_reducible refine Below.drew ?_ | ((with_reducible refine Below.trans ?_ (Below.mono hb1 ?_)); rotate_left; (· first | (simp; done) | omega | (simp; omega))) | ((with_reducible refine Below.alloc ?_ ?_ _); rotate_left; (· first | (simp; done) | omega | (simp; omega))) | exact Below.refl _ _ | refine Below.setCell ?_ (by first | (simp; done) | omega | (simp; omega)) _ | refine below_drewN ?_ _ | refine Below.drew ?_ | refine Below.trans ?_ (Below.mono hb1 (by first | (simp; done) | omega | (simp; omega))) | refine Below.alloc ?_ (by first | (simp; done) | omega | (simp; omega)) _)
  have A0 : LinkAt w1 w.heap.size 0 0 0 (.slice none 0 0) false 0 0 := ⟨cell_later hb1 (by go_simp), cell_later hb1 (by go_simp), cell_later hb1 (by go_simp), cell_later hb1 (by go_simp), cell_later hb1 (by go_simp), cell_later hb1 (by go_simp), cell_later hb1 (by go_simp), fun o => by rw [hb1.frozen (by first | (simp; done) | omega | (simp; omega))]; go_simp⟩
  have A1 : LinkAt w1 (w.heap.size + 1) 0 0 0 (.slice none 0 0) false 0 0 := ⟨cell_later hb1 (by go_simp), cell_later hb1 (by go_simp), cell_later hb1 (by go_simp), cell_later hb1 (by go_simp), cell_later hb1 (by go_simp), cell_later hb1 (by go_simp), cell_later hb1 (by go_simp), fun o => by rw [hb1.frozen (by first | (simp; done) | omega | (simp; omega))]; go_simp⟩
  clear hb1
  obtain ⟨c0, c1, c2, c3, c4, c5, c6, cf⟩ := A0
  obtain ⟨g0, g1, g2, g3, g4, g5, g6, gf⟩ := A1
  go_wp2
  go_ret
  exact ⟨ret_bool (by first | rfl | (simp; done)), B1⟩
def NewOk (h : Bool) (g Q q : Int) : Prop := h = false ∨ (h = true ∧ ¬ g < 100) ∨ (h = true ∧ g < 100 ∧ newB Q q = true)
set_option maxHeartbeats 4000000 in
set_option maxRecDepth 100000 in
theorem no (k l q : Int) (a : Option Addr) (ws : List Int) (cap : Nat) (h : Bool) (g d c : Int) (s : ByteArray) (w : World) (hv : IntsAt .i32 w (.slice a ws.length cap) ws) (hn : ws.length ≤ 9223372036854775807) (hk : I64B k) (hl : I64B l) (hc : linkChk k l q ws.length h g d = c) (h0 : c ≠ 0) :
    Calls Try.prog 8 #[linkV k l q (.slice a ws.length cap) h g d, .string s] w fun e w' => e = .returned (.bool true) ∧ Below w.heap.size w w' := by
  have HV := Lib.hid hv; have HC := Lib.hid hc; have H0 := Lib.hid h0
  have dc : (c != 0) = true := by simpa using h0
  have dcc : (c == c) = true := by simp
  clear hv hc h0
  go_enter Try.func8, Try.ntmps8
  go_wp2_with fail
  refine (heard_any _).mono ?_
  rintro e1 w1 ⟨a1, cap1, rfl, hown1, hb1⟩
  have L1 : LinkAt w1 w.heap.size k l q (.slice a ws.length cap) h g d := (link_lit w k l q (.slice a ws.length cap) h g d 44).later hb1 (by simp)
  have B1 : Below w.heap.size w w1 := by repeat (first | with_reducible exact Below.refl _ _ | ((with_reducible refine Below.setCell ?_ ?_ _); rotate_left; (· first | (simp; done) | omega | (simp; omega))) | with_reducible refine below_drewN ?_ _ | with_reducible refine Below.drew ?_ | ((with_reducible refine Below.trans ?_ (Below.mono hb1 ?_)); rotate_left; (· first | (simp; done) | omega | (simp; omega))) | ((with_reducible refine Below.alloc ?_ ?_ _); rotate_left; (· first | (simp; done) | omega | (simp; omega))) | exact Below.refl _ _ | refine Below.setCell ?_ (by first | (simp; done) | omega | (simp; omega)) _ | refine below_drewN ?_ _ | refine Below.drew ?_ | refine Below.trans ?_ (Below.mono hb1 (by first | (simp; done) | omega | (simp; omega))) | refine Below.alloc ?_ (by first | (simp; done) | omega | (simp; omega)) _)
  have HL1 := Lib.hid L1; have HB1 := Lib.hid B1
  clear hown1 hb1 B1
  have zz := L1.lt
  obtain ⟨c0, c1, c2, c3, c4, c5, c6, cf⟩ := L1
  go_wp2_with fail
  refine (linkHear_no k l q _ ws h g d c s _ (by exact HV.out.later (HB1.out.alloc HB1.out.size _) (Nat.le_refl _)) hn hk hl HC.out H0.out).mono ?_
  rintro e2 w2 ⟨rfl, hb2⟩
  have hz2 := hb2.size
  simp at hz2
  have L2 := (HL1.out.later ((Below.refl w1.heap.size w1).alloc (Nat.le_refl _) _) HL1.out.lt).later hb2 (by have := HL1.out.lt; simp; omega)
  have HL2 := Lib.hid L2
  have HB2 : Hid (Below w.heap.size w w2) := ((HB1.out.alloc HB1.out.size _).trans (hb2.mono (by have := HB1.out.size; simp; omega)) : Below w.heap.size w w2)
  clear c0 c1 c2 c3 c4 c5 c6 cf zz hb2
  have zz := L2.lt
  obtain ⟨c0, c1, c2, c3, c4, c5, c6, cf⟩ := L2
  go_wp2_with fail
  refine (linkCheck_any k l q a ws.length cap h g d _ hk hl hn).mono ?_
  rw [HC.out]
  rintro e3 w3 ⟨rfl, hb3⟩
  have hz3 := hb3.size
  simp at hz3
  have L3 := (HL2.out.later ((Below.refl w2.heap.size w2).alloc (Nat.le_refl _) (.cells #[.int .i64 0, .int .i64 0, .int .u8 0, .slice none 0 0, .bool false, .int .i64 0, .int .i64 0] 44)) HL2.out.lt).later hb3 (by have := HL2.out.lt; simp; omega)
  have LX := (link_lit w2 0 0 0 (.slice none 0 0) false 0 0 44).later hb3 (by simp)
  have HL3 := Lib.hid L3
  have HB3 : Hid (Below w.heap.size w w3) := ((HB2.out.alloc HB2.out.size _).trans (hb3.mono (by have := HB2.out.size; simp; omega)) : Below w.heap.size w w3)
  clear c0 c1 c2 c3 c4 c5 c6 cf zz hb3
  have zz := L3.lt
  have zy := LX.lt
  obtain ⟨c0, c1, c2, c3, c4, c5, c6, cf⟩ := L3
  obtain ⟨g0, g1, g2, g3, g4, g5, g6, gf⟩ := LX
  go_wp2_with fail
  refine (same_zero _).mono ?_
  rintro e4 w4 ⟨rfl, hb4⟩
  have L4 := HL3.out.later hb4 HL3.out.lt
  have HB4 := Lib.hid (HB3.out.trans (hb4.mono HB3.out.size))
  clear c0 c1 c2 c3 c4 c5 c6 cf zz hb4 g0 g1 g2 g3 g4 g5 g6 gf zy
  have zz := L4.lt
  obtain ⟨c0, c1, c2, c3, c4, c5, c6, cf⟩ := L4
  go_wp2_with fail
  refine (linkCheck_any k l q a ws.length cap h g d _ hk hl hn).mono ?_
  rw [HC.out]
  rintro e5 w5 ⟨rfl, hb5⟩
  have HB5 := Lib.hid (HB4.out.trans (hb5.mono HB4.out.size))
  clear hb5
  go_wp2
  go_ret
  exact ⟨ret_bool (by first | rfl | (simp; done)), HB5.out⟩
set_option maxHeartbeats 8000000 in
set_option maxRecDepth 100000 in
theorem yes_err (k l q : Int) (a : Option Addr) (ws : List Int) (cap : Nat) (h : Bool) (g d : Int) (s : ByteArray) (w : World) (hv : IntsAt .i32 w (.slice a ws.length cap) ws) (hws : ws.length * 4 ≤ 140737488351232) (hk : I64B k) (hl : I64B l) (hc : linkChk k l q ws.length h g d = 0) (hs : s.size ≤ 140737488351232)
    (K L Q : Int) (WS : List Int) (hq : FrameIs s K L Q WS) (c : Int) (hbad : ReadErr s c) :
    Calls Try.prog 8 #[linkV k l q (.slice a ws.length cap) h g d, .string s] w fun e w' => e = .returned (.bool true) ∧ Below w.heap.size w w' := by
  have hdb := (chk_small hc).2
  have HV := Lib.hid hv; have HC := Lib.hid hc; have HQ := Lib.hid hq
  have hn : ws.length ≤ 9223372036854775807 := by omega
  have HE := Lib.hid hbad
  have hne := hbad.ne
  have dc : (c != 0) = true := by simpa using hne
  have dc2 : (c == 0) = false := by simpa using hne
  have dcc : (c == c) = true := by simp
  have dhh : (h == h) = true := by simp
  have dgg : (g == g) = true := by simp
  clear hv hc hq hbad hne
  rcases (by omega : (d + 1 < 10000) ∨ d = 9999 ∨ d = 10000) with h1 | rfl | rfl
  · have HD : Hid (min 10000 ((d : Int) + 1) = d + 1) := (by omega : min 10000 ((d : Int) + 1) = d + 1)
    have dd1 : (d + 1 == d + 1) = true := by simp
    go_enter Try.func8, Try.ntmps8
    go_wp2_with fail
    refine (heard_any _).mono ?_
    rintro e1 w1 ⟨a1, cap1, rfl, hown1, hb1⟩
    have L1 : LinkAt w1 w.heap.size k l q (.slice a ws.length cap) h g d := (link_lit w k l q (.slice a ws.length cap) h g (d) 44).later hb1 (by simp)
    have B1 : Below w.heap.size w w1 := by repeat (first | with_reducible exact Below.refl _ _ | ((with_reducible refine Below.setCell ?_ ?_ _); rotate_left; (· first | (simp; done) | omega | (simp; omega))) | with_reducible refine below_drewN ?_ _ | with_reducible refine Below.drew ?_ | ((with_reducible refine Below.trans ?_ (Below.mono hb1 ?_)); rotate_left; (· first | (simp; done) | omega | (simp; omega))) | ((with_reducible refine Below.alloc ?_ ?_ _); rotate_left; (· first | (simp; done) | omega | (simp; omega))) | exact Below.refl _ _ | refine Below.setCell ?_ (by first | (simp; done) | omega | (simp; omega)) _ | refine below_drewN ?_ _ | refine Below.drew ?_ | refine Below.trans ?_ (Below.mono hb1 (by first | (simp; done) | omega | (simp; omega))) | refine Below.alloc ?_ (by first | (simp; done) | omega | (simp; omega)) _)
    have HL1 := Lib.hid L1; have HB1 := Lib.hid B1
    clear hown1 hb1 B1
    have zz := L1.lt
    obtain ⟨c0, c1, c2, c3, c4, c5, c6, cf⟩ := L1
    have HB1a := Lib.hid (HB1.out.alloc HB1.out.size (.cells #[.int .i64 1, .int .i64 0, .int .u8 5, .slice a1 1 cap1, .bool true, .int .i64 0, .int .i64 0] 44))
    go_wp2_with fail
    refine (linkHear_bad k l q _ ws h g (d) (d + 1) c s _ (by exact (HV.out.later HB1.out (Nat.le_refl _)).later ((Below.refl w1.heap.size w1).alloc (Nat.le_refl _) _) (Nat.le_refl _)) hws hk hl hs HC.out HD.out K L Q WS HQ.out (.inl HE.out)).mono ?_
    rintro e2 w2 ⟨v2, rfl, hown2, hb2⟩
    obtain ⟨a2, cap2, rfl⟩ := (own_ints'  hown2).len
    have HI2 := Lib.hid (own_ints'  hown2)
    have hz2 := hb2.size
    simp at hz2
    have L2 := (HL1.out.later ((Below.refl w1.heap.size w1).alloc (Nat.le_refl _) (.cells #[.int .i64 1, .int .i64 0, .int .u8 5, .slice a1 1 cap1, .bool true, .int .i64 0, .int .i64 0] 44)) HL1.out.lt).later hb2 (by have := HL1.out.lt; simp; omega)
    have HL2 := Lib.hid L2
    have HB2 := Lib.hid (HB1a.out.trans (hb2.mono HB1a.out.size))
    clear c0 c1 c2 c3 c4 c5 c6 cf zz hb2 hown2
    have zz := L2.lt
    obtain ⟨c0, c1, c2, c3, c4, c5, c6, cf⟩ := L2
    go_wp2_with fail
    refine (linkCheck_any k l q a ws.length cap h g (d) _ hk hl hn).mono ?_
    rw [HC.out]
    rintro e3 w3 ⟨rfl, hb3⟩
    have hz3 := hb3.size
    simp at hz3
    have L3 := (HL2.out.later ((Below.refl w2.heap.size w2).alloc (Nat.le_refl _) (.cells #[.int .i64 k, .int .i64 l, .int .u8 q, .slice a2 ws.length cap2, .bool h, .int .i64 g, .int .i64 (d + 1)] 44)) HL2.out.lt).later hb3 (by have := HL2.out.lt; simp; omega)
    have LX := (link_lit w2 k l q (.slice a2 ws.length cap2) h g (d + 1) 44).later hb3 (by simp)
    have HL3 := Lib.hid L3; have HLX := Lib.hid LX
    have HB3 := Lib.hid ((HB2.out.alloc HB2.out.size (.cells #[.int .i64 k, .int .i64 l, .int .u8 q, .slice a2 ws.length cap2, .bool h, .int .i64 g, .int .i64 (d + 1)] 44)).trans (hb3.mono (by have := HB2.out.size; simp; omega)))
    have HI3 := Lib.hid ((HI2.out.later ((Below.refl w2.heap.size w2).alloc (Nat.le_refl _) (.cells #[.int .i64 k, .int .i64 l, .int .u8 q, .slice a2 ws.length cap2, .bool h, .int .i64 g, .int .i64 (d + 1)] 44)) (Nat.le_refl _)).later hb3 (Nat.le_refl _))
    clear c0 c1 c2 c3 c4 c5 c6 cf zz hb3
    have zz := L3.lt
    have zy := LX.lt
    obtain ⟨c0, c1, c2, c3, c4, c5, c6, cf⟩ := L3
    obtain ⟨g0, g1, g2, g3, g4, g5, g6, gf⟩ := LX
    go_wp2_with fail
    refine (frame_err s hs c HE.out _).mono ?_
    rintro e4 w4 ⟨rfl, hb4⟩
    have hz4 := hb4.size
    have L4 := HL3.out.later hb4 HL3.out.lt
    have LY := HLX.out.later hb4 HLX.out.lt
    have HL4 := Lib.hid L4; have HLY := Lib.hid LY
    have HB4 := Lib.hid (HB3.out.trans (hb4.mono HB3.out.size))
    have HI4 := Lib.hid (HI3.out.later hb4 (Nat.le_refl _))
    clear c0 c1 c2 c3 c4 c5 c6 cf zz hb4 g0 g1 g2 g3 g4 g5 g6 gf zy
    have zz := L4.lt
    have zy := LY.lt
    obtain ⟨c0, c1, c2, c3, c4, c5, c6, cf⟩ := L4
    obtain ⟨g0, g1, g2, g3, g4, g5, g6, gf⟩ := LY
    go_wp2_with fail
    refine (same_yes k l q _ _ ws _ (by exact HI4.out.later ((Below.refl w4.heap.size w4).alloc (Nat.le_refl _) _) (Nat.le_refl _)) (by exact (HV.out.later HB4.out (Nat.le_refl _)).later ((Below.refl w4.heap.size w4).alloc (Nat.le_refl _) _) (Nat.le_refl _)) hn).mono ?_
    rintro e5 w5 ⟨rfl, hb5⟩
    have hz5 := hb5.size
    simp at hz5
    have L5 := (HL4.out.later ((Below.refl w4.heap.size w4).alloc (Nat.le_refl _) (.cells #[.int .i64 0, .int .i64 0, .int .u8 0, .slice none 0 0] 37)) HL4.out.lt).later hb5 (by have := HL4.out.lt; simp; omega)
    have LZ := (HLY.out.later ((Below.refl w4.heap.size w4).alloc (Nat.le_refl _) (.cells #[.int .i64 0, .int .i64 0, .int .u8 0, .slice none 0 0] 37)) HLY.out.lt).later hb5 (by have := HLY.out.lt; simp; omega)
    have HB5 := Lib.hid ((HB4.out.alloc HB4.out.size (.cells #[.int .i64 0, .int .i64 0, .int .u8 0, .slice none 0 0] 37)).trans (hb5.mono (by have := HB4.out.size; simp; omega)))
    clear c0 c1 c2 c3 c4 c5 c6 cf zz hb5 g0 g1 g2 g3 g4 g5 g6 gf zy
    obtain ⟨c0, c1, c2, c3, c4, c5, c6, cf⟩ := L5
    obtain ⟨g0, g1, g2, g3, g4, g5, g6, gf⟩ := LZ
    go_wp2
    go_ret
    exact ⟨ret_bool (by first | rfl | (simp; done)), HB5.out⟩
  · have HD : Hid (min 10000 ((9999 : Int) + 1) = 10000) := (by omega : min 10000 ((9999 : Int) + 1) = 10000)
    go_enter Try.func8, Try.ntmps8
    go_wp2_with fail
    refine (heard_any _).mono ?_
    rintro e1 w1 ⟨a1, cap1, rfl, hown1, hb1⟩
    have L1 : LinkAt w1 w.heap.size k l q (.slice a ws.length cap) h g 9999 := (link_lit w k l q (.slice a ws.length cap) h g (9999) 44).later hb1 (by simp)
    have B1 : Below w.heap.size w w1 := by repeat (first | with_reducible exact Below.refl _ _ | ((with_reducible refine Below.setCell ?_ ?_ _); rotate_left; (· first | (simp; done) | omega | (simp; omega))) | with_reducible refine below_drewN ?_ _ | with_reducible refine Below.drew ?_ | ((with_reducible refine Below.trans ?_ (Below.mono hb1 ?_)); rotate_left; (· first | (simp; done) | omega | (simp; omega))) | ((with_reducible refine Below.alloc ?_ ?_ _); rotate_left; (· first | (simp; done) | omega | (simp; omega))) | exact Below.refl _ _ | refine Below.setCell ?_ (by first | (simp; done) | omega | (simp; omega)) _ | refine below_drewN ?_ _ | refine Below.drew ?_ | refine Below.trans ?_ (Below.mono hb1 (by first | (simp; done) | omega | (simp; omega))) | refine Below.alloc ?_ (by first | (simp; done) | omega | (simp; omega)) _)
    have HL1 := Lib.hid L1; have HB1 := Lib.hid B1
    clear hown1 hb1 B1
    have zz := L1.lt
    obtain ⟨c0, c1, c2, c3, c4, c5, c6, cf⟩ := L1
    have HB1a := Lib.hid (HB1.out.alloc HB1.out.size (.cells #[.int .i64 1, .int .i64 0, .int .u8 5, .slice a1 1 cap1, .bool true, .int .i64 0, .int .i64 0] 44))
    go_wp2_with fail
    refine (linkHear_bad k l q _ ws h g (9999) (10000) c s _ (by exact (HV.out.later HB1.out (Nat.le_refl _)).later ((Below.refl w1.heap.size w1).alloc (Nat.le_refl _) _) (Nat.le_refl _)) hws hk hl hs HC.out HD.out K L Q WS HQ.out (.inl HE.out)).mono ?_
    rintro e2 w2 ⟨v2, rfl, hown2, hb2⟩
    obtain ⟨a2, cap2, rfl⟩ := (own_ints'  hown2).len
    have HI2 := Lib.hid (own_ints'  hown2)
    have hz2 := hb2.size
    simp at hz2
    have L2 := (HL1.out.later ((Below.refl w1.heap.size w1).alloc (Nat.le_refl _) (.cells #[.int .i64 1, .int .i64 0, .int .u8 5, .slice a1 1 cap1, .bool true, .int .i64 0, .int .i64 0] 44)) HL1.out.lt).later hb2 (by have := HL1.out.lt; simp; omega)
    have HL2 := Lib.hid L2
    have HB2 := Lib.hid (HB1a.out.trans (hb2.mono HB1a.out.size))
    clear c0 c1 c2 c3 c4 c5 c6 cf zz hb2 hown2
    have zz := L2.lt
    obtain ⟨c0, c1, c2, c3, c4, c5, c6, cf⟩ := L2
    go_wp2_with fail
    refine (linkCheck_any k l q a ws.length cap h g (9999) _ hk hl hn).mono ?_
    rw [HC.out]
    rintro e3 w3 ⟨rfl, hb3⟩
    have hz3 := hb3.size
    simp at hz3
    have L3 := (HL2.out.later ((Below.refl w2.heap.size w2).alloc (Nat.le_refl _) (.cells #[.int .i64 k, .int .i64 l, .int .u8 q, .slice a2 ws.length cap2, .bool h, .int .i64 g, .int .i64 (10000)] 44)) HL2.out.lt).later hb3 (by have := HL2.out.lt; simp; omega)
    have LX := (link_lit w2 k l q (.slice a2 ws.length cap2) h g (10000) 44).later hb3 (by simp)
    have HL3 := Lib.hid L3; have HLX := Lib.hid LX
    have HB3 := Lib.hid ((HB2.out.alloc HB2.out.size (.cells #[.int .i64 k, .int .i64 l, .int .u8 q, .slice a2 ws.length cap2, .bool h, .int .i64 g, .int .i64 (10000)] 44)).trans (hb3.mono (by have := HB2.out.size; simp; omega)))
    have HI3 := Lib.hid ((HI2.out.later ((Below.refl w2.heap.size w2).alloc (Nat.le_refl _) (.cells #[.int .i64 k, .int .i64 l, .int .u8 q, .slice a2 ws.length cap2, .bool h, .int .i64 g, .int .i64 (10000)] 44)) (Nat.le_refl _)).later hb3 (Nat.le_refl _))
    clear c0 c1 c2 c3 c4 c5 c6 cf zz hb3
    have zz := L3.lt
    have zy := LX.lt
    obtain ⟨c0, c1, c2, c3, c4, c5, c6, cf⟩ := L3
    obtain ⟨g0, g1, g2, g3, g4, g5, g6, gf⟩ := LX
    go_wp2_with fail
    refine (frame_err s hs c HE.out _).mono ?_
    rintro e4 w4 ⟨rfl, hb4⟩
    have hz4 := hb4.size
    have L4 := HL3.out.later hb4 HL3.out.lt
    have LY := HLX.out.later hb4 HLX.out.lt
    have HL4 := Lib.hid L4; have HLY := Lib.hid LY
    have HB4 := Lib.hid (HB3.out.trans (hb4.mono HB3.out.size))
    have HI4 := Lib.hid (HI3.out.later hb4 (Nat.le_refl _))
    clear c0 c1 c2 c3 c4 c5 c6 cf zz hb4 g0 g1 g2 g3 g4 g5 g6 gf zy
    have zz := L4.lt
    have zy := LY.lt
    obtain ⟨c0, c1, c2, c3, c4, c5, c6, cf⟩ := L4
    obtain ⟨g0, g1, g2, g3, g4, g5, g6, gf⟩ := LY
    go_wp2_with fail
    refine (same_yes k l q _ _ ws _ (by exact HI4.out.later ((Below.refl w4.heap.size w4).alloc (Nat.le_refl _) _) (Nat.le_refl _)) (by exact (HV.out.later HB4.out (Nat.le_refl _)).later ((Below.refl w4.heap.size w4).alloc (Nat.le_refl _) _) (Nat.le_refl _)) hn).mono ?_
    rintro e5 w5 ⟨rfl, hb5⟩
    have hz5 := hb5.size
    simp at hz5
    have L5 := (HL4.out.later ((Below.refl w4.heap.size w4).alloc (Nat.le_refl _) (.cells #[.int .i64 0, .int .i64 0, .int .u8 0, .slice none 0 0] 37)) HL4.out.lt).later hb5 (by have := HL4.out.lt; simp; omega)
    have LZ := (HLY.out.later ((Below.refl w4.heap.size w4).alloc (Nat.le_refl _) (.cells #[.int .i64 0, .int .i64 0, .int .u8 0, .slice none 0 0] 37)) HLY.out.lt).later hb5 (by have := HLY.out.lt; simp; omega)
    have HB5 := Lib.hid ((HB4.out.alloc HB4.out.size (.cells #[.int .i64 0, .int .i64 0, .int .u8 0, .slice none 0 0] 37)).trans (hb5.mono (by have := HB4.out.size; simp; omega)))
    clear c0 c1 c2 c3 c4 c5 c6 cf zz hb5 g0 g1 g2 g3 g4 g5 g6 gf zy
    obtain ⟨c0, c1, c2, c3, c4, c5, c6, cf⟩ := L5
    obtain ⟨g0, g1, g2, g3, g4, g5, g6, gf⟩ := LZ
    go_wp2
    go_ret
    exact ⟨ret_bool (by first | rfl | (simp; done)), HB5.out⟩
  · have HD : Hid (min 10000 ((10000 : Int) + 1) = 10000) := (by omega : min 10000 ((10000 : Int) + 1) = 10000)
    go_enter Try.func8, Try.ntmps8
    go_wp2_with fail
    refine (heard_any _).mono ?_
    rintro e1 w1 ⟨a1, cap1, rfl, hown1, hb1⟩
    have L1 : LinkAt w1 w.heap.size k l q (.slice a ws.length cap) h g 10000 := (link_lit w k l q (.slice a ws.length cap) h g (10000) 44).later hb1 (by simp)
    have B1 : Below w.heap.size w w1 := by repeat (first | with_reducible exact Below.refl _ _ | ((with_reducible refine Below.setCell ?_ ?_ _); rotate_left; (· first | (simp; done) | omega | (simp; omega))) | with_reducible refine below_drewN ?_ _ | with_reducible refine Below.drew ?_ | ((with_reducible refine Below.trans ?_ (Below.mono hb1 ?_)); rotate_left; (· first | (simp; done) | omega | (simp; omega))) | ((with_reducible refine Below.alloc ?_ ?_ _); rotate_left; (· first | (simp; done) | omega | (simp; omega))) | exact Below.refl _ _ | refine Below.setCell ?_ (by first | (simp; done) | omega | (simp; omega)) _ | refine below_drewN ?_ _ | refine Below.drew ?_ | refine Below.trans ?_ (Below.mono hb1 (by first | (simp; done) | omega | (simp; omega))) | refine Below.alloc ?_ (by first | (simp; done) | omega | (simp; omega)) _)
    have HL1 := Lib.hid L1; have HB1 := Lib.hid B1
    clear hown1 hb1 B1
    have zz := L1.lt
    obtain ⟨c0, c1, c2, c3, c4, c5, c6, cf⟩ := L1
    have HB1a := Lib.hid (HB1.out.alloc HB1.out.size (.cells #[.int .i64 1, .int .i64 0, .int .u8 5, .slice a1 1 cap1, .bool true, .int .i64 0, .int .i64 0] 44))
    go_wp2_with fail
    refine (linkHear_bad k l q _ ws h g (10000) (10000) c s _ (by exact (HV.out.later HB1.out (Nat.le_refl _)).later ((Below.refl w1.heap.size w1).alloc (Nat.le_refl _) _) (Nat.le_refl _)) hws hk hl hs HC.out HD.out K L Q WS HQ.out (.inl HE.out)).mono ?_
    rintro e2 w2 ⟨v2, rfl, hown2, hb2⟩
    obtain ⟨a2, cap2, rfl⟩ := (own_ints'  hown2).len
    have HI2 := Lib.hid (own_ints'  hown2)
    have hz2 := hb2.size
    simp at hz2
    have L2 := (HL1.out.later ((Below.refl w1.heap.size w1).alloc (Nat.le_refl _) (.cells #[.int .i64 1, .int .i64 0, .int .u8 5, .slice a1 1 cap1, .bool true, .int .i64 0, .int .i64 0] 44)) HL1.out.lt).later hb2 (by have := HL1.out.lt; simp; omega)
    have HL2 := Lib.hid L2
    have HB2 := Lib.hid (HB1a.out.trans (hb2.mono HB1a.out.size))
    clear c0 c1 c2 c3 c4 c5 c6 cf zz hb2 hown2
    have zz := L2.lt
    obtain ⟨c0, c1, c2, c3, c4, c5, c6, cf⟩ := L2
    go_wp2_with fail
    refine (linkCheck_any k l q a ws.length cap h g (10000) _ hk hl hn).mono ?_
    rw [HC.out]
    rintro e3 w3 ⟨rfl, hb3⟩
    have hz3 := hb3.size
    simp at hz3
    have L3 := (HL2.out.later ((Below.refl w2.heap.size w2).alloc (Nat.le_refl _) (.cells #[.int .i64 k, .int .i64 l, .int .u8 q, .slice a2 ws.length cap2, .bool h, .int .i64 g, .int .i64 (10000)] 44)) HL2.out.lt).later hb3 (by have := HL2.out.lt; simp; omega)
    have LX := (link_lit w2 k l q (.slice a2 ws.length cap2) h g (10000) 44).later hb3 (by simp)
    have HL3 := Lib.hid L3; have HLX := Lib.hid LX
    have HB3 := Lib.hid ((HB2.out.alloc HB2.out.size (.cells #[.int .i64 k, .int .i64 l, .int .u8 q, .slice a2 ws.length cap2, .bool h, .int .i64 g, .int .i64 (10000)] 44)).trans (hb3.mono (by have := HB2.out.size; simp; omega)))
    have HI3 := Lib.hid ((HI2.out.later ((Below.refl w2.heap.size w2).alloc (Nat.le_refl _) (.cells #[.int .i64 k, .int .i64 l, .int .u8 q, .slice a2 ws.length cap2, .bool h, .int .i64 g, .int .i64 (10000)] 44)) (Nat.le_refl _)).later hb3 (Nat.le_refl _))
    clear c0 c1 c2 c3 c4 c5 c6 cf zz hb3
    have zz := L3.lt
    have zy := LX.lt
    obtain ⟨c0, c1, c2, c3, c4, c5, c6, cf⟩ := L3
    obtain ⟨g0, g1, g2, g3, g4, g5, g6, gf⟩ := LX
    go_wp2_with fail
    refine (frame_err s hs c HE.out _).mono ?_
    rintro e4 w4 ⟨rfl, hb4⟩
    have hz4 := hb4.size
    have L4 := HL3.out.later hb4 HL3.out.lt
    have LY := HLX.out.later hb4 HLX.out.lt
    have HL4 := Lib.hid L4; have HLY := Lib.hid LY
    have HB4 := Lib.hid (HB3.out.trans (hb4.mono HB3.out.size))
    have HI4 := Lib.hid (HI3.out.later hb4 (Nat.le_refl _))
    clear c0 c1 c2 c3 c4 c5 c6 cf zz hb4 g0 g1 g2 g3 g4 g5 g6 gf zy
    have zz := L4.lt
    have zy := LY.lt
    obtain ⟨c0, c1, c2, c3, c4, c5, c6, cf⟩ := L4
    obtain ⟨g0, g1, g2, g3, g4, g5, g6, gf⟩ := LY
    go_wp2_with fail
    refine (same_yes k l q _ _ ws _ (by exact HI4.out.later ((Below.refl w4.heap.size w4).alloc (Nat.le_refl _) _) (Nat.le_refl _)) (by exact (HV.out.later HB4.out (Nat.le_refl _)).later ((Below.refl w4.heap.size w4).alloc (Nat.le_refl _) _) (Nat.le_refl _)) hn).mono ?_
    rintro e5 w5 ⟨rfl, hb5⟩
    have hz5 := hb5.size
    simp at hz5
    have L5 := (HL4.out.later ((Below.refl w4.heap.size w4).alloc (Nat.le_refl _) (.cells #[.int .i64 0, .int .i64 0, .int .u8 0, .slice none 0 0] 37)) HL4.out.lt).later hb5 (by have := HL4.out.lt; simp; omega)
    have LZ := (HLY.out.later ((Below.refl w4.heap.size w4).alloc (Nat.le_refl _) (.cells #[.int .i64 0, .int .i64 0, .int .u8 0, .slice none 0 0] 37)) HLY.out.lt).later hb5 (by have := HLY.out.lt; simp; omega)
    have HB5 := Lib.hid ((HB4.out.alloc HB4.out.size (.cells #[.int .i64 0, .int .i64 0, .int .u8 0, .slice none 0 0] 37)).trans (hb5.mono (by have := HB4.out.size; simp; omega)))
    clear c0 c1 c2 c3 c4 c5 c6 cf zz hb5 g0 g1 g2 g3 g4 g5 g6 gf zy
    obtain ⟨c0, c1, c2, c3, c4, c5, c6, cf⟩ := L5
    obtain ⟨g0, g1, g2, g3, g4, g5, g6, gf⟩ := LZ
    go_wp2
    go_ret
    exact ⟨ret_bool (by first | rfl | (simp; done)), HB5.out⟩
set_option maxHeartbeats 8000000 in
set_option maxRecDepth 100000 in
theorem yes_stale (k l q : Int) (a : Option Addr) (ws : List Int) (cap : Nat) (g d : Int) (s : ByteArray) (w : World) (hv : IntsAt .i32 w (.slice a ws.length cap) ws) (hws : ws.length * 4 ≤ 140737488351232) (hk : I64B k) (hl : I64B l) (hc : linkChk k l q ws.length true g d = 0) (hs : s.size ≤ 140737488351232)
    (K L Q : Int) (WS : List Int) (hq : FrameIs s K L Q WS) (hok : ReadOk s) (hg : g < 100) (hnew : newB Q q = false) :
    Calls Try.prog 8 #[linkV k l q (.slice a ws.length cap) true g d, .string s] w fun e w' => e = .returned (.bool true) ∧ Below w.heap.size w w' := by
  have hdb := (chk_small hc).2
  have HV := Lib.hid hv; have HC := Lib.hid hc; have HQ := Lib.hid hq
  have hn : ws.length ≤ 9223372036854775807 := by omega
  have HOK := Lib.hid hok; have HN := Lib.hid hnew
  have dgg : (g == g) = true := by simp
  clear hv hc hq hok hnew
  rcases (by omega : (d + 1 < 10000) ∨ d = 9999 ∨ d = 10000) with h1 | rfl | rfl
  · have HD : Hid (min 10000 ((d : Int) + 1) = d + 1) := (by omega : min 10000 ((d : Int) + 1) = d + 1)
    have dd1 : (d + 1 == d + 1) = true := by simp
    go_enter Try.func8, Try.ntmps8
    go_wp2_with fail
    refine (heard_any _).mono ?_
    rintro e1 w1 ⟨a1, cap1, rfl, hown1, hb1⟩
    have L1 : LinkAt w1 w.heap.size k l q (.slice a ws.length cap) true g d := (link_lit w k l q (.slice a ws.length cap) true g (d) 44).later hb1 (by simp)
    have B1 : Below w.heap.size w w1 := by repeat (first | with_reducible exact Below.refl _ _ | ((with_reducible refine Below.setCell ?_ ?_ _); rotate_left; (· first | (simp; done) | omega | (simp; omega))) | with_reducible refine below_drewN ?_ _ | with_reducible refine Below.drew ?_ | ((with_reducible refine Below.trans ?_ (Below.mono hb1 ?_)); rotate_left; (· first | (simp; done) | omega | (simp; omega))) | ((with_reducible refine Below.alloc ?_ ?_ _); rotate_left; (· first | (simp; done) | omega | (simp; omega))) | exact Below.refl _ _ | refine Below.setCell ?_ (by first | (simp; done) | omega | (simp; omega)) _ | refine below_drewN ?_ _ | refine Below.drew ?_ | refine Below.trans ?_ (Below.mono hb1 (by first | (simp; done) | omega | (simp; omega))) | refine Below.alloc ?_ (by first | (simp; done) | omega | (simp; omega)) _)
    have HL1 := Lib.hid L1; have HB1 := Lib.hid B1
    clear hown1 hb1 B1
    have zz := L1.lt
    obtain ⟨c0, c1, c2, c3, c4, c5, c6, cf⟩ := L1
    have HB1a := Lib.hid (HB1.out.alloc HB1.out.size (.cells #[.int .i64 1, .int .i64 0, .int .u8 5, .slice a1 1 cap1, .bool true, .int .i64 0, .int .i64 0] 44))
    go_wp2_with fail
    refine (linkHear_bad k l q _ ws true g (d) (d + 1) 6 s _ (by exact (HV.out.later HB1.out (Nat.le_refl _)).later ((Below.refl w1.heap.size w1).alloc (Nat.le_refl _) _) (Nat.le_refl _)) hws hk hl hs HC.out HD.out K L Q WS HQ.out (.inr ⟨HOK.out, rfl, hg, HN.out, rfl⟩)).mono ?_
    rintro e2 w2 ⟨v2, rfl, hown2, hb2⟩
    obtain ⟨a2, cap2, rfl⟩ := (own_ints'  hown2).len
    have HI2 := Lib.hid (own_ints'  hown2)
    have hz2 := hb2.size
    simp at hz2
    have L2 := (HL1.out.later ((Below.refl w1.heap.size w1).alloc (Nat.le_refl _) (.cells #[.int .i64 1, .int .i64 0, .int .u8 5, .slice a1 1 cap1, .bool true, .int .i64 0, .int .i64 0] 44)) HL1.out.lt).later hb2 (by have := HL1.out.lt; simp; omega)
    have HL2 := Lib.hid L2
    have HB2 := Lib.hid (HB1a.out.trans (hb2.mono HB1a.out.size))
    clear c0 c1 c2 c3 c4 c5 c6 cf zz hb2 hown2
    have zz := L2.lt
    obtain ⟨c0, c1, c2, c3, c4, c5, c6, cf⟩ := L2
    go_wp2_with fail
    refine (linkCheck_any k l q a ws.length cap true g (d) _ hk hl hn).mono ?_
    rw [HC.out]
    rintro e3 w3 ⟨rfl, hb3⟩
    have hz3 := hb3.size
    simp at hz3
    have L3 := (HL2.out.later ((Below.refl w2.heap.size w2).alloc (Nat.le_refl _) (.cells #[.int .i64 k, .int .i64 l, .int .u8 q, .slice a2 ws.length cap2, .bool true, .int .i64 g, .int .i64 (d + 1)] 44)) HL2.out.lt).later hb3 (by have := HL2.out.lt; simp; omega)
    have LX := (link_lit w2 k l q (.slice a2 ws.length cap2) true g (d + 1) 44).later hb3 (by simp)
    have HL3 := Lib.hid L3; have HLX := Lib.hid LX
    have HB3 := Lib.hid ((HB2.out.alloc HB2.out.size (.cells #[.int .i64 k, .int .i64 l, .int .u8 q, .slice a2 ws.length cap2, .bool true, .int .i64 g, .int .i64 (d + 1)] 44)).trans (hb3.mono (by have := HB2.out.size; simp; omega)))
    have HI3 := Lib.hid ((HI2.out.later ((Below.refl w2.heap.size w2).alloc (Nat.le_refl _) (.cells #[.int .i64 k, .int .i64 l, .int .u8 q, .slice a2 ws.length cap2, .bool true, .int .i64 g, .int .i64 (d + 1)] 44)) (Nat.le_refl _)).later hb3 (Nat.le_refl _))
    clear c0 c1 c2 c3 c4 c5 c6 cf zz hb3
    have zz := L3.lt
    have zy := LX.lt
    obtain ⟨c0, c1, c2, c3, c4, c5, c6, cf⟩ := L3
    obtain ⟨g0, g1, g2, g3, g4, g5, g6, gf⟩ := LX
    go_wp2_with fail
    refine (frame_is s HOK.out K L Q WS HQ.out _).mono ?_
    rintro e4 w4 ⟨v4, rfl, hown4, hb4⟩
    obtain ⟨a4, cap4, rfl⟩ := (own_ints' hown4).len
    have HI4' := Lib.hid (own_ints' hown4)
    clear hown4
    have hz4 := hb4.size
    have L4 := HL3.out.later hb4 HL3.out.lt
    have LY := HLX.out.later hb4 HLX.out.lt
    have HL4 := Lib.hid L4; have HLY := Lib.hid LY
    have HB4 := Lib.hid (HB3.out.trans (hb4.mono HB3.out.size))
    have HI4 := Lib.hid (HI3.out.later hb4 (Nat.le_refl _))
    clear c0 c1 c2 c3 c4 c5 c6 cf zz hb4 g0 g1 g2 g3 g4 g5 g6 gf zy
    have zz := L4.lt
    have zy := LY.lt
    obtain ⟨c0, c1, c2, c3, c4, c5, c6, cf⟩ := L4
    obtain ⟨g0, g1, g2, g3, g4, g5, g6, gf⟩ := LY
    go_wp2_with fail
    refine (same_yes k l q _ _ ws _ (by exact HI4.out.later ((Below.refl w4.heap.size w4).alloc (Nat.le_refl _) _) (Nat.le_refl _)) (by exact (HV.out.later HB4.out (Nat.le_refl _)).later ((Below.refl w4.heap.size w4).alloc (Nat.le_refl _) _) (Nat.le_refl _)) hn).mono ?_
    rintro e5 w5 ⟨rfl, hb5⟩
    have hz5 := hb5.size
    simp at hz5
    have L5 := (HL4.out.later ((Below.refl w4.heap.size w4).alloc (Nat.le_refl _) (.cells #[.int .i64 K, .int .i64 L, .int .u8 Q, .slice a4 WS.length cap4] 37)) HL4.out.lt).later hb5 (by have := HL4.out.lt; simp; omega)
    have LZ := (HLY.out.later ((Below.refl w4.heap.size w4).alloc (Nat.le_refl _) (.cells #[.int .i64 K, .int .i64 L, .int .u8 Q, .slice a4 WS.length cap4] 37)) HLY.out.lt).later hb5 (by have := HLY.out.lt; simp; omega)
    have HB5 := Lib.hid ((HB4.out.alloc HB4.out.size (.cells #[.int .i64 K, .int .i64 L, .int .u8 Q, .slice a4 WS.length cap4] 37)).trans (hb5.mono (by have := HB4.out.size; simp; omega)))
    clear c0 c1 c2 c3 c4 c5 c6 cf zz hb5 g0 g1 g2 g3 g4 g5 g6 gf zy
    obtain ⟨c0, c1, c2, c3, c4, c5, c6, cf⟩ := L5
    obtain ⟨g0, g1, g2, g3, g4, g5, g6, gf⟩ := LZ
    go_wp2
    go_ret
    exact ⟨ret_bool (by first | rfl | (simp; done)), HB5.out⟩
  · have HD : Hid (min 10000 ((9999 : Int) + 1) = 10000) := (by omega : min 10000 ((9999 : Int) + 1) = 10000)
    go_enter Try.func8, Try.ntmps8
    go_wp2_with fail
    refine (heard_any _).mono ?_
    rintro e1 w1 ⟨a1, cap1, rfl, hown1, hb1⟩
    have L1 : LinkAt w1 w.heap.size k l q (.slice a ws.length cap) true g 9999 := (link_lit w k l q (.slice a ws.length cap) true g (9999) 44).later hb1 (by simp)
    have B1 : Below w.heap.size w w1 := by repeat (first | with_reducible exact Below.refl _ _ | ((with_reducible refine Below.setCell ?_ ?_ _); rotate_left; (· first | (simp; done) | omega | (simp; omega))) | with_reducible refine below_drewN ?_ _ | with_reducible refine Below.drew ?_ | ((with_reducible refine Below.trans ?_ (Below.mono hb1 ?_)); rotate_left; (· first | (simp; done) | omega | (simp; omega))) | ((with_reducible refine Below.alloc ?_ ?_ _); rotate_left; (· first | (simp; done) | omega | (simp; omega))) | exact Below.refl _ _ | refine Below.setCell ?_ (by first | (simp; done) | omega | (simp; omega)) _ | refine below_drewN ?_ _ | refine Below.drew ?_ | refine Below.trans ?_ (Below.mono hb1 (by first | (simp; done) | omega | (simp; omega))) | refine Below.alloc ?_ (by first | (simp; done) | omega | (simp; omega)) _)
    have HL1 := Lib.hid L1; have HB1 := Lib.hid B1
    clear hown1 hb1 B1
    have zz := L1.lt
    obtain ⟨c0, c1, c2, c3, c4, c5, c6, cf⟩ := L1
    have HB1a := Lib.hid (HB1.out.alloc HB1.out.size (.cells #[.int .i64 1, .int .i64 0, .int .u8 5, .slice a1 1 cap1, .bool true, .int .i64 0, .int .i64 0] 44))
    go_wp2_with fail
    refine (linkHear_bad k l q _ ws true g (9999) (10000) 6 s _ (by exact (HV.out.later HB1.out (Nat.le_refl _)).later ((Below.refl w1.heap.size w1).alloc (Nat.le_refl _) _) (Nat.le_refl _)) hws hk hl hs HC.out HD.out K L Q WS HQ.out (.inr ⟨HOK.out, rfl, hg, HN.out, rfl⟩)).mono ?_
    rintro e2 w2 ⟨v2, rfl, hown2, hb2⟩
    obtain ⟨a2, cap2, rfl⟩ := (own_ints'  hown2).len
    have HI2 := Lib.hid (own_ints'  hown2)
    have hz2 := hb2.size
    simp at hz2
    have L2 := (HL1.out.later ((Below.refl w1.heap.size w1).alloc (Nat.le_refl _) (.cells #[.int .i64 1, .int .i64 0, .int .u8 5, .slice a1 1 cap1, .bool true, .int .i64 0, .int .i64 0] 44)) HL1.out.lt).later hb2 (by have := HL1.out.lt; simp; omega)
    have HL2 := Lib.hid L2
    have HB2 := Lib.hid (HB1a.out.trans (hb2.mono HB1a.out.size))
    clear c0 c1 c2 c3 c4 c5 c6 cf zz hb2 hown2
    have zz := L2.lt
    obtain ⟨c0, c1, c2, c3, c4, c5, c6, cf⟩ := L2
    go_wp2_with fail
    refine (linkCheck_any k l q a ws.length cap true g (9999) _ hk hl hn).mono ?_
    rw [HC.out]
    rintro e3 w3 ⟨rfl, hb3⟩
    have hz3 := hb3.size
    simp at hz3
    have L3 := (HL2.out.later ((Below.refl w2.heap.size w2).alloc (Nat.le_refl _) (.cells #[.int .i64 k, .int .i64 l, .int .u8 q, .slice a2 ws.length cap2, .bool true, .int .i64 g, .int .i64 (10000)] 44)) HL2.out.lt).later hb3 (by have := HL2.out.lt; simp; omega)
    have LX := (link_lit w2 k l q (.slice a2 ws.length cap2) true g (10000) 44).later hb3 (by simp)
    have HL3 := Lib.hid L3; have HLX := Lib.hid LX
    have HB3 := Lib.hid ((HB2.out.alloc HB2.out.size (.cells #[.int .i64 k, .int .i64 l, .int .u8 q, .slice a2 ws.length cap2, .bool true, .int .i64 g, .int .i64 (10000)] 44)).trans (hb3.mono (by have := HB2.out.size; simp; omega)))
    have HI3 := Lib.hid ((HI2.out.later ((Below.refl w2.heap.size w2).alloc (Nat.le_refl _) (.cells #[.int .i64 k, .int .i64 l, .int .u8 q, .slice a2 ws.length cap2, .bool true, .int .i64 g, .int .i64 (10000)] 44)) (Nat.le_refl _)).later hb3 (Nat.le_refl _))
    clear c0 c1 c2 c3 c4 c5 c6 cf zz hb3
    have zz := L3.lt
    have zy := LX.lt
    obtain ⟨c0, c1, c2, c3, c4, c5, c6, cf⟩ := L3
    obtain ⟨g0, g1, g2, g3, g4, g5, g6, gf⟩ := LX
    go_wp2_with fail
    refine (frame_is s HOK.out K L Q WS HQ.out _).mono ?_
    rintro e4 w4 ⟨v4, rfl, hown4, hb4⟩
    obtain ⟨a4, cap4, rfl⟩ := (own_ints' hown4).len
    have HI4' := Lib.hid (own_ints' hown4)
    clear hown4
    have hz4 := hb4.size
    have L4 := HL3.out.later hb4 HL3.out.lt
    have LY := HLX.out.later hb4 HLX.out.lt
    have HL4 := Lib.hid L4; have HLY := Lib.hid LY
    have HB4 := Lib.hid (HB3.out.trans (hb4.mono HB3.out.size))
    have HI4 := Lib.hid (HI3.out.later hb4 (Nat.le_refl _))
    clear c0 c1 c2 c3 c4 c5 c6 cf zz hb4 g0 g1 g2 g3 g4 g5 g6 gf zy
    have zz := L4.lt
    have zy := LY.lt
    obtain ⟨c0, c1, c2, c3, c4, c5, c6, cf⟩ := L4
    obtain ⟨g0, g1, g2, g3, g4, g5, g6, gf⟩ := LY
    go_wp2_with fail
    refine (same_yes k l q _ _ ws _ (by exact HI4.out.later ((Below.refl w4.heap.size w4).alloc (Nat.le_refl _) _) (Nat.le_refl _)) (by exact (HV.out.later HB4.out (Nat.le_refl _)).later ((Below.refl w4.heap.size w4).alloc (Nat.le_refl _) _) (Nat.le_refl _)) hn).mono ?_
    rintro e5 w5 ⟨rfl, hb5⟩
    have hz5 := hb5.size
    simp at hz5
    have L5 := (HL4.out.later ((Below.refl w4.heap.size w4).alloc (Nat.le_refl _) (.cells #[.int .i64 K, .int .i64 L, .int .u8 Q, .slice a4 WS.length cap4] 37)) HL4.out.lt).later hb5 (by have := HL4.out.lt; simp; omega)
    have LZ := (HLY.out.later ((Below.refl w4.heap.size w4).alloc (Nat.le_refl _) (.cells #[.int .i64 K, .int .i64 L, .int .u8 Q, .slice a4 WS.length cap4] 37)) HLY.out.lt).later hb5 (by have := HLY.out.lt; simp; omega)
    have HB5 := Lib.hid ((HB4.out.alloc HB4.out.size (.cells #[.int .i64 K, .int .i64 L, .int .u8 Q, .slice a4 WS.length cap4] 37)).trans (hb5.mono (by have := HB4.out.size; simp; omega)))
    clear c0 c1 c2 c3 c4 c5 c6 cf zz hb5 g0 g1 g2 g3 g4 g5 g6 gf zy
    obtain ⟨c0, c1, c2, c3, c4, c5, c6, cf⟩ := L5
    obtain ⟨g0, g1, g2, g3, g4, g5, g6, gf⟩ := LZ
    go_wp2
    go_ret
    exact ⟨ret_bool (by first | rfl | (simp; done)), HB5.out⟩
  · have HD : Hid (min 10000 ((10000 : Int) + 1) = 10000) := (by omega : min 10000 ((10000 : Int) + 1) = 10000)
    go_enter Try.func8, Try.ntmps8
    go_wp2_with fail
    refine (heard_any _).mono ?_
    rintro e1 w1 ⟨a1, cap1, rfl, hown1, hb1⟩
    have L1 : LinkAt w1 w.heap.size k l q (.slice a ws.length cap) true g 10000 := (link_lit w k l q (.slice a ws.length cap) true g (10000) 44).later hb1 (by simp)
    have B1 : Below w.heap.size w w1 := by repeat (first | with_reducible exact Below.refl _ _ | ((with_reducible refine Below.setCell ?_ ?_ _); rotate_left; (· first | (simp; done) | omega | (simp; omega))) | with_reducible refine below_drewN ?_ _ | with_reducible refine Below.drew ?_ | ((with_reducible refine Below.trans ?_ (Below.mono hb1 ?_)); rotate_left; (· first | (simp; done) | omega | (simp; omega))) | ((with_reducible refine Below.alloc ?_ ?_ _); rotate_left; (· first | (simp; done) | omega | (simp; omega))) | exact Below.refl _ _ | refine Below.setCell ?_ (by first | (simp; done) | omega | (simp; omega)) _ | refine below_drewN ?_ _ | refine Below.drew ?_ | refine Below.trans ?_ (Below.mono hb1 (by first | (simp; done) | omega | (simp; omega))) | refine Below.alloc ?_ (by first | (simp; done) | omega | (simp; omega)) _)
    have HL1 := Lib.hid L1; have HB1 := Lib.hid B1
    clear hown1 hb1 B1
    have zz := L1.lt
    obtain ⟨c0, c1, c2, c3, c4, c5, c6, cf⟩ := L1
    have HB1a := Lib.hid (HB1.out.alloc HB1.out.size (.cells #[.int .i64 1, .int .i64 0, .int .u8 5, .slice a1 1 cap1, .bool true, .int .i64 0, .int .i64 0] 44))
    go_wp2_with fail
    refine (linkHear_bad k l q _ ws true g (10000) (10000) 6 s _ (by exact (HV.out.later HB1.out (Nat.le_refl _)).later ((Below.refl w1.heap.size w1).alloc (Nat.le_refl _) _) (Nat.le_refl _)) hws hk hl hs HC.out HD.out K L Q WS HQ.out (.inr ⟨HOK.out, rfl, hg, HN.out, rfl⟩)).mono ?_
    rintro e2 w2 ⟨v2, rfl, hown2, hb2⟩
    obtain ⟨a2, cap2, rfl⟩ := (own_ints'  hown2).len
    have HI2 := Lib.hid (own_ints'  hown2)
    have hz2 := hb2.size
    simp at hz2
    have L2 := (HL1.out.later ((Below.refl w1.heap.size w1).alloc (Nat.le_refl _) (.cells #[.int .i64 1, .int .i64 0, .int .u8 5, .slice a1 1 cap1, .bool true, .int .i64 0, .int .i64 0] 44)) HL1.out.lt).later hb2 (by have := HL1.out.lt; simp; omega)
    have HL2 := Lib.hid L2
    have HB2 := Lib.hid (HB1a.out.trans (hb2.mono HB1a.out.size))
    clear c0 c1 c2 c3 c4 c5 c6 cf zz hb2 hown2
    have zz := L2.lt
    obtain ⟨c0, c1, c2, c3, c4, c5, c6, cf⟩ := L2
    go_wp2_with fail
    refine (linkCheck_any k l q a ws.length cap true g (10000) _ hk hl hn).mono ?_
    rw [HC.out]
    rintro e3 w3 ⟨rfl, hb3⟩
    have hz3 := hb3.size
    simp at hz3
    have L3 := (HL2.out.later ((Below.refl w2.heap.size w2).alloc (Nat.le_refl _) (.cells #[.int .i64 k, .int .i64 l, .int .u8 q, .slice a2 ws.length cap2, .bool true, .int .i64 g, .int .i64 (10000)] 44)) HL2.out.lt).later hb3 (by have := HL2.out.lt; simp; omega)
    have LX := (link_lit w2 k l q (.slice a2 ws.length cap2) true g (10000) 44).later hb3 (by simp)
    have HL3 := Lib.hid L3; have HLX := Lib.hid LX
    have HB3 := Lib.hid ((HB2.out.alloc HB2.out.size (.cells #[.int .i64 k, .int .i64 l, .int .u8 q, .slice a2 ws.length cap2, .bool true, .int .i64 g, .int .i64 (10000)] 44)).trans (hb3.mono (by have := HB2.out.size; simp; omega)))
    have HI3 := Lib.hid ((HI2.out.later ((Below.refl w2.heap.size w2).alloc (Nat.le_refl _) (.cells #[.int .i64 k, .int .i64 l, .int .u8 q, .slice a2 ws.length cap2, .bool true, .int .i64 g, .int .i64 (10000)] 44)) (Nat.le_refl _)).later hb3 (Nat.le_refl _))
    clear c0 c1 c2 c3 c4 c5 c6 cf zz hb3
    have zz := L3.lt
    have zy := LX.lt
    obtain ⟨c0, c1, c2, c3, c4, c5, c6, cf⟩ := L3
    obtain ⟨g0, g1, g2, g3, g4, g5, g6, gf⟩ := LX
    go_wp2_with fail
    refine (frame_is s HOK.out K L Q WS HQ.out _).mono ?_
    rintro e4 w4 ⟨v4, rfl, hown4, hb4⟩
    obtain ⟨a4, cap4, rfl⟩ := (own_ints' hown4).len
    have HI4' := Lib.hid (own_ints' hown4)
    clear hown4
    have hz4 := hb4.size
    have L4 := HL3.out.later hb4 HL3.out.lt
    have LY := HLX.out.later hb4 HLX.out.lt
    have HL4 := Lib.hid L4; have HLY := Lib.hid LY
    have HB4 := Lib.hid (HB3.out.trans (hb4.mono HB3.out.size))
    have HI4 := Lib.hid (HI3.out.later hb4 (Nat.le_refl _))
    clear c0 c1 c2 c3 c4 c5 c6 cf zz hb4 g0 g1 g2 g3 g4 g5 g6 gf zy
    have zz := L4.lt
    have zy := LY.lt
    obtain ⟨c0, c1, c2, c3, c4, c5, c6, cf⟩ := L4
    obtain ⟨g0, g1, g2, g3, g4, g5, g6, gf⟩ := LY
    go_wp2_with fail
    refine (same_yes k l q _ _ ws _ (by exact HI4.out.later ((Below.refl w4.heap.size w4).alloc (Nat.le_refl _) _) (Nat.le_refl _)) (by exact (HV.out.later HB4.out (Nat.le_refl _)).later ((Below.refl w4.heap.size w4).alloc (Nat.le_refl _) _) (Nat.le_refl _)) hn).mono ?_
    rintro e5 w5 ⟨rfl, hb5⟩
    have hz5 := hb5.size
    simp at hz5
    have L5 := (HL4.out.later ((Below.refl w4.heap.size w4).alloc (Nat.le_refl _) (.cells #[.int .i64 K, .int .i64 L, .int .u8 Q, .slice a4 WS.length cap4] 37)) HL4.out.lt).later hb5 (by have := HL4.out.lt; simp; omega)
    have LZ := (HLY.out.later ((Below.refl w4.heap.size w4).alloc (Nat.le_refl _) (.cells #[.int .i64 K, .int .i64 L, .int .u8 Q, .slice a4 WS.length cap4] 37)) HLY.out.lt).later hb5 (by have := HLY.out.lt; simp; omega)
    have HB5 := Lib.hid ((HB4.out.alloc HB4.out.size (.cells #[.int .i64 K, .int .i64 L, .int .u8 Q, .slice a4 WS.length cap4] 37)).trans (hb5.mono (by have := HB4.out.size; simp; omega)))
    clear c0 c1 c2 c3 c4 c5 c6 cf zz hb5 g0 g1 g2 g3 g4 g5 g6 gf zy
    obtain ⟨c0, c1, c2, c3, c4, c5, c6, cf⟩ := L5
    obtain ⟨g0, g1, g2, g3, g4, g5, g6, gf⟩ := LZ
    go_wp2
    go_ret
    exact ⟨ret_bool (by first | rfl | (simp; done)), HB5.out⟩
set_option maxHeartbeats 8000000 in
set_option maxRecDepth 100000 in
theorem yes_ok (k l q : Int) (a : Option Addr) (ws : List Int) (cap : Nat) (h : Bool) (g d : Int) (s : ByteArray) (w : World) (hv : IntsAt .i32 w (.slice a ws.length cap) ws) (hn : ws.length ≤ 9223372036854775807) (hk : I64B k) (hl : I64B l) (hc : linkChk k l q ws.length h g d = 0)
    (K L Q : Int) (WS : List Int) (hq : FrameIs s K L Q WS) (hW : WS.length ≤ 9223372036854775807) (hok : ReadOk s) (hnew : NewOk h g Q q) :
    Calls Try.prog 8 #[linkV k l q (.slice a ws.length cap) h g d, .string s] w fun e w' => e = .returned (.bool true) ∧ Below w.heap.size w w' := by
  have HV := Lib.hid hv; have HC := Lib.hid hc; have HQ := Lib.hid hq; have HOK := Lib.hid hok; have HN := Lib.hid hnew
  have ddd : (d == d) = true := by simp
  clear hv hc hq hok hnew
  go_enter Try.func8, Try.ntmps8
  go_wp2_with fail
  refine (heard_any _).mono ?_
  rintro e1 w1 ⟨a1, cap1, rfl, hown1, hb1⟩
  have L1 : LinkAt w1 w.heap.size k l q (.slice a ws.length cap) h g d := (link_lit w k l q (.slice a ws.length cap) h g (d) 44).later hb1 (by simp)
  have B1 : Below w.heap.size w w1 := by repeat (first | with_reducible exact Below.refl _ _ | ((with_reducible refine Below.setCell ?_ ?_ _); rotate_left; (· first | (simp; done) | omega | (simp; omega))) | with_reducible refine below_drewN ?_ _ | with_reducible refine Below.drew ?_ | ((with_reducible refine Below.trans ?_ (Below.mono hb1 ?_)); rotate_left; (· first | (simp; done) | omega | (simp; omega))) | ((with_reducible refine Below.alloc ?_ ?_ _); rotate_left; (· first | (simp; done) | omega | (simp; omega))) | exact Below.refl _ _ | refine Below.setCell ?_ (by first | (simp; done) | omega | (simp; omega)) _ | refine below_drewN ?_ _ | refine Below.drew ?_ | refine Below.trans ?_ (Below.mono hb1 (by first | (simp; done) | omega | (simp; omega))) | refine Below.alloc ?_ (by first | (simp; done) | omega | (simp; omega)) _)
  have HL1 := Lib.hid L1; have HB1 := Lib.hid B1
  clear hown1 hb1 B1
  have zz := L1.lt
  obtain ⟨c0, c1, c2, c3, c4, c5, c6, cf⟩ := L1
  have HB1a := Lib.hid (HB1.out.alloc HB1.out.size (.cells #[.int .i64 1, .int .i64 0, .int .u8 5, .slice a1 1 cap1, .bool true, .int .i64 0, .int .i64 0] 44))
  go_wp2_with fail
  refine (linkHear_ok k l q _ ws h g (d) s _ (by exact (HV.out.later HB1.out (Nat.le_refl _)).later ((Below.refl w1.heap.size w1).alloc (Nat.le_refl _) _) (Nat.le_refl _)) hn hk hl HC.out HOK.out K L Q WS HQ.out HN.out).mono ?_
  rintro e2 w2 ⟨v2, rfl, hown2, hb2⟩
  obtain ⟨a2, cap2, rfl⟩ := (own_ints'  hown2).len
  have HI2 := Lib.hid (own_ints'  hown2)
  have hz2 := hb2.size
  simp at hz2
  have L2 := (HL1.out.later ((Below.refl w1.heap.size w1).alloc (Nat.le_refl _) (.cells #[.int .i64 1, .int .i64 0, .int .u8 5, .slice a1 1 cap1, .bool true, .int .i64 0, .int .i64 0] 44)) HL1.out.lt).later hb2 (by have := HL1.out.lt; simp; omega)
  have HL2 := Lib.hid L2
  have HB2 := Lib.hid (HB1a.out.trans (hb2.mono HB1a.out.size))
  clear c0 c1 c2 c3 c4 c5 c6 cf zz hb2 hown2
  have zz := L2.lt
  obtain ⟨c0, c1, c2, c3, c4, c5, c6, cf⟩ := L2
  go_wp2_with fail
  refine (linkCheck_any k l q a ws.length cap h g (d) _ hk hl hn).mono ?_
  rw [HC.out]
  rintro e3 w3 ⟨rfl, hb3⟩
  have hz3 := hb3.size
  simp at hz3
  have L3 := (HL2.out.later ((Below.refl w2.heap.size w2).alloc (Nat.le_refl _) (.cells #[.int .i64 K, .int .i64 L, .int .u8 Q, .slice a2 WS.length cap2, .bool true, .int .i64 0, .int .i64 d] 44)) HL2.out.lt).later hb3 (by have := HL2.out.lt; simp; omega)
  have LX := (link_lit w2 K L Q (.slice a2 WS.length cap2) true 0 d 44).later hb3 (by simp)
  have HL3 := Lib.hid L3; have HLX := Lib.hid LX
  have HB3 := Lib.hid ((HB2.out.alloc HB2.out.size (.cells #[.int .i64 K, .int .i64 L, .int .u8 Q, .slice a2 WS.length cap2, .bool true, .int .i64 0, .int .i64 d] 44)).trans (hb3.mono (by have := HB2.out.size; simp; omega)))
  have HI3 := Lib.hid ((HI2.out.later ((Below.refl w2.heap.size w2).alloc (Nat.le_refl _) (.cells #[.int .i64 K, .int .i64 L, .int .u8 Q, .slice a2 WS.length cap2, .bool true, .int .i64 0, .int .i64 d] 44)) (Nat.le_refl _)).later hb3 (Nat.le_refl _))
  clear c0 c1 c2 c3 c4 c5 c6 cf zz hb3
  have zz := L3.lt
  have zy := LX.lt
  obtain ⟨c0, c1, c2, c3, c4, c5, c6, cf⟩ := L3
  obtain ⟨g0, g1, g2, g3, g4, g5, g6, gf⟩ := LX
  go_wp2_with fail
  refine (frame_is s HOK.out K L Q WS HQ.out _).mono ?_
  rintro e4 w4 ⟨v4, rfl, hown4, hb4⟩
  obtain ⟨a4, cap4, rfl⟩ := (own_ints' hown4).len
  have HI4' := Lib.hid (own_ints' hown4)
  clear hown4
  have hz4 := hb4.size
  have L4 := HL3.out.later hb4 HL3.out.lt
  have LY := HLX.out.later hb4 HLX.out.lt
  have HL4 := Lib.hid L4; have HLY := Lib.hid LY
  have HB4 := Lib.hid (HB3.out.trans (hb4.mono HB3.out.size))
  have HI4 := Lib.hid (HI3.out.later hb4 (Nat.le_refl _))
  clear c0 c1 c2 c3 c4 c5 c6 cf zz hb4 g0 g1 g2 g3 g4 g5 g6 gf zy
  have zz := L4.lt
  have zy := LY.lt
  obtain ⟨c0, c1, c2, c3, c4, c5, c6, cf⟩ := L4
  obtain ⟨g0, g1, g2, g3, g4, g5, g6, gf⟩ := LY
  go_wp2_with fail
  refine (same_yes K L Q _ _ WS _ (by exact HI4.out.later ((Below.refl w4.heap.size w4).alloc (Nat.le_refl _) _) (Nat.le_refl _)) (by exact HI4'.out.later ((Below.refl w4.heap.size w4).alloc (Nat.le_refl _) _) (Nat.le_refl _)) hW).mono ?_
  rintro e5 w5 ⟨rfl, hb5⟩
  have hz5 := hb5.size
  simp at hz5
  have L5 := (HL4.out.later ((Below.refl w4.heap.size w4).alloc (Nat.le_refl _) (.cells #[.int .i64 K, .int .i64 L, .int .u8 Q, .slice a4 WS.length cap4] 37)) HL4.out.lt).later hb5 (by have := HL4.out.lt; simp; omega)
  have LZ := (HLY.out.later ((Below.refl w4.heap.size w4).alloc (Nat.le_refl _) (.cells #[.int .i64 K, .int .i64 L, .int .u8 Q, .slice a4 WS.length cap4] 37)) HLY.out.lt).later hb5 (by have := HLY.out.lt; simp; omega)
  have HB5 := Lib.hid ((HB4.out.alloc HB4.out.size (.cells #[.int .i64 K, .int .i64 L, .int .u8 Q, .slice a4 WS.length cap4] 37)).trans (hb5.mono (by have := HB4.out.size; simp; omega)))
  clear c0 c1 c2 c3 c4 c5 c6 cf zz hb5 g0 g1 g2 g3 g4 g5 g6 gf zy
  obtain ⟨c0, c1, c2, c3, c4, c5, c6, cf⟩ := L5
  obtain ⟨g0, g1, g2, g3, g4, g5, g6, gf⟩ := LZ
  go_wp2
  go_ret
  exact ⟨ret_bool (by first | rfl | (simp; done)), HB5.out⟩
theorem law (k l q : Int) (a : Option Addr) (n cap : Nat) (zs : List Int) (h : Bool) (g d : Int) (s : ByteArray) (w : World) (hk : -9223372036854775808 ≤ k ∧ k ≤ 9223372036854775807) (hl : -9223372036854775808 ≤ l ∧ l ≤ 9223372036854775807) (hq : 0 ≤ q ∧ q ≤ 255) (hz : IsRow .i32 w a n cap zs)
    (hg : -9223372036854775808 ≤ g ∧ g ≤ 9223372036854775807) (hd : -9223372036854775808 ≤ d ∧ d ≤ 9223372036854775807) (hs0 : s.size ≤ maxLen) (hs : s.size ≤ 140737488351232) :
    Calls Try.prog 8 #[linkV k l q (.slice a n cap) h g d, .string s] w fun e w' => e = .returned (.bool true) ∧ Below w.heap.size w w' := by
  obtain ⟨h1, h2⟩ := isRow_ints hz
  have hb := hz.maxLen
  obtain ⟨ws, hws⟩ : ∃ ws, zs.take n = ws := ⟨_, rfl⟩
  rw [hws] at h1 h2
  subst h2
  clear hws
  by_cases hc : linkChk k l q ws.length h g d = 0
  · have h8 := (chk_small hc).1
    rcases read_cases s with hok | ⟨c, herr⟩
    · have hf : FrameIs s (kindI s) (laneI s) (byteI s 1) (wordsI s (byteI s 2)) := ⟨rfl, rfl, rfl, rfl⟩
      have hW : (wordsI s (byteI s 2)).length ≤ 9223372036854775807 := by rw [wordsI_len]; have := byteI_lt s 2; omega
      cases h
      · exact yes_ok k l q a ws cap false g d s w h1 (by omega) hk hl hc _ _ _ _ hf hW hok (.inl rfl)
      · by_cases h3 : g < 100
        · by_cases h4 : newB (byteI s 1) q = true
          · exact yes_ok k l q a ws cap true g d s w h1 (by omega) hk hl hc _ _ _ _ hf hW hok (.inr (.inr ⟨rfl, h3, h4⟩))
          · exact yes_stale k l q a ws cap g d s w h1 (by omega) hk hl hc hs _ _ _ _ hf hok h3 (by simpa using h4)
        · exact yes_ok k l q a ws cap true g d s w h1 (by omega) hk hl hc _ _ _ _ hf hW hok (.inr (.inl ⟨rfl, h3⟩))
    · exact yes_err k l q a ws cap h g d s w h1 (by omega) hk hl hc hs _ _ _ _ ⟨rfl, rfl, rfl, rfl⟩ c herr
  · exact no k l q a ws cap h g d _ s w h1 (by omega) hk hl rfl hc
set_option maxRecDepth 100000 in
theorem lifted (os : Os) (started : os.Started) (H : Type) (enc : TypeId × Value → H) :
    ReturnsInHanded {} Try.checked os 8 .any (Rows.linkHoldsSpec.pre6 enc Try.prog Try.f8 Rows.linkHoldsRow.domain false) (Rows.linkHoldsSpec.post enc Try.prog Try.f8 false true false false) := by
  refine returnsInHanded_of_change_sized (C := Try.checked) own started (by kernel_rfl) Try.func8
    (ChangeSpec.witness6 (enc := enc) (C := Try.checked) false ⟨#[], #[.agg #[.int .i64 0, .int .i64 0, .int .u8 0, .slice none 0 0, .bool false, .int .i64 0, .int .i64 0], .string ByteArray.empty], []⟩ 8 (by kernel_rfl) (by kernel_rfl) (by kernel_rfl) (by kernel_rfl)) ?_
  intro W base args ds gs before hval0 hW hcnd hsz0 _
  have hsz : (DataW.weightsEach Try.prog (Try.f8.params.toList ++ Rows.linkHoldsSpec.plain.varTypes Try.prog) (ds ++ gs)).all (· ≤ reachBytes) = true := hsz0
  have hval : ∀ (j : Nat) t v, Try.f8.params[j]? = some t → args[j]? = some v → Value.okWide Try.prog W .any base t v := hval0
  have hW' := hW
  obtain ⟨p, q, hA0, hV, rfl, hfz, hnd⟩ := hW
  have hA : DataW.TrodAll enc Try.prog W 0 (fun _ => true) true Try.f8.params.toList args.toList ds p := hA0
  rw [Try.params8] at hA hval hsz
  obtain ⟨v0, vs0, d0, ds0, p0, q0, hargs, rfl, rfl, h0, r0⟩ := trodAll_cons hA
  obtain ⟨v1, vs1, d1, ds1, p1, q1, rfl, rfl, rfl, h1, r1⟩ := trodAll_cons r0
  obtain ⟨rfl, rfl, rfl⟩ := trodAll_nil r1
  obtain rfl : args = #[v0, v1] := by cases args; simp_all
  obtain ⟨rfl, rfl⟩ := trodVars_none hV
  have k0 := h0
  have lt0 : ∀ x ∈ p0, x.block < W.heap.size := by obtain ⟨m, hm⟩ := k0; exact DataW.trod_lt m _ _ _ hm
  have k1 := h1
  have lt1 : ∀ x ∈ p1, x.block < W.heap.size := by obtain ⟨m, hm⟩ := k1; exact DataW.trod_lt m _ _ _ hm
  obtain ⟨cs0, rfl, lf0_0⟩ := open_flat 12 [3, 3, 5, 35, 4, 3, 3] (by kernel_rfl) (by kernel_rfl) (by kernel_rfl) (hval 0 44 v0 rfl rfl) h0
  obtain ⟨c0_0, r0_0, rfl, y0_0, lf0_1⟩ := leafs_cons lf0_0
  obtain ⟨a0_0, rfl, w0_0⟩ := leaf_int Try.underlying3 y0_0
  obtain ⟨c0_1, r0_1, rfl, y0_1, lf0_2⟩ := leafs_cons lf0_1
  obtain ⟨a0_1, rfl, w0_1⟩ := leaf_int Try.underlying3 y0_1
  obtain ⟨c0_2, r0_2, rfl, y0_2, lf0_3⟩ := leafs_cons lf0_2
  obtain ⟨a0_2, rfl, w0_2⟩ := leaf_int Try.underlying5 y0_2
  obtain ⟨c0_3, r0_3, rfl, y0_3, lf0_4⟩ := leafs_cons lf0_3
  obtain ⟨a0_3, len0_3, cap0_3, z0_3, rfl, w0_3⟩ := leaf_ints Try.underlying35 Try.underlying21 (by kernel_rfl) y0_3
  obtain ⟨c0_4, r0_4, rfl, y0_4, lf0_5⟩ := leafs_cons lf0_4
  obtain ⟨a0_4, rfl⟩ := leaf_bool Try.underlying4 y0_4
  obtain ⟨c0_5, r0_5, rfl, y0_5, lf0_6⟩ := leafs_cons lf0_5
  obtain ⟨a0_5, rfl, w0_5⟩ := leaf_int Try.underlying3 y0_5
  obtain ⟨c0_6, r0_6, rfl, y0_6, lf0_7⟩ := leafs_cons lf0_6
  obtain ⟨a0_6, rfl, w0_6⟩ := leaf_int Try.underlying3 y0_6
  obtain rfl := leafs_nil lf0_7
  obtain ⟨a1, rfl, rfl, rfl, w1⟩ := Go.ChangeMaps.open_string Try.underlying9 (hval 1 9 v1 rfl rfl) h1
  have R1 : a1.size ≤ 140737488351232 := by have := sized_string hsz (j := 1) (t := 9) (bytes := a1.data.toList) rfl rfl; simpa [reachBytes] using this
  clear hA0 hval0
  refine (law a0_0 a0_1 a0_2 a0_3 len0_3 cap0_3 z0_3 a0_4 a0_5 a0_6 a1 W (bounds_i64 w0_0) (bounds_i64 w0_1) (bounds_u8 w0_2) w0_3 (bounds_i64 w0_5) (bounds_i64 w0_6) w1 R1).mono fun e W' ⟨he, bel⟩ => ?_
  subst he
  exact ⟨_, rfl, _, _, _, [], _, [], hW', trodAll_mk1 (shut_bool Try.underlying4 _), (trodAll_cons_mk (Below.trod laidOut (by kernel_rfl) (of_decide_eq_true (by kernel_rfl)) k0 bel lt0) (trodAll_cons_mk (Below.trod laidOut (by kernel_rfl) (of_decide_eq_true (by kernel_rfl)) k1 bel lt1) trodAll_mk0)), rfl, bel.frame _, fun h => by cases h⟩
theorem over : Rows.linkHoldsRow.holds Try.pinned (OpenSpec.ofChange Rows.linkHoldsSpec) :=
  OpenClaim.holds_of_wide 8 Try.f8 rfl rfl rfl rfl rfl rfl rfl ⟨rfl, rfl, rfl, rfl, rfl⟩ rfl rfl rfl rfl rfl (by kernel_rfl) Try.func8 (by kernel_rfl)
    (of_decide_eq_true (by kernel_rfl)) (by unfold Func.isWrapper; first | (rw [if_pos (by decide +kernel)]; kernel_rfl) | (rw [if_neg (by decide +kernel)]; exact ⟨rfl, rfl⟩))
    (fun os started H enc _ => lifted os started H enc)
theorem proved : Rows.LinkHoldsSaid := over
#print axioms proved

end Go.Proofs.Ytdmagoimfblopaa.linkHolds
