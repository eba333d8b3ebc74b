/- What the laws on links call: heard. -/
import Derived.Test.YtdmagoimfblopaaLinkHear
namespace Go.Proofs.Ytdmagoimfblopaa
open Go.ChangeShapes Go.WideShapes Go.ChangeAt Go.RowKit
set_option linter.unusedVariables false

theorem pack_frame (k l q : Int) (ws : List Int) (hk : k = 1 ∨ k = 2) (hl : 0 ≤ l ∧ l < 4) (hq : 0 ≤ q ∧ q ≤ 255) (hn : ws.length ≤ 8) (hws : ∀ x ∈ ws, -2147483648 ≤ x ∧ x ≤ 2147483647) :
    ReadOk (packS k l q ws) ∧ FrameIs (packS k l q ws) k l q ws := by
  obtain ⟨h1, h2, h3, h4, h5⟩ := pack_read k l q ws hk hl hq hn hws
  exact ⟨h1, h2, h3, h4, h5⟩
def HeardPost (w : World) (e : Ending) (w' : World) : Prop := ∃ a cap, e = .returned (linkV 1 0 5 (.slice a 1 cap) true 0 0) ∧ w'.ownsRow w.heap.size 21 1 (.slice a 1 cap) 1 [.int .i32 7] ∧ Below w.heap.size w w'
set_option maxHeartbeats 4000000 in
set_option maxRecDepth 100000 in
theorem heard_any (w : World) : Calls Try.prog 19 #[] w (HeardPost w) := by
  obtain ⟨hok, hfr⟩ := pack_frame 1 0 5 [7] (by decide) (by decide) (by decide) (by decide) (by decide)
  obtain ⟨t0, ht0⟩ : ∃ t0, packS 1 0 5 [7] = t0 := ⟨_, rfl⟩
  rw [ht0] at hok hfr
  have HT := Lib.hid ht0; have HOK := Lib.hid hok; have HF := Lib.hid hfr
  have C0 : Hid (linkChk 0 0 0 ([] : List Int).length false 0 0 = 0) := (rfl : linkChk 0 0 0 ([] : List Int).length false 0 0 = 0)
  clear ht0 hok hfr
  go_enter Try.func19, Try.ntmps19
  go_wp2_with fail
  refine (pack_yes 1 0 5 _ [7] _ (.inr ⟨by decide, w.heap.size + 1, 0, 1, rfl, by decide, by decide, fun i hi => ?_⟩) (by decide) (by decide) (by decide) (by decide) (by decide)).mono ?_
  · obtain rfl : i = 0 := by simp at hi; omega
    show World.cell? _ _ = some (.int .i32 7); go_simp
  rw [HT.out]
  rintro e1 w1 ⟨rfl, hb1⟩
  have A1 : LinkAt w1 w.heap.size 0 0 0 (.slice none 0 0) false 0 0 := ⟨cell_later hb1 (by go_simp), cell_later hb1 (by go_simp), cell_later hb1 (by go_simp), cell_later hb1 (by go_simp), cell_later hb1 (by go_simp), cell_later hb1 (by go_simp), cell_later hb1 (by go_simp), fun o => by rw [hb1.frozen (by first | (simp; done) | omega | (simp; omega))]; go_simp⟩
  have B1 : Below w.heap.size w w1 := by repeat (first | with_reducible exact Below.refl _ _ | ((with_reducible refine Below.setCell ?_ ?_ _); rotate_left; (· first | (simp; done) | omega | (simp; omega))) | with_reducible refine below_drewN ?_ _ | with_reducible refine Below.drew ?_ | ((with_reducible refine Below.trans ?_ (Below.mono hb1 ?_)); rotate_left; (· first | (simp; done) | omega | (simp; omega))) | ((with_reducible refine Below.alloc ?_ ?_ _); rotate_left; (· first | (simp; done) | omega | (simp; omega))) | exact Below.refl _ _ | refine Below.setCell ?_ (by first | (simp; done) | omega | (simp; omega)) _ | refine below_drewN ?_ _ | refine Below.drew ?_ | refine Below.trans ?_ (Below.mono hb1 (by first | (simp; done) | omega | (simp; omega))) | refine Below.alloc ?_ (by first | (simp; done) | omega | (simp; omega)) _)
  have HA1 := Lib.hid A1; have HB1 := Lib.hid B1
  have z1 := A1.lt
  clear hb1 A1 B1
  go_wp2_with fail
  refine (linkHear_ok 0 0 0 _ [] false 0 0 t0 _ (.inl ⟨rfl, .inl rfl⟩) (by decide) ⟨by decide, by decide⟩ ⟨by decide, by decide⟩ C0.out HOK.out 1 0 5 [7] HF.out (.inl rfl)).mono ?_
  rintro e2 w2 ⟨v2, rfl, hown2, hb2⟩
  obtain ⟨a2, cap2, rfl⟩ := (own_ints' (xs := [7]) hown2).len
  have C1 := HA1.out.later hb2 HA1.out.lt
  have HC1 := Lib.hid C1
  have HB2 := Lib.hid (HB1.out.trans (hb2.mono HB1.out.size))
  have HO2 := Lib.hid (own_mono hown2 (show w.heap.size + 1 ≤ _ from HA1.out.lt))
  clear z1 hown2 hb2
  have z1 := C1.lt
  obtain ⟨g0, g1, g2, g3, g4, g5, g6, gf⟩ := C1
  go_wp2
  have hW := link_write HC1.out 1 0 5 (.slice a2 1 cap2) true 0 0
  have hB9 : Below w.heap.size w _ := wrLink_below HB2.out (show w.heap.size ≤ w.heap.size by omega) 1 0 5 (.slice a2 1 cap2) true 0 0
  have hO9 := wrLink_own HO2.out (show w.heap.size < w.heap.size + 1 by omega) 1 0 5 (.slice a2 1 cap2) true 0 0
  unfold wrLink at hW hB9 hO9
  clear g0 g1 g2 g3 g4 g5 g6 gf
  generalize hw9 : (((((((_ : World).setCell _ _).setCell _ _).setCell _ _).setCell _ _).setCell _ _).setCell _ _).setCell _ _ = w9 at hW hB9 hO9 ⊢
  clear hw9
  have hW2 := hW.later ((Below.refl w9.heap.size w9).alloc (Nat.le_refl _) (.cells #[.int .i64 1, .int .i64 0, .int .u8 5, .slice a2 1 cap2, .bool true, .int .i64 0, .int .i64 0] 44)) hW.lt
  have hB10 := hB9.alloc hB9.size (.cells #[.int .i64 1, .int .i64 0, .int .u8 5, .slice a2 1 cap2, .bool true, .int .i64 0, .int .i64 0] 44)
  have hO10 := hO9.alloc (.cells #[.int .i64 1, .int .i64 0, .int .u8 5, .slice a2 1 cap2, .bool true, .int .i64 0, .int .i64 0] 44)
  clear hW hB9 hO9
  generalize w9.alloc (.cells #[.int .i64 1, .int .i64 0, .int .u8 5, .slice a2 1 cap2, .bool true, .int .i64 0, .int .i64 0] 44) = w10 at *
  obtain ⟨r0, r1, r2, r3, r4, r5, r6, -⟩ := hW2
  exact bodyPost_ret (v := linkV 1 0 5 (.slice a2 1 cap2) true 0 0) (by simp [results, Try.results19, go_sem, r0, r1, r2, r3, r4, r5, r6]) rfl ⟨_, _, rfl, own_mono hO10 (by omega), hB10⟩
/-- a link's block, given by a literal -/
theorem link_lit (w : World) (k l q : Int) (v : Value) (h : Bool) (g d : Int) (E : TypeId) : LinkAt (w.alloc (.cells #[.int .i64 k, .int .i64 l, .int .u8 q, v, .bool h, .int .i64 g, .int .i64 d] E)) w.heap.size k l q v h g d :=
  ⟨by go_simp, by go_simp, by go_simp, by go_simp, by go_simp, by go_simp, by go_simp, fun o => by go_simp⟩

end Go.Proofs.Ytdmagoimfblopaa
