/- What frame.Read computes. -/
import Derived.Test.YtglagndpholejaaFrame
import Derived.Test.YtglagndpholejaaFlip
import Derived.RegionTactic
import Derived.Deep.AppendLies
import Derived.Deep.RegionLaw
import Derived.IntWalk
namespace Go.Proofs.Ytglagndpholejaa
open Go.ChangeShapes Go.WideShapes Go.ChangeAt Go.RowKit
set_option linter.unusedVariables false

/-- a text of which the checksum is right -/
def Fit (s : ByteArray) : Prop := 2 ≤ s.size ∧ s.size ≤ 4095 ∧ sumFits s
/-- a byte of a text, as a number -/
def byteI (s : ByteArray) (i : Nat) : Nat := (bytesN s).getD i 0
theorem byteI_lt (s : ByteArray) (i : Nat) : byteI s i < 256 := by
  unfold byteI
  rw [List.getD_eq_getElem?_getD]
  by_cases h : i < (bytesN s).length
  · rw [List.getElem?_eq_getElem h]; exact bytesN_lt s _ (List.getElem_mem h)
  · rw [List.getElem?_eq_none (by omega)]; decide
theorem byteI_at (s : ByteArray) (i : Nat) (h : i < s.size) : byteI s i = s[i].toNat := bytesN_getD s i h
theorem byteI_front (s : ByteArray) (i n : Nat) (h : i < n) : byteI (s.extract 0 n) i = byteI s i := by
  unfold byteI
  rw [bytesN_extract, List.getD_eq_getElem?_getD, List.getD_eq_getElem?_getD, List.getElem?_take, if_pos h]
theorem byteI_back (s : ByteArray) (a i : Nat) (h : a + i < s.size) : byteI (s.extract a s.size) i = byteI s (a + i) := by
  rw [byteI_at _ _ (by rw [ByteArray.size_extract]; omega), byteI_at _ _ h]
  congr 1
  exact ByteArray.getElem_extract _
theorem ix_byte (s : ByteArray) (i : Nat) (h : i < s.size) : ∀ w : World, (Instr.index 9 (.string s) (.int .i64 (i : Int))).run Try.prog w = .ok (.int .u8 (byteI s i : Int)) w := fun w => by
  rw [ix_str s i h w, byteI_at s i h]
/-- word i of a text -/
def wordI (s : ByteArray) (i : Nat) : Int := getW (byteI s (3 + 4 * i)) (byteI s (3 + 4 * i + 1)) (byteI s (3 + 4 * i + 2)) (byteI s (3 + 4 * i + 3))
theorem get_word (t : ByteArray) (i : Nat) (h : 3 + 4 * i + 4 ≤ t.size) (w : World) :
    Calls Try.prog 71 #[.string (t.extract (3 + 4 * i) t.size)] w fun e w' => ∃ m, e = .returned (.int .i32 (wordI t i)) ∧ w' = w.drewN m := by
  have hs : (t.extract (3 + 4 * i) t.size).size = t.size - (3 + 4 * i) := by rw [ByteArray.size_extract]; omega
  refine (frameGet_any (t.extract (3 + 4 * i) t.size) (by omega) w).mono ?_
  rintro e w' ⟨m, he, hw⟩
  refine ⟨m, ?_, hw⟩
  rw [he]
  unfold wordI
  have e0 := byteI_back t (3 + 4 * i) 0 (by omega)
  have e1 := byteI_back t (3 + 4 * i) 1 (by omega)
  have e2 := byteI_back t (3 + 4 * i) 2 (by omega)
  have e3 := byteI_back t (3 + 4 * i) 3 (by omega)
  rw [byteI_at _ _ (by omega)] at e0 e1 e2 e3
  rw [← e1, ← e2, ← e3, ← show byteI t (3 + 4 * i + 0) = byteI t (3 + 4 * i) from rfl, ← e0]
/-- a frame lies in a block -/
def FrameAt (w : World) (b : Nat) (k l q : Int) (v : Value) : Prop :=
  w.cell? ⟨b, 0, none⟩ = some (.int .i64 k) ∧ w.cell? ⟨b, 1, none⟩ = some (.int .i64 l) ∧ w.cell? ⟨b, 2, none⟩ = some (.int .u8 q) ∧ w.cell? ⟨b, 3, none⟩ = some v ∧ (∀ o, w.frozen? ⟨b, o, none⟩ = false)
theorem FrameAt.lt {w : World} {b : Nat} {k l q : Int} {v : Value} (h : FrameAt w b k l q v) : b < w.heap.size := by
  have := World.block_lt_of_cell? _ _ h.1
  simpa using this
theorem FrameAt.later {w w' : World} {b B : Nat} {k l q : Int} {v : Value} (h : FrameAt w b k l q v) (hB : Below B w w') (hb : b < B) : FrameAt w' b k l q v :=
  ⟨(hB.cell hb).trans h.1, (hB.cell hb).trans h.2.1, (hB.cell hb).trans h.2.2.1, (hB.cell hb).trans h.2.2.2.1, fun o => (hB.frozen hb).trans (h.2.2.2.2 o)⟩
theorem FrameAt.kept {w w' : World} {b : Nat} {r : Option Nat} {k l q : Int} {v : Value} (h : FrameAt w b k l q v) (hg : w.grownBy w' r) (hne : r ≠ some b) : FrameAt w' b k l q v := by
  have hb := hg.block b h.lt (fun e => hne e.symm)
  obtain ⟨h1, h2, h3, h4, h5⟩ := h
  exact ⟨(World.cell?_of_block (w := w) hb).trans h1, (World.cell?_of_block (w := w) hb).trans h2, (World.cell?_of_block (w := w) hb).trans h3, (World.cell?_of_block (w := w) hb).trans h4, fun o => (World.frozen?_of_block (w := w) hb).trans (h5 o)⟩
theorem FrameAt.alloc {w : World} {b : Nat} {k l q : Int} {v : Value} (h : FrameAt w b k l q v) (o : Obj) : FrameAt (w.alloc o) b k l q v := h.later ((Below.refl w.heap.size w).alloc (Nat.le_refl _) o) h.lt
theorem news_one (w : World) (x : Value) (E : TypeId) : ∀ j u, ([x] : List Value)[j]? = some u → (w.alloc (.cells #[x] E)).cell? ((⟨w.heap.size, 0, none⟩ : Addr).add j) = some u := by
  intro j u h
  cases j with
  | zero => simp at h; subst h; show World.cell? _ (Addr.add _ 0) = _; simp [Addr.add]
  | succ j => simp at h
theorem own_mono {w : World} {base base' : Nat} {e : TypeId} {size : Nat} {v : Value} {n : Nat} {xs : List Value} (h : w.ownsRow base e size v n xs) (hb : base' ≤ base) : w.ownsRow base' e size v n xs :=
  ⟨h.1, h.2.imp id fun ⟨g, cap, cur, e, h1, h2⟩ => ⟨g, cap, cur, e, Nat.le_trans hb h1, h2⟩⟩
theorem frame_write {w : World} {b : Nat} {k l q : Int} {v : Value} (h : FrameAt w b k l q v) (k' l' q' : Int) (v' : Value) :
    FrameAt ((((w.setCell ⟨b, 0, none⟩ (.int .i64 k')).setCell ⟨b, 1, none⟩ (.int .i64 l')).setCell ⟨b, 2, none⟩ (.int .u8 q')).setCell ⟨b, 3, none⟩ v') b k' l' q' v' := by
  have ne : ∀ {x y : Nat}, x ≠ y → (⟨b, x, none⟩ : Addr) ≠ ⟨b, y, none⟩ := fun hxy e => hxy (congrArg Addr.off e)
  obtain ⟨h1, h2, h3, h4, h5⟩ := h
  refine ⟨?_, ?_, ?_, ?_, fun o => by rw [World.frozen?_setCell, World.frozen?_setCell, World.frozen?_setCell, World.frozen?_setCell]; exact h5 o⟩
  · rw [World.cell?_setCell_other _ _ _ _ (ne (by omega)), World.cell?_setCell_other _ _ _ _ (ne (by omega)), World.cell?_setCell_other _ _ _ _ (ne (by omega))]; exact World.cell?_setCell_same _ _ _ h1
  · rw [World.cell?_setCell_other _ _ _ _ (ne (by omega)), World.cell?_setCell_other _ _ _ _ (ne (by omega))]
    exact World.cell?_setCell_same _ _ _ ((World.cell?_setCell_other _ _ _ _ (ne (by omega))).trans h2)
  · rw [World.cell?_setCell_other _ _ _ _ (ne (by omega))]
    exact World.cell?_setCell_same _ _ _ ((World.cell?_setCell_other _ _ _ _ (ne (by omega))).trans ((World.cell?_setCell_other _ _ _ _ (ne (by omega))).trans h3))
  · exact World.cell?_setCell_same _ _ _ ((World.cell?_setCell_other _ _ _ _ (ne (by omega))).trans ((World.cell?_setCell_other _ _ _ _ (ne (by omega))).trans ((World.cell?_setCell_other _ _ _ _ (ne (by omega))).trans h4)))
theorem FrameAt.set {w : World} {b : Nat} {k l q : Int} {v : Value} (h : FrameAt w b k l q v) (u : Value) : FrameAt (w.setCell ⟨b, 3, none⟩ u) b k l q u := by
  have ne : ∀ {x y : Nat}, x ≠ y → (⟨b, x, none⟩ : Addr) ≠ ⟨b, y, none⟩ := fun hxy e => hxy (congrArg Addr.off e)
  obtain ⟨h1, h2, h3, h4, h5⟩ := h
  exact ⟨(World.cell?_setCell_other _ _ _ _ (ne (by omega))).trans h1, (World.cell?_setCell_other _ _ _ _ (ne (by omega))).trans h2, (World.cell?_setCell_other _ _ _ _ (ne (by omega))).trans h3, World.cell?_setCell_same _ _ _ h4, fun o => by rw [World.frozen?_setCell]; exact h5 o⟩
theorem FrameAt.other {w : World} {b c o : Nat} {k l q : Int} {v : Value} (h : FrameAt w b k l q v) (hne : c ≠ b) (u : Value) : FrameAt (w.setCell ⟨c, o, none⟩ u) b k l q v := by
  have ne : ∀ {x : Nat}, (⟨c, o, none⟩ : Addr) ≠ ⟨b, x, none⟩ := fun e => hne (congrArg Addr.block e)
  obtain ⟨h1, h2, h3, h4, h5⟩ := h
  exact ⟨(World.cell?_setCell_other _ _ _ _ ne).trans h1, (World.cell?_setCell_other _ _ _ _ ne).trans h2, (World.cell?_setCell_other _ _ _ _ ne).trans h3, (World.cell?_setCell_other _ _ _ _ ne).trans h4, fun x => by rw [World.frozen?_setCell]; exact h5 x⟩
def wordsI (t : ByteArray) (n : Nat) : List Int := (List.range n).map (wordI t)
theorem wordsI_succ (t : ByteArray) (n : Nat) : wordsI t (n + 1) = wordsI t n ++ [wordI t n] := by
  unfold wordsI; rw [List.range_succ, List.map_append]; rfl
theorem wordsI_len (t : ByteArray) (n : Nat) : (wordsI t n).length = n := by unfold wordsI; simp
def ReadRel (w : World) (t : ByteArray) (n : Nat) (k l q : Int) (i : Value) (wr : World) : Prop := ∃ (j : Nat) (v : Value), j ≤ n ∧ i = .int .i64 j ∧ FrameAt wr w.heap.size 0 0 0 (.slice none 0 0) ∧ FrameAt wr (w.heap.size + 1) k l q v ∧
  wr.ownsRow (w.heap.size + 2) 21 1 v (wordsI t j).length ((wordsI t j).map (.int .i32)) ∧ Below w.heap.size w wr ∧ w.heap.size + 2 ≤ wr.heap.size
theorem and_low (a : Nat) (h : a < 256) : bits BinOp.and IntKind.u8 (a : Int) 15 = (a : Int) % 16 := by
  have h1 := Go.u8_and_nat a 15 h (by omega)
  rw [show ((15 : Nat) : Int) = 15 from rfl] at h1
  rw [h1, show (15 : Nat) = 2 ^ 4 - 1 from rfl, Nat.and_two_pow_sub_one_eq_mod]
  simp
set_option maxHeartbeats 4000000 in
set_option maxRecDepth 100000 in
theorem read_form (s : ByteArray) (hf : Fit s) (n : Nat) (h3 : s.size = 5 + 4 * n) (hn : byteI s 2 = n) (w : World) (c : Int) (hc : frameChk ((byteI s 0 : Int) / 16) ((byteI s 0 : Int) % 16) n = c) :
    Calls Try.prog 63 #[.string s] w fun e w' => (c ≠ 0 ∧ e = .returned (.tuple #[frameV 0 0 0 (.slice none 0 0), .int .i64 c]) ∧ Below w.heap.size w w') ∨
      (c = 0 ∧ ∃ v, e = .returned (.tuple #[frameV ((byteI s 0 : Int) / 16) ((byteI s 0 : Int) % 16) (byteI s 1) v, .int .i64 0]) ∧ w'.ownsRow w.heap.size 21 1 v (wordsI s n).length ((wordsI s n).map (.int .i32)) ∧ Below w.heap.size w w') := by
  have HF := Lib.hid hf; have HC := Lib.hid hc
  have hn8 := byteI_lt s 2
  have b0 := byteI_lt s 0
  have b1 := byteI_lt s 1
  rw [hn] at hn8
  have hsz : (s.extract 0 (s.size - 2)).size = 3 + 4 * n := by rw [ByteArray.size_extract]; omega
  obtain ⟨t, ht⟩ : ∃ t, s.extract 0 (s.size - 2) = t := ⟨_, rfl⟩
  have ht2 : ∀ i, i < 3 + 4 * n → byteI t i = byteI s i := fun i hi => by rw [← ht]; exact byteI_front s i _ (by omega)
  have hw : ∀ i, i < n → wordI t i = wordI s i := fun i hi => by unfold wordI; rw [ht2 _ (by omega), ht2 _ (by omega), ht2 _ (by omega), ht2 _ (by omega)]
  have hws : wordsI t n = wordsI s n := by unfold wordsI; exact List.map_congr_left fun i hi => hw i (by simpa using hi)
  rw [ht] at hsz
  have i0 := ix_byte t 0 (by omega)
  have i1 := ix_byte t 1 (by omega)
  have i2 := ix_byte t 2 (by omega)
  rw [ht2 0 (by omega)] at i0
  rw [ht2 1 (by omega)] at i1
  rw [ht2 2 (by omega), hn] at i2
  rw [show ((0 : Nat) : Int) = 0 from rfl] at i0
  rw [show ((1 : Nat) : Int) = 1 from rfl] at i1
  rw [show ((2 : Nat) : Int) = 2 from rfl] at i2
  have HT := Lib.hid ht; have HWS := Lib.hid hws; have HSZ := Lib.hid hsz
  have al := and_low (byteI s 0) b0
  obtain ⟨x0, hx0⟩ : ∃ x, byteI s 0 = x := ⟨_, rfl⟩
  obtain ⟨x1, hx1⟩ : ∃ x, byteI s 1 = x := ⟨_, rfl⟩
  rw [hx0] at i0 b0 al HC
  rw [hx1] at i1 b1
  rw [hx0, hx1]
  obtain ⟨k, hk⟩ : ∃ k : Int, (x0 : Int) / 16 = k := ⟨_, rfl⟩
  obtain ⟨l, hl⟩ : ∃ l : Int, (x0 : Int) % 16 = l := ⟨_, rfl⟩
  have hkb : 0 ≤ k ∧ k ≤ 15 := by omega
  have hlb : 0 ≤ l ∧ l ≤ 15 := by omega
  rw [hk, hl] at HC
  rw [hl] at al
  clear hf hc hn hsz ht ht2 hw hws hx0 hx1
  rw [hk, hl]
  obtain ⟨iw, hiw, hzw0, hzw1, hzw2⟩ := info_parts info_i32
  go_enter Try.func63, Try.ntmps63
  go_wp2_with fail
  refine (get_ok s HF.out.1 HF.out.2.1 HF.out.2.2 _).mono ?_
  rw [HT.out]
  rintro e1 w1 ⟨rfl, rfl⟩
  have l3 : ¬ ((t.size : Int) < 3) := by have := HSZ.out; omega
  go_wp2
  go_region
  have dsz : ((t.size : Int) != 3 + 4 * (n : Int)) = false := by have := HSZ.out; rw [bne_eq_false_iff_eq]; omega
  have A0 : FrameAt ((w.alloc (.cells #[.int .i64 0, .int .i64 0, .int .u8 0, .slice none 0 0] 77)).alloc (.cells #[.int .i64 k, .int .i64 l, .int .u8 (x1 : Int), .slice none 0 0] 77)).drew w.heap.size 0 0 0 (.slice none 0 0) := ⟨by go_simp, by go_simp, by go_simp, by go_simp, fun o => by go_simp⟩
  have A1 : FrameAt ((w.alloc (.cells #[.int .i64 0, .int .i64 0, .int .u8 0, .slice none 0 0] 77)).alloc (.cells #[.int .i64 k, .int .i64 l, .int .u8 (x1 : Int), .slice none 0 0] 77)).drew (w.heap.size + 1) k l x1 (.slice none 0 0) := ⟨by go_simp, by go_simp, by go_simp, by go_simp, fun o => by go_simp⟩
  have HA0 := Lib.hid A0; have HA1 := Lib.hid A1
  clear A0 A1
  go_wp2
  go_loopw [45] (fun i wr => ReadRel w t n k l x1 i wr) (fun i _ => n - (intOf i).toNat)
  case atStart => exact ⟨0, .slice none 0 0, by omega, rfl, HA0.out, HA1.out, World.ownsRow_nil _ _ _ _, by repeat (first | with_reducible exact Below.refl _ _ | ((with_reducible refine Below.setCell ?_ ?_ _); rotate_left; (· first | (simp; done) | omega | (simp; omega))) | with_reducible refine below_drewN ?_ _ | with_reducible refine Below.drew ?_ | ((with_reducible refine Below.alloc ?_ ?_ _); rotate_left; (· first | (simp; done) | omega | (simp; omega))) | exact Below.refl _ _ | refine Below.setCell ?_ (by first | (simp; done) | omega | (simp; omega)) _ | refine below_drewN ?_ _ | refine Below.drew ?_ | refine Below.alloc ?_ (by first | (simp; done) | omega | (simp; omega)) _), by simp⟩
  case round =>
    obtain ⟨j, v, hj, rfl, h0, h1, hown, hB, hsz⟩ := hrel
    have H0 := Lib.hid h0; have H1 := Lib.hid h1; have HO := Lib.hid hown; have HB := Lib.hid hB
    have l0 := h0.lt; have l1 := h1.lt
    obtain ⟨c0, c1, c2, c3, cf⟩ := h1
    clear h0 hown hB
    by_cases hlt : j < n
    · have hd : (j : Int) < (n : Int) := by omega
      have hle : 3 + 4 * j + 4 ≤ t.size := by have := HSZ.out; omega
      have jb : (j : Int) ≤ 255 := by omega
      have q1 : IntKind.i64.wrap (4 * (j : Int)) = 4 * (j : Int) := IntWalk.i64_in _ (by omega)
      have q2 : IntKind.i64.wrap (3 + 4 * (j : Int)) = 3 + 4 * (j : Int) := IntWalk.i64_in _ (by omega)
      have q3 : (3 + 4 * (j : Int)).toNat = 3 + 4 * j := by omega
      have q4 : 0 ≤ 3 + 4 * (j : Int) := by omega
      have q5 : 3 + 4 * (j : Int) ≤ (t.size : Int) := by omega
      have hob : ∀ r, v.ownBlock = some r → w.heap.size + 2 ≤ r := fun r e => (HO.out.lt r e).1
      have HOB := Lib.hid hob
      have hlen : (wordsI t j).length = j := wordsI_len t j
      have HLEN := Lib.hid hlen
      have hwl : (wordsI t j).length ≤ 255 := by omega
      clear hob hlen
      go_wp2
      go_region_law (first | (go_simp; go_at_call 71; refine (get_word t j hle _).mono ?_; rintro e4 w4 ⟨m4, rfl, rfl⟩; have c3b : World.cell? ((wr.drewN (1 + m4)).alloc (.cells #[.int .i32 (wordI t j)] 21)) ⟨w.heap.size + 1, 3, none⟩ = some v := (H1.out.alloc _).2.2.2.1) | (refine step_append_lies _ rfl (.tmp 49) (.tmp 56) 22 rfl (w.heap.size + 2) 21 iw (.int .i32 0) 1 4 Try.underlying22 hiw hzw0 hzw1 hzw2 rfl (by decide) v (wordsI t j).length ((wordsI t j).map (.int .i32)) (by simp [Act.eval]) (by exact HO.out.alloc _) ⟨wr.heap.size, 0, none⟩ 1 1 [.int .i32 (wordI t j)] (by simp [Act.eval]) rfl (by exact news_one _ _ _) (by simp [Value.oneCell']) (by decide) (by unfold maxLen; omega) (by omega) (by simp; omega) (wr.heap.size + 1) (by simp) ?_; intro g cap5 w5 hown5 hgrow5 hg5 hlt5; have F0 := FrameAt.kept (by exact H0.out.alloc _) hgrow5 (fun e => absurd (HOB.out _ e) (by omega)); have F1 := FrameAt.kept (by exact H1.out.alloc _) hgrow5 (fun e => absurd (HOB.out _ e) (by omega)); have F2 := Lib.hid F1; have F3 := F1.lt; obtain ⟨d0, d1, d2, d3, df⟩ := F1))
      all_goals
        have B5 : Below w.heap.size w w5 := HB.out.trans (Below.grown (by exact (below_drewN (Below.refl w.heap.size wr) (1 + m4)).alloc (show w.heap.size ≤ wr.heap.size by omega) _) hgrow5 (by simp; omega) (fun r e => by have := HOB.out r e; omega))
        have z5 : w.heap.size + 2 ≤ w5.heap.size := by omega
        have HB5 := Lib.hid B5; have HF0 := Lib.hid F0; have HO5 := Lib.hid hown5
        clear d0 d1 d2 d3 df hg5 hgrow5 B5 F0 hown5 q1 q2 q3 q4 q5
        go_wp2
        go_roundw
        case rel => exact ⟨j + 1, _, by omega, by go_num, HF0.out.other (by omega) _, F2.out.set _, by rw [wordsI_succ, List.length_append, List.map_append]; exact ownsRow_setCell_below HO5.out (by simp) _, HB5.out.setCell (by simp) _, by simpa using z5⟩
        case measure => simp [intOf]; omega
    · obtain rfl : j = n := by omega
      obtain ⟨a, cap, hv⟩ : ∃ a cap, v = .slice a j cap := by
        rcases HO.out.2 with ⟨hv, hn⟩ | ⟨g, cap, cur, hv, -⟩
        · rw [wordsI_len] at hn; exact ⟨none, 0, by rw [hv, hn]⟩
        · rw [wordsI_len] at hv; exact ⟨_, cap, hv⟩
      subst hv
      go_wp2_with fail
      refine (frameCheck_any k l x1 a j cap _ (by omega) (by omega) (by omega)).mono ?_
      rw [HC.out]
      rintro e5 w5 ⟨rfl, rfl⟩
      have z5 : w.heap.size ≤ wr.heap.size := by omega
      have X0 : FrameAt (wr.alloc (.cells #[.int .i64 k, .int .i64 l, .int .u8 (x1 : Int), .slice a j cap] 77)) w.heap.size 0 0 0 (.slice none 0 0) := H0.out.alloc _
      have X1 : FrameAt (wr.alloc (.cells #[.int .i64 k, .int .i64 l, .int .u8 (x1 : Int), .slice a j cap] 77)) (w.heap.size + 1) k l x1 (.slice a j cap) := H1.out.alloc _
      have XO := HO.out.alloc (.cells #[.int .i64 k, .int .i64 l, .int .u8 (x1 : Int), .slice a j cap] 77)
      have XB : Below w.heap.size w (wr.alloc (.cells #[.int .i64 k, .int .i64 l, .int .u8 (x1 : Int), .slice a j cap] 77)) := HB.out.alloc z5 _
      generalize wr.alloc (.cells #[.int .i64 k, .int .i64 l, .int .u8 (x1 : Int), .slice a j cap] 77) = w6 at *
      clear c0 c1 c2 c3 cf
      have HX0 := Lib.hid X0; have HXO := Lib.hid XO; have HXB := Lib.hid XB
      have m0 := X0.lt; have m1 := X1.lt
      obtain ⟨c0, c1, c2, c3, cf⟩ := X1
      obtain ⟨g0, g1, g2, g3, gf⟩ := X0
      clear XO XB
      by_cases h0 : c = 0
      · have dc : (c != 0) = false := by simpa using h0
        have HC0 := Lib.hid h0
        clear h0
        go_wp2
        have hfin := frame_write HX0.out k l x1 (.slice a j cap)
        obtain ⟨f0, f1, f2, f3, -⟩ := hfin
        have HB7 : Below w.heap.size w ((((w6.setCell ⟨w.heap.size, 0, none⟩ (.int .i64 k)).setCell ⟨w.heap.size, 1, none⟩ (.int .i64 l)).setCell ⟨w.heap.size, 2, none⟩ (.int .u8 x1)).setCell ⟨w.heap.size, 3, none⟩ (.slice a j cap)) := ((((HXB.out.setCell (Nat.le_refl _) _).setCell (Nat.le_refl _) _).setCell (Nat.le_refl _) _).setCell (Nat.le_refl _) _)
        have HO7 := ownsRow_setCell_below (ownsRow_setCell_below (ownsRow_setCell_below (ownsRow_setCell_below HXO.out (a := ⟨w.heap.size, 0, none⟩) (by simp) (.int .i64 k)) (a := ⟨w.heap.size, 1, none⟩) (by simp) (.int .i64 l)) (a := ⟨w.heap.size, 2, none⟩) (by simp) (.int .u8 x1)) (a := ⟨w.heap.size, 3, none⟩) (by simp) (.slice a j cap)
        generalize hw7 : ((((w6.setCell ⟨w.heap.size, 0, none⟩ (.int .i64 k)).setCell ⟨w.heap.size, 1, none⟩ (.int .i64 l)).setCell ⟨w.heap.size, 2, none⟩ (.int .u8 x1)).setCell ⟨w.heap.size, 3, none⟩ (.slice a j cap)) = w7 at *
        clear hw7
        exact bodyPost_ret (v := .tuple #[frameV k l x1 (.slice a j cap), .int .i64 0]) (by simp [results, Try.results63, go_sem, f0, f1, f2, f3]) rfl (.inr ⟨HC0.out, _, rfl, by rw [HWS.out] at HO7; exact own_mono HO7 (by omega), HB7⟩)
      · have dc : (c != 0) = true := by simpa using h0
        have HC0 := Lib.hid h0
        clear h0
        go_wp2
        have hfin := frame_write HX0.out 0 0 0 (.slice none 0 0)
        obtain ⟨f0, f1, f2, f3, -⟩ := hfin
        have HB7 : Below w.heap.size w ((((w6.setCell ⟨w.heap.size, 0, none⟩ (.int .i64 0)).setCell ⟨w.heap.size, 1, none⟩ (.int .i64 0)).setCell ⟨w.heap.size, 2, none⟩ (.int .u8 0)).setCell ⟨w.heap.size, 3, none⟩ (.slice none 0 0)) := ((((HXB.out.setCell (Nat.le_refl _) _).setCell (Nat.le_refl _) _).setCell (Nat.le_refl _) _).setCell (Nat.le_refl _) _)
        generalize hw7 : ((((w6.setCell ⟨w.heap.size, 0, none⟩ (.int .i64 0)).setCell ⟨w.heap.size, 1, none⟩ (.int .i64 0)).setCell ⟨w.heap.size, 2, none⟩ (.int .u8 0)).setCell ⟨w.heap.size, 3, none⟩ (.slice none 0 0)) = w7 at *
        clear hw7
        exact bodyPost_ret (v := .tuple #[frameV 0 0 0 (.slice none 0 0), .int .i64 c]) (by simp [results, Try.results63, go_sem, f0, f1, f2, f3]) rfl (.inl ⟨HC0.out, rfl, HB7⟩)
/-- how a text fails to be a frame -/
def ReadBad (s : ByteArray) (c : Int) : Prop := (c = 2 ∧ 4095 < s.size) ∨ (c = 3 ∧ s.size < 2) ∨ (c = 5 ∧ 2 ≤ s.size ∧ s.size ≤ 4095 ∧ ¬ sumFits s) ∨ (c = 3 ∧ Fit s ∧ s.size < 5) ∨ (c = 4 ∧ Fit s ∧ 5 ≤ s.size ∧ s.size ≠ 5 + 4 * byteI s 2)
set_option maxHeartbeats 4000000 in
set_option maxRecDepth 100000 in
theorem read_bad (s : ByteArray) (hm : s.size ≤ 140737488351232) (c : Int) (h : ReadBad s c) (w : World) :
    Calls Try.prog 63 #[.string s] w fun e w' => e = .returned (.tuple #[frameV 0 0 0 (.slice none 0 0), .int .i64 c]) ∧ Below w.heap.size w w' := by
  have H := Lib.hid h
  clear h
  rcases H.out with ⟨rfl, h⟩ | ⟨rfl, h⟩ | ⟨rfl, h1, h2, h⟩ | ⟨rfl, hf, h⟩ | ⟨rfl, hf, h1, h⟩
  · go_enter Try.func63, Try.ntmps63
    go_wp2_with fail
    refine (get_large s h _).mono ?_
    rintro e1 w1 ⟨rfl, rfl⟩
    go_wp2
    refine bodyPost_ret (v := .tuple #[frameV 0 0 0 (.slice none 0 0), .int .i64 2]) (by simp [results, Try.results63, go_sem]) rfl ⟨rfl, ?_⟩
    repeat (first | with_reducible exact Below.refl _ _ | ((with_reducible refine Below.setCell ?_ ?_ _); rotate_left; (· first | (simp; done) | omega | (simp; omega))) | with_reducible refine below_drewN ?_ _ | with_reducible refine Below.drew ?_ | ((with_reducible refine Below.alloc ?_ ?_ _); rotate_left; (· first | (simp; done) | omega | (simp; omega))) | exact Below.refl _ _ | refine Below.setCell ?_ (by first | (simp; done) | omega | (simp; omega)) _ | refine below_drewN ?_ _ | refine Below.drew ?_ | refine Below.alloc ?_ (by first | (simp; done) | omega | (simp; omega)) _)
  · go_enter Try.func63, Try.ntmps63
    go_wp2_with fail
    refine (get_short s h _).mono ?_
    rintro e1 w1 ⟨rfl, rfl⟩
    go_wp2
    refine bodyPost_ret (v := .tuple #[frameV 0 0 0 (.slice none 0 0), .int .i64 3]) (by simp [results, Try.results63, go_sem]) rfl ⟨rfl, ?_⟩
    repeat (first | with_reducible exact Below.refl _ _ | ((with_reducible refine Below.setCell ?_ ?_ _); rotate_left; (· first | (simp; done) | omega | (simp; omega))) | with_reducible refine below_drewN ?_ _ | with_reducible refine Below.drew ?_ | ((with_reducible refine Below.alloc ?_ ?_ _); rotate_left; (· first | (simp; done) | omega | (simp; omega))) | exact Below.refl _ _ | refine Below.setCell ?_ (by first | (simp; done) | omega | (simp; omega)) _ | refine below_drewN ?_ _ | refine Below.drew ?_ | refine Below.alloc ?_ (by first | (simp; done) | omega | (simp; omega)) _)
  · go_enter Try.func63, Try.ntmps63
    go_wp2_with fail
    refine (get_bad s h1 h2 h _).mono ?_
    rintro e1 w1 ⟨rfl, rfl⟩
    go_wp2
    refine bodyPost_ret (v := .tuple #[frameV 0 0 0 (.slice none 0 0), .int .i64 5]) (by simp [results, Try.results63, go_sem]) rfl ⟨rfl, ?_⟩
    repeat (first | with_reducible exact Below.refl _ _ | ((with_reducible refine Below.setCell ?_ ?_ _); rotate_left; (· first | (simp; done) | omega | (simp; omega))) | with_reducible refine below_drewN ?_ _ | with_reducible refine Below.drew ?_ | ((with_reducible refine Below.alloc ?_ ?_ _); rotate_left; (· first | (simp; done) | omega | (simp; omega))) | exact Below.refl _ _ | refine Below.setCell ?_ (by first | (simp; done) | omega | (simp; omega)) _ | refine below_drewN ?_ _ | refine Below.drew ?_ | refine Below.alloc ?_ (by first | (simp; done) | omega | (simp; omega)) _)
  · have hsz : (s.extract 0 (s.size - 2)).size = s.size - 2 := by rw [ByteArray.size_extract]; omega
    obtain ⟨t, ht⟩ : ∃ t, s.extract 0 (s.size - 2) = t := ⟨_, rfl⟩
    rw [ht] at hsz
    have HT := Lib.hid ht; have HF := Lib.hid hf
    have ls : (t.size : Int) < 3 := by have := hf.1; omega
    clear ht hsz hf
    go_enter Try.func63, Try.ntmps63
    go_wp2_with fail
    refine (get_ok s HF.out.1 HF.out.2.1 HF.out.2.2 _).mono ?_
    rw [HT.out]
    rintro e1 w1 ⟨rfl, rfl⟩
    go_wp2
    refine bodyPost_ret (v := .tuple #[frameV 0 0 0 (.slice none 0 0), .int .i64 3]) (by simp [results, Try.results63, go_sem]) rfl ⟨rfl, ?_⟩
    repeat (first | with_reducible exact Below.refl _ _ | ((with_reducible refine Below.setCell ?_ ?_ _); rotate_left; (· first | (simp; done) | omega | (simp; omega))) | with_reducible refine below_drewN ?_ _ | with_reducible refine Below.drew ?_ | ((with_reducible refine Below.alloc ?_ ?_ _); rotate_left; (· first | (simp; done) | omega | (simp; omega))) | exact Below.refl _ _ | refine Below.setCell ?_ (by first | (simp; done) | omega | (simp; omega)) _ | refine below_drewN ?_ _ | refine Below.drew ?_ | refine Below.alloc ?_ (by first | (simp; done) | omega | (simp; omega)) _)
  · have hsz : (s.extract 0 (s.size - 2)).size = s.size - 2 := by rw [ByteArray.size_extract]; omega
    obtain ⟨t, ht⟩ : ∃ t, s.extract 0 (s.size - 2) = t := ⟨_, rfl⟩
    have ht2 : ∀ i, i < s.size - 2 → byteI t i = byteI s i := fun i hi => by rw [← ht]; exact byteI_front s i _ hi
    rw [ht] at hsz
    have i0 := ix_byte t 0 (by omega)
    have i1 := ix_byte t 1 (by omega)
    have i2 := ix_byte t 2 (by omega)
    rw [ht2 0 (by omega)] at i0
    rw [ht2 1 (by omega)] at i1
    rw [ht2 2 (by omega)] at i2
    rw [show ((0 : Nat) : Int) = 0 from rfl] at i0
    rw [show ((1 : Nat) : Int) = 1 from rfl] at i1
    rw [show ((2 : Nat) : Int) = 2 from rfl] at i2
    have b0 := byteI_lt s 0
    have b1 := byteI_lt s 1
    have b2 := byteI_lt s 2
    have al := and_low (byteI s 0) b0
    obtain ⟨x0, hx0⟩ : ∃ x, byteI s 0 = x := ⟨_, rfl⟩
    obtain ⟨x1, hx1⟩ : ∃ x, byteI s 1 = x := ⟨_, rfl⟩
    obtain ⟨x2, hx2⟩ : ∃ x, byteI s 2 = x := ⟨_, rfl⟩
    rw [hx0] at i0 b0 al
    rw [hx1] at i1 b1
    rw [hx2] at i2 b2 h
    have ls : ¬ ((t.size : Int) < 3) := by omega
    have dsz : ((t.size : Int) != 3 + 4 * (x2 : Int)) = true := by rw [bne_iff_ne]; omega
    have HT := Lib.hid ht; have HF := Lib.hid hf
    clear ht hsz hf ht2 hx0 hx1 hx2 h h1
    go_enter Try.func63, Try.ntmps63
    go_wp2_with fail
    refine (get_ok s HF.out.1 HF.out.2.1 HF.out.2.2 _).mono ?_
    rw [HT.out]
    rintro e1 w1 ⟨rfl, rfl⟩
    go_wp2
    go_region
    go_wp2
    refine bodyPost_ret (v := .tuple #[frameV 0 0 0 (.slice none 0 0), .int .i64 4]) (by simp [results, Try.results63, go_sem]) rfl ⟨rfl, ?_⟩
    repeat (first | with_reducible exact Below.refl _ _ | ((with_reducible refine Below.setCell ?_ ?_ _); rotate_left; (· first | (simp; done) | omega | (simp; omega))) | with_reducible refine below_drewN ?_ _ | with_reducible refine Below.drew ?_ | ((with_reducible refine Below.alloc ?_ ?_ _); rotate_left; (· first | (simp; done) | omega | (simp; omega))) | exact Below.refl _ _ | refine Below.setCell ?_ (by first | (simp; done) | omega | (simp; omega)) _ | refine below_drewN ?_ _ | refine Below.drew ?_ | refine Below.alloc ?_ (by first | (simp; done) | omega | (simp; omega)) _)

end Go.Proofs.Ytglagndpholejaa
