/- LinkOwn: whatever the frame, the link and the text are, the law answers true and leaves memory as it was. -/
import Derived.Test.YtglagndpholejaaOpenS
import Derived.Test.YtglagndpholejaaLinkHeard
import Derived.Test.YtglagndpholejaaAmple
import Derived.Deep.RegionWith
namespace Go.Proofs.Ytglagndpholejaa.linkOwn
open Go.ChangeShapes Go.WideShapes Go.ChangeAt Go.RowKit Go.Proofs.Ytglagndpholejaa Go.Proofs.Ytglagndpholejaa.Open
set_option linter.unusedVariables false
abbrev TI : TypeId := 21
abbrev OwnI (w : World) (B : Nat) (v : Value) (l : List Int) : Prop := w.ownsRow B TI 1 v l.length (l.map (.int .i32))
theorem ints_front {w : World} {B g : Nat} {E : TypeId} {xs : List Int} {ex : List Value} (h : w.ownsRow B E 1 (.slice (some ⟨g, 0, none⟩) (xs.length + 2) (xs.length + 3)) (xs.length + 2) (xs.map (.int .i32) ++ ex)) (hm : xs.length ≤ 281474976710656) : IntsAt .i32 w (.slice (some ⟨g, 0, none⟩) xs.length (xs.length + 3)) xs := by
  by_cases h0 : xs = []
  · subst h0; exact .inl ⟨rfl, .inr ⟨_, _, rfl⟩⟩
  · refine .inr ⟨List.length_pos_iff.2 h0, g, 0, _, rfl, by omega, by omega, fun i hi => ?_⟩
    rw [Nat.zero_add, h.cellAt i (by omega), List.getElem?_append_left (by simpa using hi), List.getElem?_map, List.getD_eq_getElem?_getD, List.getElem?_eq_getElem hi]; rfl
theorem ample_cells {w : World} {B g : Nat} {E : TypeId} {xs : List Int} (h : w.ownsRow B E 1 (.slice (some ⟨g, 0, none⟩) (xs.length + 2) (xs.length + 3)) (xs.length + 2) (xs.map (.int .i32) ++ [.int .i32 77, .int .i32 77])) : w.cell? ⟨g, xs.length, none⟩ = some (.int .i32 77) ∧ w.cell? ⟨g, xs.length + 1, none⟩ = some (.int .i32 77) := by
  constructor
  · rw [h.cellAt _ (by omega), List.getElem?_append_right (by simp)]; simp
  · rw [h.cellAt _ (by omega), List.getElem?_append_right (by simp)]; simp
abbrev AmI (w : World) (B g : Nat) (xs : List Int) : Prop := w.ownsRow B TI 1 (.slice (some ⟨g, 0, none⟩) (xs.length + 2) (xs.length + 3)) (xs.length + 2) (xs.map (.int .i32) ++ [.int .i32 77, .int .i32 77])
def LinkP (w : World) (e : Ending) (w' : World) : Prop := ∃ k l q va h g d la c, e = .returned (.tuple #[linkV k l q va h g d, .int .i64 c]) ∧ la.length * 4 ≤ 140737488351232 ∧ OwnI w' w.heap.size va la ∧ Below w.heap.size w w'
def WordsP (w : World) (e : Ending) (w' : World) : Prop := ∃ va la c, e = .returned (.tuple #[va, .int .i64 c]) ∧ la.length * 4 ≤ 140737488351232 ∧ OwnI w' w.heap.size va la ∧ Below w.heap.size w w'
section
variable (k l q : Int) (v : Value) (ws : List Int) (h : Bool) (g d : Int) (w : World)
theorem tick_any (hv : IntsAt .i32 w v ws) (hws : ws.length * 4 ≤ 140737488351232) (hk : I64B k) (hl : I64B l) :
    Calls Try.prog 43 #[linkV k l q v h g d] w (LinkP w) := by
  by_cases hc : linkChk k l q ws.length h g d = 0
  · refine (linkTick_yes k l q v ws h g d _ w hv hws hk hl hc rfl).mono ?_
    rintro e w' ⟨va, rfl, ho, hb⟩
    exact ⟨_, _, _, va, _, _, _, ws, _, rfl, hws, ho, hb⟩
  · refine (linkTick_no k l q v ws h g d _ w hv (by omega) hk hl rfl hc).mono ?_
    rintro e w' ⟨rfl, hb⟩
    exact ⟨_, _, _, _, _, _, _, [], _, rfl, by decide, World.ownsRow_nil _ _ _ _, hb⟩
theorem words_any (m : Int) (hm : I64B m) (hv : IntsAt .i32 w v ws) (hws : ws.length * 4 ≤ 140737488351232) (hk : I64B k) (hl : I64B l) :
    Calls Try.prog 44 #[linkV k l q v h g d, .int .i64 m] w (WordsP w) := by
  have bad : ∀ c, ((linkChk k l q ws.length h g d = c ∧ c ≠ 0) ∨ (linkChk k l q ws.length h g d = 0 ∧ h = false ∧ c = 7) ∨ (linkChk k l q ws.length h g d = 0 ∧ h = true ∧ m < g ∧ c = 6)) → Calls Try.prog 44 #[linkV k l q v h g d, .int .i64 m] w (WordsP w) := fun c hc => by
    refine (linkWords_bad k l q v ws h g d m c w hv (by omega) hk hl hm hc).mono ?_
    rintro e w' ⟨rfl, hb⟩
    exact ⟨_, [], _, rfl, by decide, World.ownsRow_nil _ _ _ _, hb⟩
  by_cases hc : linkChk k l q ws.length h g d = 0
  · cases h with
    | false => exact bad 7 (.inr (.inl ⟨hc, rfl, rfl⟩))
    | true =>
      by_cases hg : m < g
      · exact bad 6 (.inr (.inr ⟨hc, rfl, hg, rfl⟩))
      · refine (linkWords_yes k l q v ws g d m w hv hws hk hl hm hc (by omega)).mono ?_
        rintro e w' ⟨va, rfl, ho, hb⟩
        exact ⟨va, ws, _, rfl, hws, ho, hb⟩
  · exact bad _ (.inl ⟨rfl, hc⟩)
theorem hear_any (s : ByteArray) (hs : s.size ≤ 140737488351232) (hv : IntsAt .i32 w v ws) (hws : ws.length * 4 ≤ 140737488351232) (hk : I64B k) (hl : I64B l) :
    Calls Try.prog 42 #[linkV k l q v h g d, .string s] w (LinkP w) := by
  by_cases hc : linkChk k l q ws.length h g d = 0
  · have bad : ∀ c, (ReadErr s c ∨ (ReadOk s ∧ h = true ∧ g < 100 ∧ newB (byteI s 1) q = false ∧ c = 6)) → Calls Try.prog 42 #[linkV k l q v h g d, .string s] w (LinkP w) := fun c hbad => by
      refine (linkHear_bad k l q v ws h g d _ c s w hv hws hk hl hs hc rfl (kindI s) (laneI s) (byteI s 1) (wordsI s (byteI s 2)) ⟨rfl, rfl, rfl, rfl⟩ hbad).mono ?_
      rintro e w' ⟨va, rfl, ho, hb⟩
      exact ⟨_, _, _, va, _, _, _, ws, _, rfl, hws, ho, hb⟩
    rcases read_cases s with hok | ⟨c, herr⟩
    · have ok : (h = false ∨ (h = true ∧ ¬ g < 100) ∨ (h = true ∧ g < 100 ∧ newB (byteI s 1) q = true)) → Calls Try.prog 42 #[linkV k l q v h g d, .string s] w (LinkP w) := fun hn => by
        refine (linkHear_ok k l q v ws h g d s w hv (by omega) hk hl hc hok (kindI s) (laneI s) (byteI s 1) (wordsI s (byteI s 2)) ⟨rfl, rfl, rfl, rfl⟩ hn).mono ?_
        rintro e w' ⟨va, rfl, ho, hb⟩
        refine ⟨_, _, _, va, _, _, _, wordsI s (byteI s 2), _, rfl, ?_, ho, hb⟩
        rw [wordsI_len]
        have := byteI_lt s 2
        omega
      cases h with
      | false => exact ok (.inl rfl)
      | true =>
        by_cases hg : g < 100
        · cases hn : newB (byteI s 1) q with
          | true => exact ok (.inr (.inr ⟨rfl, hg, hn⟩))
          | false => exact bad 6 (.inr ⟨hok, rfl, hg, hn, rfl⟩)
        · exact ok (.inr (.inl ⟨rfl, hg⟩))
    · exact bad c (.inl herr)
  · refine (linkHear_no k l q v ws h g d _ s w hv (by omega) hk hl rfl hc).mono ?_
    rintro e w' ⟨rfl, hb⟩
    exact ⟨_, _, _, _, _, _, _, [], _, rfl, by decide, World.ownsRow_nil _ _ _ _, hb⟩
theorem pack_any (hq : 0 ≤ q ∧ q ≤ 255) (hv : IntsAt .i32 w v ws) (hn : ws.length ≤ 9223372036854775807) (hk : I64B k) (hl : I64B l) (hws : ∀ x ∈ ws, -2147483648 ≤ x ∧ x ≤ 2147483647) :
    Calls Try.prog 41 #[frameV k l q v] w fun e w' => (∃ x, e = .returned x) ∧ Below w.heap.size w w' := by
  by_cases hc : frameChk k l ws.length = 0
  · refine (pack_yes k l q v ws w hv ?_ ?_ hq ?_ hws).mono ?_
    · unfold frameChk at hc; split at hc
      · omega
      · split at hc <;> omega
    · unfold frameChk at hc; split at hc
      · omega
      · split at hc <;> omega
    · unfold frameChk at hc; split at hc
      · omega
      · split at hc <;> omega
    · rintro e w' ⟨rfl, hb⟩; exact ⟨⟨_, rfl⟩, hb⟩
  · obtain ⟨a, c, rfl⟩ := hv.len
    refine (pack_no k l q a ws.length c w hk hl hn hc).mono ?_
    rintro e w' ⟨rfl, hb⟩; exact ⟨⟨_, rfl⟩, hb⟩
end
/-- the four blocks that hold the two arguments and their copies -/
structure St (w0 w : World) (b9 b10 : Nat) (f0 l0 lc fc : List Value) : Prop where
  H0 : CellsAt w w0.heap.size f0
  H1 : CellsAt w (w0.heap.size + 1) l0
  C9 : CellsAt w b9 lc
  C10 : CellsAt w b10 fc
  ne : b9 ≠ b10
  g9 : w0.heap.size + 2 ≤ b9
  g10 : w0.heap.size + 2 ≤ b10
  b : Below w0.heap.size w0 w
theorem St.call {w0 w w' : World} {b9 b10 : Nat} {f0 l0 lc fc : List Value} (h : St w0 w b9 b10 f0 l0 lc fc) (hb : Below w.heap.size w w') : St w0 w' b9 b10 f0 l0 lc fc :=
  ⟨h.H0.call hb, h.H1.call hb, h.C9.call hb, h.C10.call hb, h.ne, h.g9, h.g10, h.b.trans (hb.mono h.b.size)⟩
theorem St.drew {w0 w : World} {b9 b10 : Nat} {f0 l0 lc fc : List Value} (h : St w0 w b9 b10 f0 l0 lc fc) : St w0 w.drew b9 b10 f0 l0 lc fc := ⟨h.H0, h.H1, h.C9, h.C10, h.ne, h.g9, h.g10, h.b.drew⟩
theorem St.drewN {w0 w : World} {b9 b10 : Nat} {f0 l0 lc fc : List Value} (h : St w0 w b9 b10 f0 l0 lc fc) (m : Nat) : St w0 (w.drewN m) b9 b10 f0 l0 lc fc := ⟨h.H0, h.H1, h.C9, h.C10, h.ne, h.g9, h.g10, below_drewN h.b m⟩
theorem one_i32 (xs : List Int) : ∀ u ∈ xs.map (Value.int .i32), u.oneCell' = true := by
  intro u hu
  obtain ⟨x, -, rfl⟩ := List.mem_map.1 hu
  rfl
theorem St.upd {w0 w : World} {b9 b10 : Nat} {f0 l0 lc fc : List Value} (h : St w0 w b9 b10 f0 l0 lc fc) (u v : Value) (h1 : 3 < lc.length) (h2 : 3 < fc.length) : St w0 ((w.setCell ⟨b9, 3, none⟩ u).setCell ⟨b10, 3, none⟩ v) b9 b10 f0 l0 (lc.set 3 u) (fc.set 3 v) := by
  have g9 := h.g9; have g10 := h.g10; have ne := h.ne
  refine ⟨(h.H0.other (by omega) 3 u).other (by omega) 3 v, (h.H1.other (by omega) 3 u).other (by omega) 3 v, (h.C9.set_ 3 h1 u).other ne 3 v, (h.C10.other (fun e => ne e.symm) 3 u).set_ 3 h2 v, ne, g9, g10, ?_⟩
  exact (h.b.setCell (p := ⟨b9, 3, none⟩) (by show _ ≤ b9; omega) _).setCell (p := ⟨b10, 3, none⟩) (by show _ ≤ b10; omega) _
theorem am_set {w : World} {B gA b : Nat} {xs : List Int} (h : AmI w B gA xs) (hb : b < B) (n : Nat) (u : Value) : AmI (w.setCell ⟨b, n, none⟩ u) B gA xs :=
  own_far h (grown_setB w b n u) (fun e => by have := (h.lt _ e).1; omega)
/-- what holds from the two stays to the end -/
structure Zt (w0 w : World) (b9 b10 : Nat) (f0 l0 lc fc : List Value) (M gA N bX bY : Nat) (ws : List Int) (cX cY : List Value) (vH vT vW : Value) (lH lT lW : List Int) : Prop where
  S : St w0 w b9 b10 f0 l0 lc fc
  A : AmI w M gA ws
  X : CellsAt w bX cX
  Y : CellsAt w bY cY
  H : OwnI w N vH lH
  T : OwnI w N vT lT
  W : OwnI w N vW lW
section
variable {w0 w w' : World} {b9 b10 : Nat} {f0 l0 lc fc : List Value} {M gA N bX bY : Nat} {ws : List Int} {cX cY : List Value} {vH vT vW : Value} {lH lT lW : List Int}
theorem Zt.call (h : Zt w0 w b9 b10 f0 l0 lc fc M gA N bX bY ws cX cY vH vT vW lH lT lW) (hb : Below w.heap.size w w') : Zt w0 w' b9 b10 f0 l0 lc fc M gA N bX bY ws cX cY vH vT vW lH lT lW :=
  ⟨h.S.call hb, own_later h.A hb (Nat.le_refl _), h.X.call hb, h.Y.call hb, own_later h.H hb (Nat.le_refl _), own_later h.T hb (Nat.le_refl _), own_later h.W hb (Nat.le_refl _)⟩
theorem Zt.drew (h : Zt w0 w b9 b10 f0 l0 lc fc M gA N bX bY ws cX cY vH vT vW lH lT lW) : Zt w0 w.drew b9 b10 f0 l0 lc fc M gA N bX bY ws cX cY vH vT vW lH lT lW :=
  ⟨h.S.drew, h.A, h.X, h.Y, h.H, h.T, h.W⟩
theorem own_offI {B g : Nat} {v : Value} {l : List Int} (h : OwnI w B v l) (hg : w.grownBy w' (some g)) (hm : g < B) : OwnI w' B v l :=
  own_far h hg (fun e => by have := (h.lt g e).1; omega)
end
set_option maxHeartbeats 8000000 in
set_option maxRecDepth 100000 in
theorem way (k1 l1 q1 : Int) (v1 : Value) (ws1 : List Int) (k2 l2 q2 : Int) (v2 : Value) (ws2 : List Int) (h : Bool) (g d : Int) (s : ByteArray) (w : World)
    (hk1 : I64B k1) (hl1 : I64B l1) (hq1 : 0 ≤ q1 ∧ q1 ≤ 255) (hv1 : IntsAt .i32 w v1 ws1) (hw1 : ws1.length * 4 ≤ 140737488351232) (hb1 : ∀ x ∈ ws1, -2147483648 ≤ x ∧ x ≤ 2147483647)
    (hk2 : I64B k2) (hl2 : I64B l2) (hv2 : IntsAt .i32 w v2 ws2) (hw2 : ws2.length * 4 ≤ 140737488351232) (hs : s.size ≤ 140737488351232) :
    Calls Try.prog 9 #[frameV k1 l1 q1 v1, linkV k2 l2 q2 v2 h g d, .string s] w fun e w' => e = .returned (.bool true) ∧ Below w.heap.size w w' := by
  obtain ⟨a1, c1, rfl⟩ := hv1.len
  obtain ⟨a2, c2, rfl⟩ := hv2.len
  have HV1 := Lib.hid hv1; have HV2 := Lib.hid hv2; have HB1 := Lib.hid hb1; have HK1 := Lib.hid hk1; have HL1 := Lib.hid hl1; have HK2 := Lib.hid hk2; have HL2 := Lib.hid hl2
  clear hv1 hv2 hb1 hk1 hl1 hk2 hl2
  have hps : (packS 1 0 0 []).size = 5 := by rw [pack_size]; rfl
  go_enter Try.func9, Try.ntmps9
  go_upto_region 1 with (fail)
  have H0 : Hid (CellsAt ((w.alloc (.cells #[.int .i64 k1, .int .i64 l1, .int .u8 q1, .slice a1 ws1.length c1] 77)).alloc (.cells #[.int .i64 k2, .int .i64 l2, .int .u8 q2, .slice a2 ws2.length c2, .bool h, .int .i64 g, .int .i64 d] 79)) w.heap.size [.int .i64 k1, .int .i64 l1, .int .u8 q1, .slice a1 ws1.length c1]) := (CellsAt.new w _ _ _ rfl).alloc _
  have H1 : Hid (CellsAt ((w.alloc (.cells #[.int .i64 k1, .int .i64 l1, .int .u8 q1, .slice a1 ws1.length c1] 77)).alloc (.cells #[.int .i64 k2, .int .i64 l2, .int .u8 q2, .slice a2 ws2.length c2, .bool h, .int .i64 g, .int .i64 d] 79)) (w.heap.size + 1) [.int .i64 k2, .int .i64 l2, .int .u8 q2, .slice a2 ws2.length c2, .bool h, .int .i64 g, .int .i64 d]) := CellsAt.new' (by simp) rfl
  have B1 : Hid (Below w.heap.size w ((w.alloc (.cells #[.int .i64 k1, .int .i64 l1, .int .u8 q1, .slice a1 ws1.length c1] 77)).alloc (.cells #[.int .i64 k2, .int .i64 l2, .int .u8 q2, .slice a2 ws2.length c2, .bool h, .int .i64 g, .int .i64 d] 79))) := by repeat (first | with_reducible exact Below.refl _ _ | ((with_reducible refine Below.setCell ?_ ?_ _); rotate_left; (· first | (simp; done) | omega | (simp; omega))) | with_reducible refine below_drewN ?_ _ | with_reducible refine Below.drew ?_ | ((with_reducible refine Below.alloc ?_ ?_ _); rotate_left; (· first | (simp; done) | omega | (simp; omega))) | exact Below.refl _ _ | refine Below.setCell ?_ (by first | (simp; done) | omega | (simp; omega)) _ | refine below_drewN ?_ _ | refine Below.drew ?_ | refine Below.alloc ?_ (by first | (simp; done) | omega | (simp; omega)) _)
  generalize (w.alloc (.cells #[.int .i64 k1, .int .i64 l1, .int .u8 q1, .slice a1 ws1.length c1] 77)).alloc (.cells #[.int .i64 k2, .int .i64 l2, .int .u8 q2, .slice a2 ws2.length c2, .bool h, .int .i64 g, .int .i64 d] 79) = w1 at *
  obtain ⟨t, hpt⟩ : ∃ t, packS 1 0 0 [] = t := ⟨_, rfl⟩
  rw [hpt] at hps
  have HPT := Lib.hid hpt
  clear hpt
  have hps' : (t.size : Int) = 5 := by omega
  go_wp2_with fail
  refine (pack_yes 1 0 0 (.slice none 0 0) [] _ (.inl ⟨rfl, .inl rfl⟩) (.inl rfl) (by decide) (by decide) (by decide) (by simp)).mono ?_
  rw [HPT.out]
  rintro e w2 ⟨rfl, hb2⟩
  have H0' := Lib.hid (H0.out.call hb2); have H1' := Lib.hid (H1.out.call hb2)
  have B2 := Lib.hid (B1.out.trans (hb2.mono B1.out.size))
  clear H0 H1 B1 hb2
  have x0 := H0'.out.at_ 0 rfl; have x1 := H0'.out.at_ 1 rfl; have x2 := H0'.out.at_ 2 rfl; have x3 := H0'.out.at_ 3 rfl
  have y0 := H1'.out.at_ 0 rfl; have y1 := H1'.out.at_ 1 rfl; have y2 := H1'.out.at_ 2 rfl; have y3 := H1'.out.at_ 3 rfl; have y4 := H1'.out.at_ 4 rfl; have y5 := H1'.out.at_ 5 rfl; have y6 := H1'.out.at_ 6 rfl
  have xz := H0'.out.lt
  have yz := H1'.out.lt
  go_upto_region 4 with (fail)
  go_cut [9, 10] (fun s9 s10 wx => ∃ b9 b10, s9 = .pointer (some ⟨b9, 0, none⟩) ∧ s10 = .pointer (some ⟨b10, 0, none⟩) ∧ St w wx b9 b10 [.int .i64 k1, .int .i64 l1, .int .u8 q1, .slice a1 ws1.length c1] [.int .i64 k2, .int .i64 l2, .int .u8 q2, .slice a2 ws2.length c2, .bool h, .int .i64 g, .int .i64 d] [.int .i64 k2, .int .i64 l2, .int .u8 q2, .slice a2 ws2.length c2, .bool h, .int .i64 g, .int .i64 d] [.int .i64 k1, .int .i64 l1, .int .u8 q1, .slice a1 ws1.length c1])
  case first =>
    go_region
    all_goals
      go_wp2
      go_meet
      first
        | exact ⟨_, _, rfl, rfl, ⟨((H0'.out.alloc _).alloc _).drew, ((H1'.out.alloc _).alloc _).drew, ((CellsAt.new w2 _ _ _ rfl).alloc _).drew, (CellsAt.new' (by simp) rfl).drew, by omega, by omega, by omega, by have := B2.out; repeat (first | with_reducible exact Below.refl _ _ | with_reducible exact this | ((with_reducible refine Below.setCell ?_ ?_ _); rotate_left; (· first | (simp; done) | omega | (simp; omega))) | with_reducible refine below_drewN ?_ _ | with_reducible refine Below.drew ?_ | ((with_reducible refine Below.alloc ?_ ?_ _); rotate_left; (· first | (simp; done) | omega | (simp; omega))) | exact Below.refl _ _ | exact this | refine Below.setCell ?_ (by first | (simp; done) | omega | (simp; omega)) _ | refine below_drewN ?_ _ | refine Below.drew ?_ | refine Below.alloc ?_ (by first | (simp; done) | omega | (simp; omega)) _)⟩⟩
        | exact ⟨_, _, rfl, rfl, ⟨((H0'.out.alloc _).alloc _).drew, ((H1'.out.alloc _).alloc _).drew, (CellsAt.new' (by simp) rfl).drew, ((CellsAt.new w2 _ _ _ rfl).alloc _).drew, by omega, by omega, by omega, by have := B2.out; repeat (first | with_reducible exact Below.refl _ _ | with_reducible exact this | ((with_reducible refine Below.setCell ?_ ?_ _); rotate_left; (· first | (simp; done) | omega | (simp; omega))) | with_reducible refine below_drewN ?_ _ | with_reducible refine Below.drew ?_ | ((with_reducible refine Below.alloc ?_ ?_ _); rotate_left; (· first | (simp; done) | omega | (simp; omega))) | exact Below.refl _ _ | exact this | refine Below.setCell ?_ (by first | (simp; done) | omega | (simp; omega)) _ | refine below_drewN ?_ _ | refine Below.drew ?_ | refine Below.alloc ?_ (by first | (simp; done) | omega | (simp; omega)) _)⟩⟩
  case rest =>
    obtain ⟨b9, b10, rfl, rfl, hS⟩ := hcut
    clear H0' H1' B2 x0 x1 x2 x3 y0 y1 y2 y3 y4 y5 y6 xz yz
    have HS := Lib.hid hS
    have SRC2 : Hid (∀ W, Below w.heap.size w W → SrcAt W (.slice a2 ws2.length c2) 1 ws2.length (ws2.map (.int .i32))) := fun W hW => src_ints (HV2.out.later hW (Nat.le_refl _))
    have SRC1 : Hid (∀ W, Below w.heap.size w W → SrcAt W (.slice a1 ws1.length c1) 1 ws1.length (ws1.map (.int .i32))) := fun W hW => src_ints (HV1.out.later hW (Nat.le_refl _))
    have m0 := hS.H0.at_ 3 rfl; have m1 := hS.H1.at_ 3 rfl; have mz0 := hS.H0.lt; have mz1 := hS.H1.lt
    have z9' := hS.C9.lt; have z10' := hS.C10.lt
    have zc := hS.b.size
    have hne := hS.ne
    clear hS
    obtain ⟨M, hM⟩ : ∃ M, wc.heap.size = M := ⟨_, rfl⟩
    have zM : w.heap.size ≤ M := by omega
    go_upto_region 5 with (fail)
    go_cut [] (fun wx => ∃ gA gB, St w wx b9 b10 [.int .i64 k1, .int .i64 l1, .int .u8 q1, .slice a1 ws1.length c1] [.int .i64 k2, .int .i64 l2, .int .u8 q2, .slice a2 ws2.length c2, .bool h, .int .i64 g, .int .i64 d] [.int .i64 k2, .int .i64 l2, .int .u8 q2, (.slice (some ⟨gA, 0, none⟩) ws2.length (ws2.length + 3)), .bool h, .int .i64 g, .int .i64 d] [.int .i64 k1, .int .i64 l1, .int .u8 q1, (.slice (some ⟨gB, 0, none⟩) ws1.length (ws1.length + 3))] ∧ AmI wx M gA ws2 ∧ AmI wx M gB ws1 ∧ gA ≠ gB)
    case first =>
      subst hM
      go_region_with (first | (go_at_call 14; refine (ample_i32 ws2.length (ws2.map (.int .i32)) _ 77 _ (by first | exact SRC2.out _ HS.out.drew.b | exact SRC2.out _ SB.b | exact SRC2.out _ HS.out.b) (one_i32 _) (by omega)).mono ?_; rintro eA wA ⟨gA, rfl, hoA, hbA⟩; have SA : St w wA b9 b10 [.int .i64 k1, .int .i64 l1, .int .u8 q1, .slice a1 ws1.length c1] [.int .i64 k2, .int .i64 l2, .int .u8 q2, .slice a2 ws2.length c2, .bool h, .int .i64 g, .int .i64 d] [.int .i64 k2, .int .i64 l2, .int .u8 q2, .slice a2 ws2.length c2, .bool h, .int .i64 g, .int .i64 d] [.int .i64 k1, .int .i64 l1, .int .u8 q1, .slice a1 ws1.length c1] := (by first | exact HS.out.drew.call hbA | exact HS.out.call hbA | exact SB.call hbA); have SX := SA; have k9 := SX.C9.at_ 3 rfl; have k10 := SX.C10.at_ 3 rfl; have f9 := SX.C9.2.1; have f10 := SX.C10.2.1; have z9 := SX.C9.lt; have z10 := SX.C10.lt; have m0 := SX.H0.at_ 3 rfl; have m1 := SX.H1.at_ 3 rfl; have mz0 := SX.H0.lt; have mz1 := SX.H1.lt; (try have ownB := own_later hoB hbA (Nat.le_refl _)); (try have zzA := (own_blk hoB).2.2)) | (go_at_call 14; refine (ample_i32 ws1.length (ws1.map (.int .i32)) _ 77 _ (by first | exact SRC1.out _ HS.out.drew.b | exact SRC1.out _ SA.b | exact SRC1.out _ HS.out.b) (one_i32 _) (by omega)).mono ?_; rintro eB wB ⟨gB, rfl, hoB, hbB⟩; have SB : St w wB b9 b10 [.int .i64 k1, .int .i64 l1, .int .u8 q1, .slice a1 ws1.length c1] [.int .i64 k2, .int .i64 l2, .int .u8 q2, .slice a2 ws2.length c2, .bool h, .int .i64 g, .int .i64 d] [.int .i64 k2, .int .i64 l2, .int .u8 q2, .slice a2 ws2.length c2, .bool h, .int .i64 g, .int .i64 d] [.int .i64 k1, .int .i64 l1, .int .u8 q1, .slice a1 ws1.length c1] := (by first | exact HS.out.drew.call hbB | exact HS.out.call hbB | exact SA.call hbB); have SX := SB; have k9 := SX.C9.at_ 3 rfl; have k10 := SX.C10.at_ 3 rfl; have f9 := SX.C9.2.1; have f10 := SX.C10.2.1; have z9 := SX.C9.lt; have z10 := SX.C10.lt; have m0 := SX.H0.at_ 3 rfl; have m1 := SX.H1.at_ 3 rfl; have mz0 := SX.H0.lt; have mz1 := SX.H1.lt; (try have ownA := own_later hoA hbB (Nat.le_refl _)); (try have zzB := (own_blk hoA).2.2)))
      all_goals
        go_wp2
        go_meet
        first
          | (have q := (own_blk hoB).2.1; exact ⟨gA, gB, SB.upd _ _ (by simp) (by simp), am_set (am_set (by exact ownA) z9' 3 _) z10' 3 _, am_set (am_set (own_monoA hoB (by exact hbA.size)) z9' 3 _) z10' 3 _, by omega⟩)
          | (have q := (own_blk hoA).2.1; exact ⟨gA, gB, SA.upd _ _ (by simp) (by simp), am_set (am_set (own_monoA hoA (by exact hbB.size)) z9' 3 _) z10' 3 _, am_set (am_set (by exact ownB) z9' 3 _) z10' 3 _, by omega⟩)
    case rest =>
      obtain ⟨gA, gB, hS, hA, hB, hgg⟩ := hcut
      clear HS m0 m1 mz0 mz1 SRC1 SRC2
      have qA := (own_blk hA).2; have qB := (own_blk hB).2
      have n64a : ws2.length ≤ 281474976710656 := by omega
      have n64b : ws1.length ≤ 281474976710656 := by omega
      have HS := Lib.hid hS; have HA := Lib.hid hA; have HB := Lib.hid hB
      have j0 := hS.C10.at_ 0 rfl; have j1 := hS.C10.at_ 1 rfl; have j2 := hS.C10.at_ 2 rfl; have j3 := hS.C10.at_ 3 rfl; have jz := hS.C10.lt
      clear hS hA hB hM
      go_wp2_with fail
      refine (pack_any k1 l1 q1 _ ws1 _ hq1 (ints_front HB.out n64b) (by omega) HK1.out HL1.out HB1.out).mono ?_
      rintro e w3 ⟨⟨x, rfl⟩, hb3⟩
      have ST := HS.out.call hb3
      have HS3 := Lib.hid ST
      have HA3 := Lib.hid (own_later HA.out hb3 (Nat.le_refl _)); have HB3 := Lib.hid (own_later HB.out hb3 (Nat.le_refl _))
      have z3 := hb3.size
      have j0 := ST.C9.at_ 0 rfl
      have j1 := ST.C9.at_ 1 rfl
      have j2 := ST.C9.at_ 2 rfl
      have j3 := ST.C9.at_ 3 rfl
      have j4 := ST.C9.at_ 4 rfl
      have j5 := ST.C9.at_ 5 rfl
      have j6 := ST.C9.at_ 6 rfl
      have jz := ST.C9.lt
      clear ST hb3 HS HA HB
      go_wp2_with fail
      refine (hear_any k2 l2 q2 _ ws2 h g d _ s hs (ints_front HA3.out n64a) hw2 HK2.out HL2.out).mono ?_
      rintro e w4 ⟨kH, lH, qH, vH, hH, gH, dH, laH, cH, rfl, hlaH, hoH, hb4⟩
      obtain ⟨aH, pH, rfl⟩ := (own_ints' hoH).len
      have ha4 : Below w4.heap.size w4 (w4.alloc (.cells #[.int .i64 kH, .int .i64 lH, .int .u8 qH, .slice aH laH.length pH, .bool hH, .int .i64 gH, .int .i64 dH] 79)) := (Below.refl _ _).alloc (Nat.le_refl _) _
      have HX4 : Hid (CellsAt (w4.alloc (.cells #[.int .i64 kH, .int .i64 lH, .int .u8 qH, .slice aH laH.length pH, .bool hH, .int .i64 gH, .int .i64 dH] 79)) w4.heap.size [.int .i64 kH, .int .i64 lH, .int .u8 qH, .slice aH laH.length pH, .bool hH, .int .i64 gH, .int .i64 dH]) := CellsAt.new w4 _ _ _ rfl
      have ST := (HS3.out.call hb4).call ha4
      have HS4 := Lib.hid ST
      have HA4 := Lib.hid (own_later (own_later HA3.out hb4 (Nat.le_refl _)) ha4 (Nat.le_refl _)); have HB4 := Lib.hid (own_later (own_later HB3.out hb4 (Nat.le_refl _)) ha4 (Nat.le_refl _))
      have HH4 : Hid (OwnI (w4.alloc (.cells #[.int .i64 kH, .int .i64 lH, .int .u8 qH, .slice aH laH.length pH, .bool hH, .int .i64 gH, .int .i64 dH] 79)) w3.heap.size (.slice aH laH.length pH) laH) := own_later hoH ha4 (Nat.le_refl _)
      have z4 := hb4.size
      have z4a := ha4.size
      clear j0 j1 j2 j3 j4 j5 j6 jz
      have j0 := ST.C9.at_ 0 rfl
      have j1 := ST.C9.at_ 1 rfl
      have j2 := ST.C9.at_ 2 rfl
      have j3 := ST.C9.at_ 3 rfl
      have j4 := ST.C9.at_ 4 rfl
      have j5 := ST.C9.at_ 5 rfl
      have j6 := ST.C9.at_ 6 rfl
      have jz := ST.C9.lt
      clear ST hb4 ha4 HS3 HA3 HB3 hoH
      go_upto_region 8 with (fail)
      generalize w4.alloc (.cells #[.int .i64 kH, .int .i64 lH, .int .u8 qH, .slice aH laH.length pH, .bool hH, .int .i64 gH, .int .i64 dH] 79) = w5 at *
      go_wp2_with fail
      refine (tick_any k2 l2 q2 _ ws2 h g d _ (ints_front HA4.out n64a) hw2 HK2.out HL2.out).mono ?_
      rintro e w6 ⟨kT, lT, qT, vT, hT, gT, dT, laT, cT, rfl, hlaT, hoT, hb6⟩
      obtain ⟨aT, pT, rfl⟩ := (own_ints' hoT).len
      have ha6 : Below w6.heap.size w6 (w6.alloc (.cells #[.int .i64 kT, .int .i64 lT, .int .u8 qT, .slice aT laT.length pT, .bool hT, .int .i64 gT, .int .i64 dT] 79)) := (Below.refl _ _).alloc (Nat.le_refl _) _
      have HX6 := Lib.hid ((HX4.out.call hb6).call ha6)
      have HY6 : Hid (CellsAt (w6.alloc (.cells #[.int .i64 kT, .int .i64 lT, .int .u8 qT, .slice aT laT.length pT, .bool hT, .int .i64 gT, .int .i64 dT] 79)) w6.heap.size [.int .i64 kT, .int .i64 lT, .int .u8 qT, .slice aT laT.length pT, .bool hT, .int .i64 gT, .int .i64 dT]) := CellsAt.new w6 _ _ _ rfl
      have ST := (HS4.out.call hb6).call ha6
      have HS6 := Lib.hid ST
      have HA6 := Lib.hid (own_later (own_later HA4.out hb6 (Nat.le_refl _)) ha6 (Nat.le_refl _)); have HB6 := Lib.hid (own_later (own_later HB4.out hb6 (Nat.le_refl _)) ha6 (Nat.le_refl _))
      have HH6 := Lib.hid (own_later (own_later HH4.out hb6 (Nat.le_refl _)) ha6 (Nat.le_refl _))
      have HT6 : Hid (OwnI (w6.alloc (.cells #[.int .i64 kT, .int .i64 lT, .int .u8 qT, .slice aT laT.length pT, .bool hT, .int .i64 gT, .int .i64 dT] 79)) w5.heap.size (.slice aT laT.length pT) laT) := own_later hoT ha6 (Nat.le_refl _)
      have z6 := hb6.size
      have z6a := ha6.size
      clear j0 j1 j2 j3 j4 j5 j6 jz
      have j0 := ST.C9.at_ 0 rfl
      have j1 := ST.C9.at_ 1 rfl
      have j2 := ST.C9.at_ 2 rfl
      have j3 := ST.C9.at_ 3 rfl
      have j4 := ST.C9.at_ 4 rfl
      have j5 := ST.C9.at_ 5 rfl
      have j6 := ST.C9.at_ 6 rfl
      have jz := ST.C9.lt
      clear ST hb6 ha6 HS4 HA4 HB4 HH4 HX4 hoT
      go_upto_region 9 with (fail)
      generalize w6.alloc (.cells #[.int .i64 kT, .int .i64 lT, .int .u8 qT, .slice aT laT.length pT, .bool hT, .int .i64 gT, .int .i64 dT] 79) = w7 at *
      go_wp2_with fail
      refine (words_any k2 l2 q2 _ ws2 h g d _ 100 (by unfold I64B; omega) (ints_front HA6.out n64a) hw2 HK2.out HL2.out).mono ?_
      rintro e w8 ⟨vW, laW, cW, rfl, hlaW, hoW, hb8⟩
      obtain ⟨aW, pW, rfl⟩ := (own_ints' hoW).len
      have ST := HS6.out.call hb8
      have HS8 := Lib.hid ST
      have HA8 := Lib.hid (own_later HA6.out hb8 (Nat.le_refl _)); have HB8 := Lib.hid (own_later HB6.out hb8 (Nat.le_refl _))
      have HH8 := Lib.hid (own_later HH6.out hb8 (Nat.le_refl _)); have HT8 := Lib.hid (own_later HT6.out hb8 (Nat.le_refl _)); have HW8 := Lib.hid hoW
      have HX8 := Lib.hid (HX6.out.call hb8); have HY8 := Lib.hid (HY6.out.call hb8)
      have z8 := hb8.size
      clear j0 j1 j2 j3 j4 j5 j6 jz
      have j3 := ST.C9.at_ 3 rfl
      have i3 := ST.C10.at_ 3 rfl
      have m0 := ST.H0.at_ 3 rfl
      have m1 := ST.H1.at_ 3 rfl
      have jz := ST.C9.lt; have iz := ST.C10.lt; have mz0 := ST.H0.lt; have mz1 := ST.H1.lt
      clear hb8 HS6 HA6 HB6 HH6 HT6 HX6 HY6 hoW
      go_wp2_with fail
      refine (stays_i32 ws2 gA _ 77 _ (ints_front HA8.out n64a) (HV2.out.later HS8.out.b (Nat.le_refl _)) n64a (ample_cells HA8.out).1 (ample_cells HA8.out).2).mono ?_
      rintro e w9 ⟨rfl, m9, rfl⟩
      go_wp2_with fail
      refine (stays_i32 ws1 gB _ 77 _ (by have := ints_front HB8.out n64b; exact this) (by have := HV1.out.later HS8.out.b (Nat.le_refl _); exact this) n64b (by exact (ample_cells HB8.out).1) (by exact (ample_cells HB8.out).2)).mono ?_
      rintro e w9 ⟨rfl, m10, rfl⟩
      have zM8 := HS8.out.b.size
      have HZ : Hid (Zt w (w8.drewN (m9 + m10)) b9 b10 [.int .i64 k1, .int .i64 l1, .int .u8 q1, .slice a1 ws1.length c1] [.int .i64 k2, .int .i64 l2, .int .u8 q2, .slice a2 ws2.length c2, .bool h, .int .i64 g, .int .i64 d] [.int .i64 k2, .int .i64 l2, .int .u8 q2, (.slice (some ⟨gA, 0, none⟩) ws2.length (ws2.length + 3)), .bool h, .int .i64 g, .int .i64 d] [.int .i64 k1, .int .i64 l1, .int .u8 q1, (.slice (some ⟨gB, 0, none⟩) ws1.length (ws1.length + 3))] M gA w3.heap.size w4.heap.size w6.heap.size ws2 [.int .i64 kH, .int .i64 lH, .int .u8 qH, .slice aH laH.length pH, .bool hH, .int .i64 gH, .int .i64 dH] [.int .i64 kT, .int .i64 lT, .int .u8 qT, .slice aT laT.length pT, .bool hT, .int .i64 gT, .int .i64 dT] (.slice aH laH.length pH) (.slice aT laT.length pT) (.slice aW laW.length pW) laH laT laW) := ⟨HS8.out.drewN (m9 + m10), HA8.out, HX8.out, HY8.out, HH8.out, own_monoA HT8.out (by omega), own_monoA HW8.out (by omega)⟩
      have zz8 : (w8.drewN (m9 + m10)).heap.size = w8.heap.size := by simp
      have zN : w3.heap.size ≤ (w8.drewN (m9 + m10)).heap.size := by omega
      clear zz8
      clear j3 i3 m0 m1 jz iz mz0 mz1 HS8 HA8 HB8 HH8 HT8 HW8 HX8 HY8
      go_upto_region 12 with (fail)
      generalize w8.drewN (m9 + m10) = w9 at *
      have x3 := HZ.out.X.at_ 3 rfl; have y3 := HZ.out.Y.at_ 3 rfl; have xz := HZ.out.X.lt; have yz := HZ.out.Y.lt
      go_upto_region 13 with (fail)
      go_cut [17, 18, 19] (fun s17 s18 s19 wx => Zt w wx b9 b10 [.int .i64 k1, .int .i64 l1, .int .u8 q1, .slice a1 ws1.length c1] [.int .i64 k2, .int .i64 l2, .int .u8 q2, .slice a2 ws2.length c2, .bool h, .int .i64 g, .int .i64 d] [.int .i64 k2, .int .i64 l2, .int .u8 q2, (.slice (some ⟨gA, 0, none⟩) ws2.length (ws2.length + 3)), .bool h, .int .i64 g, .int .i64 d] [.int .i64 k1, .int .i64 l1, .int .u8 q1, (.slice (some ⟨gB, 0, none⟩) ws1.length (ws1.length + 3))] M gA w3.heap.size w4.heap.size w6.heap.size ws2 [.int .i64 kH, .int .i64 lH, .int .u8 qH, .slice aH laH.length pH, .bool hH, .int .i64 gH, .int .i64 dH] [.int .i64 kT, .int .i64 lT, .int .u8 qT, .slice aT laT.length pT, .bool hT, .int .i64 gT, .int .i64 dT] (.slice aH laH.length pH) (.slice aT laT.length pT) (.slice aW laW.length pW) laH laT laW ∧ OwnI wx w3.heap.size s17 laH ∧ OwnI wx w3.heap.size s18 laT ∧ OwnI wx w3.heap.size s19 laW)
      case first =>
        go_region_with (first | (go_at_call 17; refine (clone_i32 laH _ _ (by first | exact own_ints' ZZ.H | exact own_ints' HZ.out.drew.H | exact own_ints' HZ.out.H) (by omega)).mono ?_; rintro eH wH ⟨vH, rfl, hoH, hbH⟩; have KZ : w3.heap.size ≤ wH.heap.size := Nat.le_trans (by first | exact zz | exact zN) hbH.size; (try have KH := own_later KH hbH (Nat.le_refl _)); (try have KT := own_later KT hbH (Nat.le_refl _)); (try have KW := own_later KW hbH (Nat.le_refl _)); have KH : OwnI wH w3.heap.size vH laH := own_monoA hoH (by first | exact zz | exact zN); have zz := KZ; have ZZ : Zt w wH b9 b10 [.int .i64 k1, .int .i64 l1, .int .u8 q1, .slice a1 ws1.length c1] [.int .i64 k2, .int .i64 l2, .int .u8 q2, .slice a2 ws2.length c2, .bool h, .int .i64 g, .int .i64 d] [.int .i64 k2, .int .i64 l2, .int .u8 q2, (.slice (some ⟨gA, 0, none⟩) ws2.length (ws2.length + 3)), .bool h, .int .i64 g, .int .i64 d] [.int .i64 k1, .int .i64 l1, .int .u8 q1, (.slice (some ⟨gB, 0, none⟩) ws1.length (ws1.length + 3))] M gA w3.heap.size w4.heap.size w6.heap.size ws2 [.int .i64 kH, .int .i64 lH, .int .u8 qH, .slice aH laH.length pH, .bool hH, .int .i64 gH, .int .i64 dH] [.int .i64 kT, .int .i64 lT, .int .u8 qT, .slice aT laT.length pT, .bool hT, .int .i64 gT, .int .i64 dT] (.slice aH laH.length pH) (.slice aT laT.length pT) (.slice aW laW.length pW) laH laT laW := (by first | exact ZZ.call hbH | exact HZ.out.drew.call hbH | exact HZ.out.call hbH); have x3 := ZZ.X.at_ 3 rfl; have y3 := ZZ.Y.at_ 3 rfl; have xz := ZZ.X.lt; have yz := ZZ.Y.lt) | (go_at_call 17; refine (clone_i32 laT _ _ (by first | exact own_ints' ZZ.T | exact own_ints' HZ.out.drew.T | exact own_ints' HZ.out.T) (by omega)).mono ?_; rintro eT wT ⟨vT, rfl, hoT, hbT⟩; have KZ : w3.heap.size ≤ wT.heap.size := Nat.le_trans (by first | exact zz | exact zN) hbT.size; (try have KH := own_later KH hbT (Nat.le_refl _)); (try have KT := own_later KT hbT (Nat.le_refl _)); (try have KW := own_later KW hbT (Nat.le_refl _)); have KT : OwnI wT w3.heap.size vT laT := own_monoA hoT (by first | exact zz | exact zN); have zz := KZ; have ZZ : Zt w wT b9 b10 [.int .i64 k1, .int .i64 l1, .int .u8 q1, .slice a1 ws1.length c1] [.int .i64 k2, .int .i64 l2, .int .u8 q2, .slice a2 ws2.length c2, .bool h, .int .i64 g, .int .i64 d] [.int .i64 k2, .int .i64 l2, .int .u8 q2, (.slice (some ⟨gA, 0, none⟩) ws2.length (ws2.length + 3)), .bool h, .int .i64 g, .int .i64 d] [.int .i64 k1, .int .i64 l1, .int .u8 q1, (.slice (some ⟨gB, 0, none⟩) ws1.length (ws1.length + 3))] M gA w3.heap.size w4.heap.size w6.heap.size ws2 [.int .i64 kH, .int .i64 lH, .int .u8 qH, .slice aH laH.length pH, .bool hH, .int .i64 gH, .int .i64 dH] [.int .i64 kT, .int .i64 lT, .int .u8 qT, .slice aT laT.length pT, .bool hT, .int .i64 gT, .int .i64 dT] (.slice aH laH.length pH) (.slice aT laT.length pT) (.slice aW laW.length pW) laH laT laW := (by first | exact ZZ.call hbT | exact HZ.out.drew.call hbT | exact HZ.out.call hbT); have x3 := ZZ.X.at_ 3 rfl; have y3 := ZZ.Y.at_ 3 rfl; have xz := ZZ.X.lt; have yz := ZZ.Y.lt) | (go_at_call 17; refine (clone_i32 laW _ _ (by first | exact own_ints' ZZ.W | exact own_ints' HZ.out.drew.W | exact own_ints' HZ.out.W) (by omega)).mono ?_; rintro eW wW ⟨vW, rfl, hoW, hbW⟩; have KZ : w3.heap.size ≤ wW.heap.size := Nat.le_trans (by first | exact zz | exact zN) hbW.size; (try have KH := own_later KH hbW (Nat.le_refl _)); (try have KT := own_later KT hbW (Nat.le_refl _)); (try have KW := own_later KW hbW (Nat.le_refl _)); have KW : OwnI wW w3.heap.size vW laW := own_monoA hoW (by first | exact zz | exact zN); have zz := KZ; have ZZ : Zt w wW b9 b10 [.int .i64 k1, .int .i64 l1, .int .u8 q1, .slice a1 ws1.length c1] [.int .i64 k2, .int .i64 l2, .int .u8 q2, .slice a2 ws2.length c2, .bool h, .int .i64 g, .int .i64 d] [.int .i64 k2, .int .i64 l2, .int .u8 q2, (.slice (some ⟨gA, 0, none⟩) ws2.length (ws2.length + 3)), .bool h, .int .i64 g, .int .i64 d] [.int .i64 k1, .int .i64 l1, .int .u8 q1, (.slice (some ⟨gB, 0, none⟩) ws1.length (ws1.length + 3))] M gA w3.heap.size w4.heap.size w6.heap.size ws2 [.int .i64 kH, .int .i64 lH, .int .u8 qH, .slice aH laH.length pH, .bool hH, .int .i64 gH, .int .i64 dH] [.int .i64 kT, .int .i64 lT, .int .u8 qT, .slice aT laT.length pT, .bool hT, .int .i64 gT, .int .i64 dT] (.slice aH laH.length pH) (.slice aT laT.length pT) (.slice aW laW.length pW) laH laT laW := (by first | exact ZZ.call hbW | exact HZ.out.drew.call hbW | exact HZ.out.call hbW); have x3 := ZZ.X.at_ 3 rfl; have y3 := ZZ.Y.at_ 3 rfl; have xz := ZZ.X.lt; have yz := ZZ.Y.lt))
        all_goals
          go_wp2
          go_meet
          exact ⟨ZZ, KH, KT, KW⟩
      case rest =>
        obtain ⟨hZ, hKH, hKT, hKW⟩ := hcut
        have gAw : gA < w3.heap.size := by omega
        have gAm : w.heap.size ≤ gA := by omega
        have nX : w4.heap.size ≠ gA := by omega
        have nY : w6.heap.size ≠ gA := by omega
        have HZ' := Lib.hid hZ; have HKH := Lib.hid hKH; have HKT := Lib.hid hKT; have HKW := Lib.hid hKW
        have j3 := hZ.S.C9.at_ 3 rfl; have jz := hZ.S.C9.lt
        clear hZ hKH hKT hKW HZ x3 y3 xz yz
        go_wp2_with fail
        refine (spoil_i32 gA ws2.length (ws2.length + 3) 5 _ (own_blk HZ'.out.A).1 (by omega) (by omega)).mono ?_
        rintro e wS ⟨rfl, hgS⟩
        have BS := Lib.hid (HZ'.out.S.b.grown hgS HZ'.out.S.b.size (fun k e => by cases e; exact gAm))
        have XS := far_cellsA HZ'.out.X hgS nX; have YS := far_cellsA HZ'.out.Y hgS nY
        have LH := Lib.hid (own_ints' (own_offI HZ'.out.H hgS gAw)); have LT := Lib.hid (own_ints' (own_offI HZ'.out.T hgS gAw)); have LW := Lib.hid (own_ints' (own_offI HZ'.out.W hgS gAw))
        have MH := Lib.hid (own_ints' (own_offI HKH.out hgS gAw)); have MT := Lib.hid (own_ints' (own_offI HKT.out hgS gAw)); have MW := Lib.hid (own_ints' (own_offI HKW.out hgS gAw))
        have x3 := XS.at_ 3 rfl; have y3 := YS.at_ 3 rfl; have xz := XS.lt; have yz := YS.lt
        clear XS YS HZ' HKH HKT HKW j3 jz hgS
        go_wp2_with fail
        refine (equal_i32 laH laH _ _ _ LH.out MH.out (by omega) (by omega)).mono ?_
        rintro e wE ⟨m16, rfl, rfl⟩
        rw [show decide (laH = laH) = true from decide_eq_true rfl]
        go_wp2_with fail
        refine (equal_i32 laT laT _ _ _ (by exact LT.out) (by exact MT.out) (by omega) (by omega)).mono ?_
        rintro e wE ⟨m17, rfl, rfl⟩
        rw [show decide (laT = laT) = true from decide_eq_true rfl]
        go_wp2_with fail
        refine (equal_i32 laW laW _ _ _ (by exact LW.out) (by exact MW.out) (by omega) (by omega)).mono ?_
        rintro e wE ⟨m18, rfl, rfl⟩
        rw [show decide (laW = laW) = true from decide_eq_true rfl]
        go_wp2
        go_ret
        exact ⟨rfl, by have := BS.out; repeat (first | with_reducible exact Below.refl _ _ | with_reducible exact this | ((with_reducible refine Below.setCell ?_ ?_ _); rotate_left; (· first | (simp; done) | omega | (simp; omega))) | with_reducible refine below_drewN ?_ _ | with_reducible refine Below.drew ?_ | ((with_reducible refine Below.alloc ?_ ?_ _); rotate_left; (· first | (simp; done) | omega | (simp; omega))) | exact Below.refl _ _ | exact this | refine Below.setCell ?_ (by first | (simp; done) | omega | (simp; omega)) _ | refine below_drewN ?_ _ | refine Below.drew ?_ | refine Below.alloc ?_ (by first | (simp; done) | omega | (simp; omega)) _)⟩
theorem i32_bd {k : Nat} {w : World} {a : Option Addr} {len cap : Nat} {zs : List Int} (h : Open.IsRow .i32 w a len cap zs) : ∀ x ∈ zs.take k, -2147483648 ≤ x ∧ x ≤ 2147483647 := by
  intro x hx
  have hx := List.mem_of_mem_take hx
  rcases h with ⟨-, -, -, rfl⟩ | ⟨y, rfl, hl, hm, hz, hcell, hwz⟩
  · simp at hx
  · exact bounds_i32 (hwz x hx)
theorem law (k1 l1 q1 : Int) (a1 : Option Addr) (n1 c1 : Nat) (zs1 : List Int) (k2 l2 q2 : Int) (a2 : Option Addr) (n2 c2 : Nat) (zs2 : List Int) (h : Bool) (g d : Int) (s : ByteArray) (w : World)
    (hk1 : I64B k1) (hl1 : I64B l1) (hq1 : 0 ≤ q1 ∧ q1 ≤ 255) (h1 : IsRow .i32 w a1 n1 c1 zs1) (r1 : n1 ≤ c1 ∧ c1 * 4 ≤ 140737488351232)
    (hk2 : I64B k2) (hl2 : I64B l2) (hq2 : 0 ≤ q2 ∧ q2 ≤ 255) (h2 : IsRow .i32 w a2 n2 c2 zs2) (r2 : n2 ≤ c2 ∧ c2 * 4 ≤ 140737488351232)
    (hg : I64B g) (hd : I64B d) (hm : s.size ≤ maxLen) (hs : s.size ≤ 140737488351232) :
    Calls Try.prog 9 #[.agg #[.int .i64 k1, .int .i64 l1, .int .u8 q1, .slice a1 n1 c1], .agg #[.int .i64 k2, .int .i64 l2, .int .u8 q2, .slice a2 n2 c2, .bool h, .int .i64 g, .int .i64 d], .string s] w fun e w' => e = .returned (.bool true) ∧ Below w.heap.size w w' := by
  obtain ⟨q3, q4⟩ := isRow_ints h1
  obtain ⟨q5, q6⟩ := isRow_ints h2
  exact way k1 l1 q1 _ (zs1.take n1) k2 l2 q2 _ (zs2.take n2) h g d s w hk1 hl1 hq1 q3 (by omega) (i32_bd h1) hk2 hl2 q5 (by omega) hs
set_option maxRecDepth 100000 in
theorem lifted (os : Os) (started : os.Started) (H : Type) (enc : TypeId × Value → H) :
    ReturnsInHanded {} Try.checked os 9 .any (Rows.linkOwnSpec.pre6 enc Try.prog Try.f9 Rows.linkOwnRow.domain false) (Rows.linkOwnSpec.post enc Try.prog Try.f9 false true false false) := by
  refine returnsInHanded_of_change_sized (C := Try.checked) own started (by kernel_rfl) Try.func9
    (ChangeSpec.witness6 (enc := enc) (C := Try.checked) false ⟨#[], #[.agg #[.int .i64 0, .int .i64 0, .int .u8 0, .slice none 0 0], .agg #[.int .i64 0, .int .i64 0, .int .u8 0, .slice none 0 0, .bool false, .int .i64 0, .int .i64 0], .string ByteArray.empty], []⟩ 8 (by kernel_rfl) (by kernel_rfl) (by kernel_rfl) (by kernel_rfl)) ?_
  intro W base args ds gs before hval0 hW hcnd hsz0 _
  have hsz : (DataW.weightsEach Try.prog (Try.f9.params.toList ++ Rows.linkOwnSpec.plain.varTypes Try.prog) (ds ++ gs)).all (· ≤ reachBytes) = true := hsz0
  have hval : ∀ (j : Nat) t v, Try.f9.params[j]? = some t → args[j]? = some v → Value.okWide Try.prog W .any base t v := hval0
  have hW' := hW
  obtain ⟨p, q, hA0, hV, rfl, hfz, hnd⟩ := hW
  have hA : DataW.TrodAll enc Try.prog W 0 (fun _ => true) true Try.f9.params.toList args.toList ds p := hA0
  rw [Try.params9] at hA hval hsz
  obtain ⟨v0, vs0, d0, ds0, p0, q0, hargs, rfl, rfl, h0, r0⟩ := trodAll_cons hA
  obtain ⟨v1, vs1, d1, ds1, p1, q1, rfl, rfl, rfl, h1, r1⟩ := trodAll_cons r0
  obtain ⟨v2, vs2, d2, ds2, p2, q2, rfl, rfl, rfl, h2, r2⟩ := trodAll_cons r1
  obtain ⟨rfl, rfl, rfl⟩ := trodAll_nil r2
  obtain rfl : args = #[v0, v1, v2] := by cases args; simp_all
  obtain ⟨rfl, rfl⟩ := trodVars_none hV
  have k0 := h0
  have lt0 : ∀ x ∈ p0, x.block < W.heap.size := by obtain ⟨m, hm⟩ := k0; exact DataW.trod_lt m _ _ _ hm
  have k1 := h1
  have lt1 : ∀ x ∈ p1, x.block < W.heap.size := by obtain ⟨m, hm⟩ := k1; exact DataW.trod_lt m _ _ _ hm
  have k2 := h2
  have lt2 : ∀ x ∈ p2, x.block < W.heap.size := by obtain ⟨m, hm⟩ := k2; exact DataW.trod_lt m _ _ _ hm
  obtain ⟨cs0, rfl, lf0_0⟩ := open_flatS 12 [3, 3, 5, 22] (by kernel_rfl) (by kernel_rfl) (by kernel_rfl) (hval 0 77 v0 rfl rfl) h0 (weights_of hsz (j := 0) (t := 77) rfl rfl)
  obtain ⟨c0_0, r0_0, rfl, y0_0, yw0_0, lf0_1⟩ := leafsS_cons lf0_0
  obtain ⟨a0_0, rfl, w0_0⟩ := leaf_int Try.underlying3 y0_0
  obtain ⟨c0_1, r0_1, rfl, y0_1, yw0_1, lf0_2⟩ := leafsS_cons lf0_1
  obtain ⟨a0_1, rfl, w0_1⟩ := leaf_int Try.underlying3 y0_1
  obtain ⟨c0_2, r0_2, rfl, y0_2, yw0_2, lf0_3⟩ := leafsS_cons lf0_2
  obtain ⟨a0_2, rfl, w0_2⟩ := leaf_int Try.underlying5 y0_2
  obtain ⟨c0_3, r0_3, rfl, y0_3, yw0_3, lf0_4⟩ := leafsS_cons lf0_3
  obtain ⟨a0_3, len0_3, cap0_3, z0_3, rfl, w0_3⟩ := leaf_ints Try.underlying22 Try.underlying21 (by kernel_rfl) y0_3
  have Q0_3 := cap_leS (B := 4) Try.underlying22 (by kernel_rfl) yw0_3
  obtain rfl := leafsS_nil lf0_4
  obtain ⟨cs1, rfl, lf1_0⟩ := open_flatS 12 [3, 3, 5, 22, 4, 3, 3] (by kernel_rfl) (by kernel_rfl) (by kernel_rfl) (hval 1 79 v1 rfl rfl) h1 (weights_of hsz (j := 1) (t := 79) rfl rfl)
  obtain ⟨c1_0, r1_0, rfl, y1_0, yw1_0, lf1_1⟩ := leafsS_cons lf1_0
  obtain ⟨a1_0, rfl, w1_0⟩ := leaf_int Try.underlying3 y1_0
  obtain ⟨c1_1, r1_1, rfl, y1_1, yw1_1, lf1_2⟩ := leafsS_cons lf1_1
  obtain ⟨a1_1, rfl, w1_1⟩ := leaf_int Try.underlying3 y1_1
  obtain ⟨c1_2, r1_2, rfl, y1_2, yw1_2, lf1_3⟩ := leafsS_cons lf1_2
  obtain ⟨a1_2, rfl, w1_2⟩ := leaf_int Try.underlying5 y1_2
  obtain ⟨c1_3, r1_3, rfl, y1_3, yw1_3, lf1_4⟩ := leafsS_cons lf1_3
  obtain ⟨a1_3, len1_3, cap1_3, z1_3, rfl, w1_3⟩ := leaf_ints Try.underlying22 Try.underlying21 (by kernel_rfl) y1_3
  have Q1_3 := cap_leS (B := 4) Try.underlying22 (by kernel_rfl) yw1_3
  obtain ⟨c1_4, r1_4, rfl, y1_4, yw1_4, lf1_5⟩ := leafsS_cons lf1_4
  obtain ⟨a1_4, rfl⟩ := leaf_bool Try.underlying4 y1_4
  obtain ⟨c1_5, r1_5, rfl, y1_5, yw1_5, lf1_6⟩ := leafsS_cons lf1_5
  obtain ⟨a1_5, rfl, w1_5⟩ := leaf_int Try.underlying3 y1_5
  obtain ⟨c1_6, r1_6, rfl, y1_6, yw1_6, lf1_7⟩ := leafsS_cons lf1_6
  obtain ⟨a1_6, rfl, w1_6⟩ := leaf_int Try.underlying3 y1_6
  obtain rfl := leafsS_nil lf1_7
  obtain ⟨a2, rfl, rfl, rfl, w2⟩ := Go.ChangeMaps.open_string Try.underlying9 (hval 2 9 v2 rfl rfl) h2
  have R2 : a2.size ≤ 140737488351232 := by have := sized_string hsz (j := 2) (t := 9) (bytes := a2.data.toList) rfl rfl; simpa [reachBytes] using this
  clear hA0 hval0
  refine (law a0_0 a0_1 a0_2 a0_3 len0_3 cap0_3 z0_3 a1_0 a1_1 a1_2 a1_3 len1_3 cap1_3 z1_3 a1_4 a1_5 a1_6 a2 W (bounds_i64 w0_0) (bounds_i64 w0_1) (bounds_u8 w0_2) w0_3 Q0_3 (bounds_i64 w1_0) (bounds_i64 w1_1) (bounds_u8 w1_2) w1_3 Q1_3 (bounds_i64 w1_5) (bounds_i64 w1_6) w2 R2).mono fun e W' ⟨he, bel⟩ => ?_
  subst he
  exact ⟨_, rfl, _, _, _, [], _, [], hW', trodAll_mk1 (shut_bool Try.underlying4 _), (trodAll_cons_mk (Below.trod laidOut (by kernel_rfl) (of_decide_eq_true (by kernel_rfl)) k0 bel lt0) (trodAll_cons_mk (Below.trod laidOut (by kernel_rfl) (of_decide_eq_true (by kernel_rfl)) k1 bel lt1) (trodAll_cons_mk (Below.trod laidOut (by kernel_rfl) (of_decide_eq_true (by kernel_rfl)) k2 bel lt2) trodAll_mk0))), rfl, bel.frame _, fun h => by cases h⟩
theorem over : Rows.linkOwnRow.holds Try.pinned (OpenSpec.ofChange Rows.linkOwnSpec) :=
  OpenClaim.holds_of_wide 9 Try.f9 rfl rfl rfl rfl rfl rfl rfl ⟨rfl, rfl, rfl, rfl, rfl⟩ rfl rfl rfl rfl rfl (by kernel_rfl) Try.func9 (by kernel_rfl)
    (of_decide_eq_true (by kernel_rfl)) (by unfold Func.isWrapper; first | (rw [if_pos (by decide +kernel)]; kernel_rfl) | (rw [if_neg (by decide +kernel)]; exact ⟨rfl, rfl⟩))
    (fun os started H enc _ => lifted os started H enc)
theorem proved : Rows.LinkOwnSaid := over
#print axioms proved

end Go.Proofs.Ytglagndpholejaa.linkOwn
