/- cuts.Cuts on a tree: the lists of least sets, gate by gate. -/
import Derived.Test.YtiocgmioijcjhaaCutsGate
namespace Go.Proofs.Ytiocgmioijcjhaa
open Go.ChangeShapes Go.WideShapes Go.ChangeAt Go.RowKit
set_option linter.unusedVariables false

/-- a slice in memory no elder than block B -/
def NewV (B : Nat) (v : Value) : Prop := ∀ b o n l c, v = .slice (some ⟨b, o, n⟩) l c → B ≤ b
theorem NewV.own {w : World} {base B k n : Nat} {e : TypeId} {v : Value} {xs : List Value} (h : w.ownsRow base e k v n xs) (hb : B ≤ base) : NewV B v := by
  rintro b o m l c rfl
  rcases h.2 with ⟨h1, -⟩ | ⟨g', cap', cur, h1, h2, -⟩
  · cases h1
  · cases h1; omega
theorem NewV.nil (B : Nat) {l c : Nat} : NewV B (.slice none l c) := by
  rintro b o m l c h; cases h
/-- the first k cells of block g hold slices no elder than block B -/
def NewBlk (w : World) (g k B : Nat) : Prop := ∀ j x, j < k → w.cell? ⟨g, j, none⟩ = some x → NewV B x
theorem NewBlk.zero (w : World) (g B : Nat) : NewBlk w g 0 B := fun j x h => absurd h (Nat.not_lt_zero _)
theorem NewBlk.later {w w' : World} {g k B : Nat} (h : NewBlk w g k B) (hb : Below w.heap.size w w') (hg : g < w.heap.size) : NewBlk w' g k B := fun j x hj hx =>
  h j x hj (by rw [← hb.cell (p := ⟨g, j, none⟩) hg]; exact hx)
theorem NewBlk.push {w : World} {g k B : Nat} {x y : Value} (h : NewBlk w g k B) (hc : w.cell? ⟨g, k, none⟩ = some y) (hx : NewV B x) : NewBlk (w.setCell ⟨g, k, none⟩ x) g (k + 1) B := fun j u hj hu => by
  by_cases e : j = k
  · subst e
    rw [World.cell?_setCell_same _ _ _ hc] at hu
    cases hu; exact hx
  · rw [World.cell?_setCell_other _ _ _ _ (fun e2 => by have e3 := congrArg Addr.off e2; simp at e3; omega)] at hu
    exact h j u (by omega) hu
def CutsRel (ts : List GateR) (w : World) (g : Nat) (i : Value) (wr : World) : Prop :=
  ∃ k : Nat, k ≤ ts.length ∧ i = .int .i64 k ∧ SetBlk wr g ts.length (cutsK ts k) ∧ Below w.heap.size w wr ∧ NewBlk wr g k w.heap.size
abbrev TRow : TypeId := 37
/-- the inputs' lists, as far as they are gathered: a row of the call's own; what it lists was there ahead of it -/
def InSets (prev : List (List Nat)) (of : List Int) (W5 : World) (o j : Value) (wx : World) : Prop :=
  ∃ (m : Nat) (vals : List Value), m ≤ of.length ∧ j = .int .i64 m ∧ vals.length = m ∧ wx.ownsRow W5.heap.size TRow 1 o m vals ∧
    (∀ i x, vals[i]? = some x → ∃ a l c, x = .slice a l c ∧ IntsAt .u16 W5 x (u16s (prev.getD (of.getD i 0).toNat []))) ∧ Below W5.heap.size W5 wx
theorem sets_of_row {w : World} {base : Nat} {v : Value} {n : Nat} {vals : List Value} {ss : List (List Nat)} (h : w.ownsRow base TRow 1 v n vals) (hn : vals.length = n) (hs : ss.length = n)
    (hv : ∀ (i : Nat) (x : Value) (s : List Nat), vals[i]? = some x → ss[i]? = some s → IntsAt .u16 w x (u16s s)) : SetsAt w v ss := by
  by_cases h0 : n = 0
  · subst h0
    obtain rfl := List.eq_nil_of_length_eq_zero hs
    rcases h.2 with ⟨h1, -⟩ | ⟨g, cap, cur, h1, -⟩
    · exact .inl ⟨rfl, .inl h1⟩
    · exact .inl ⟨rfl, .inr ⟨_, _, h1⟩⟩
  · rcases h.2 with ⟨-, h1⟩ | ⟨g, cap, cur, rfl, hb, hblk, hl, hm, -, -⟩
    · exact absurd h1 h0
    · refine .inr ⟨by omega, g, 0, cap, by rw [hs], by omega, by unfold maxLen at hm; exact hm, fun i s his => ?_⟩
      have hi : i < n := by
        have := (List.getElem?_eq_some_iff.1 his).1
        omega
      obtain ⟨x, hx⟩ : ∃ x, vals[i]? = some x := ⟨_, List.getElem?_eq_getElem (by omega)⟩
      refine ⟨x, ?_, hv i x s hx his⟩
      rw [Nat.zero_add, h.cellAt i (by omega), hx]
theorem own_lit (W : World) (c : Nat) : OwnU (W.alloc (.cells #[.int .u16 (c : Int)] TU)) W.heap.size (.slice (some ⟨W.heap.size, 0, none⟩) 1 1) [c] :=
  World.ownsRow_lit (size := 1) W #[.int .u16 (c : Int)] 1 (Nat.le_refl _) (by decide) rfl
set_option maxHeartbeats 16000000 in
set_option maxRecDepth 100000 in
theorem cuts_own (ts : List GateR) (v : Value) (w : World) (hv : GatesAt w v ts) (hok : TreeOk ts) :
    Calls Try.prog 16 #[v] w fun e w' => (∃ v', e = .returned (.tuple #[v', .int .i64 0]) ∧ IntsAt .u16 w' v' (u16s (cutsL ts)) ∧ NewV w.heap.size v') ∧ Below w.heap.size w w' := by
  obtain ⟨a, cap, rfl⟩ := hv.len
  have HV := Lib.hid hv; have HOK := Lib.hid hok
  have hn1 := hok.1; have hn2 := hok.2.1
  obtain ⟨i0, hi, hz0, hz1, hz2⟩ := info_parts (show (Try.prog.info? 37).map (fun i => (i.zero, i.size, i.bytes)) = some (some (.slice none 0 0), 1, 24) by kernel_rfl)
  have hmk : ∀ W : World, (Instr.makeSlice 68 (.int .i64 (ts.length : Int)) (.int .i64 (ts.length : Int))).run Try.prog W = .ok (.slice (some ⟨W.heap.size, 0, none⟩) ts.length ts.length) (W.alloc (.cells (madeCells #[.slice none 0 0] ts.length) 37)) := by
    intro W
    have := run_make (P := Try.prog) W 68 37 i0 (.slice none 0 0) Try.underlying68 hi hz0 .i64 .i64 (ts.length : Int) (ts.length : Int) (by omega) (by omega) (by rw [hz2]; omega) (by omega)
    rw [this, hz1]
    simp [Value.cells]
  clear hv hok
  go_enter Try.func16, Try.ntmps16
  go_wp2_with fail
  refine (cutsCheck_is ts _ _ HV.out (by omega)).mono ?_
  rintro e w1 ⟨h1, -, hb1⟩
  obtain rfl := h1 HOK.out
  have HB1 := Lib.hid hb1
  have HBLK := Lib.hid (SetBlk.made w1 37 ts.length)
  have HB0 : Hid (Below w.heap.size w (w1.alloc (.cells (madeCells #[.slice none 0 0] ts.length) 37))) := HB1.out.alloc HB1.out.size _
  clear h1 hb1
  go_wp2_with fail
  have z1 := HB1.out.size
  generalize hgg : w1.heap.size = gb at *
  generalize w1.alloc (.cells (madeCells #[.slice none 0 0] ts.length) 37) = w0 at *
  clear hgg HB1
  go_loopw [21] (fun i wr => CutsRel ts w gb i wr) (fun i _ => ts.length - (intOf i).toNat)
  case atStart => exact ⟨0, Nat.zero_le _, rfl, HBLK.out, HB0.out, NewBlk.zero _ _ _⟩
  case round =>
    obtain ⟨k, hk, rfl, hBk, hB, hNB⟩ := hrel
    have HBK := Lib.hid hBk; have HB := Lib.hid hB; have HNB := Lib.hid hNB
    clear hBk HBLK HB0 hNB
    by_cases hlt : k < ts.length
    · obtain ⟨g, hg⟩ : ∃ g, ts[k]? = some g := ⟨_, List.getElem?_eq_getElem hlt⟩
      have hgd : ts.getD k (0, 0, []) = g := by rw [List.getD_eq_getElem?_getD, hg]; rfl
      obtain ⟨b, off, cap', hv', hl1, c0, c1, ao, co, c2, hof, hofl⟩ := (HV.out.later hB).at_ hg
      cases hv'
      have hgo := HOK.out.2.2 k g hg
      have HST : Hid (cutsK ts (k + 1) = cutsK ts k ++ [cutG (cutsK ts k) g]) := (by rw [cutsK, hgd] : cutsK ts (k + 1) = cutsK ts k ++ [cutG (cutsK ts k) g])
      have HLN := Lib.hid (cutsK_len ts k)
      have HAN := Lib.hid (cutsK_anti HOK.out k (Nat.le_of_lt hlt))
      have e5 : (k : Int) < (ts.length : Int) := by omega
      have e6 : k + 1 ≤ cap := by omega
      have zB := hB.size
      obtain ⟨kd, n, of⟩ := g
      simp only at c0 c1 c2 hof hofl
      have HOF := Lib.hid hof; have HGO := Lib.hid hgo
      clear hg hof hB hgd hgo
      generalize cutsK ts k = prev at *
      have HK5 : Hid (SetBlk (wr.alloc (.cells #[.int .i64 kd, .int .i64 n, .slice ao of.length co] 30)) gb ts.length prev) := Lib.hid (HBK.out.later ((Below.refl _ _).alloc (Nat.le_refl _) _))
      have HB5 : Hid (Below w.heap.size w (wr.alloc (.cells #[.int .i64 kd, .int .i64 n, .slice ao of.length co] 30))) := HB.out.alloc zB _
      have zw0 : gb < wr.heap.size := HBK.out.lt
      have NB5 : Hid (NewBlk (wr.alloc (.cells #[.int .i64 kd, .int .i64 n, .slice ao of.length co] 30)) gb k w.heap.size) := Lib.hid (HNB.out.later ((Below.refl _ _).alloc (Nat.le_refl _) _) zw0)
      have ok0 := HBK.out.rest k (by rw [HLN.out]; exact Nat.le_refl _) hlt; have okf := HBK.out.fz k
      by_cases h1 : kd = 1
      · subst h1
        have hb : 0 ≤ n ∧ n < 8 := by
          rcases HGO.out.1 with ⟨-, h, -⟩ | ⟨h | h, -⟩ | ⟨h, -⟩
          · exact h
          · exact absurd (show (1 : Int) = 2 from h) (by decide)
          · exact absurd (show (1 : Int) = 3 from h) (by decide)
          · exact absurd (show (1 : Int) = 4 from h) (by decide)
        have hg0 : cutG prev ((1 : Int), n, of) = [2 ^ n.toNat] := rfl
        have HST2 : Hid (cutsK ts (k + 1) = prev ++ [[2 ^ n.toNat]]) := hg0 ▸ HST.out
        clear hg0 HST
        rcases (by omega : n = 0 ∨ n = 1 ∨ n = 2 ∨ n = 3 ∨ n = 4 ∨ n = 5 ∨ n = 6 ∨ n = 7) with rfl | rfl | rfl | rfl | rfl | rfl | rfl | rfl
        · have HK6 := Lib.hid (HK5.out.later ((Below.refl _ _).alloc (Nat.le_refl _) (.cells #[.int .u16 1] TU)))
          have HL6 := Lib.hid (own_lit (wr.alloc (.cells #[.int .i64 1, .int .i64 0, .slice ao of.length co] 30)) 1).ints
          go_wp2
          go_roundw
          have EQW : (((wr.alloc (.cells #[.int .i64 1, .int .i64 0, .slice ao of.length co] 30)).alloc (.cells #[.int .u16 1] TU)).setCell ⟨gb, k, none⟩ (.slice (some ⟨wr.heap.size + 1, 0, none⟩) 1 1)) = (((wr.setCell ⟨gb, k, none⟩ (.slice (some ⟨wr.heap.size + 1, 0, none⟩) 1 1)).alloc (.cells #[.int .i64 1, .int .i64 0, .slice ao of.length co] 30)).alloc (.cells #[.int .u16 1] TU)) := by
            rw [World.setCell_alloc_past _ _ _ _ (by simp; omega), World.setCell_alloc_past _ _ _ _ zw0]
          have HL7 : Hid (IntsAt .u16 ((wr.alloc (.cells #[.int .i64 1, .int .i64 0, .slice ao of.length co] 30)).alloc (.cells #[.int .u16 1] TU)) (.slice (some ⟨wr.heap.size + 1, 0, none⟩) 1 1) (u16s [1])) := Lib.hid (by have := HL6.out; simpa using this)
          case rel => exact ⟨k + 1, by omega, by go_num, by rw [HST2.out, ← EQW]; exact HK6.out.push HLN.out hlt HL7.out, by rw [← EQW]; exact (HB5.out.alloc (by simp; omega) _).setCell (p := ⟨gb, k, none⟩) z1 _, by rw [← EQW]; exact (NB5.out.later ((Below.refl _ _).alloc (Nat.le_refl _) _) (by simp; omega)).push (HK6.out.rest k (by rw [HLN.out]; exact Nat.le_refl _) hlt) (by rintro b o m l c hh; cases hh; omega)⟩
          case measure => simp [intOf]; omega
        · have HK6 := Lib.hid (HK5.out.later ((Below.refl _ _).alloc (Nat.le_refl _) (.cells #[.int .u16 2] TU)))
          have HL6 := Lib.hid (own_lit (wr.alloc (.cells #[.int .i64 1, .int .i64 1, .slice ao of.length co] 30)) 2).ints
          go_wp2
          go_roundw
          have EQW : (((wr.alloc (.cells #[.int .i64 1, .int .i64 1, .slice ao of.length co] 30)).alloc (.cells #[.int .u16 2] TU)).setCell ⟨gb, k, none⟩ (.slice (some ⟨wr.heap.size + 1, 0, none⟩) 1 1)) = (((wr.setCell ⟨gb, k, none⟩ (.slice (some ⟨wr.heap.size + 1, 0, none⟩) 1 1)).alloc (.cells #[.int .i64 1, .int .i64 1, .slice ao of.length co] 30)).alloc (.cells #[.int .u16 2] TU)) := by
            rw [World.setCell_alloc_past _ _ _ _ (by simp; omega), World.setCell_alloc_past _ _ _ _ zw0]
          have HL7 : Hid (IntsAt .u16 ((wr.alloc (.cells #[.int .i64 1, .int .i64 1, .slice ao of.length co] 30)).alloc (.cells #[.int .u16 2] TU)) (.slice (some ⟨wr.heap.size + 1, 0, none⟩) 1 1) (u16s [2])) := Lib.hid (by have := HL6.out; simpa using this)
          case rel => exact ⟨k + 1, by omega, by go_num, by rw [HST2.out, ← EQW]; exact HK6.out.push HLN.out hlt HL7.out, by rw [← EQW]; exact (HB5.out.alloc (by simp; omega) _).setCell (p := ⟨gb, k, none⟩) z1 _, by rw [← EQW]; exact (NB5.out.later ((Below.refl _ _).alloc (Nat.le_refl _) _) (by simp; omega)).push (HK6.out.rest k (by rw [HLN.out]; exact Nat.le_refl _) hlt) (by rintro b o m l c hh; cases hh; omega)⟩
          case measure => simp [intOf]; omega
        · have HK6 := Lib.hid (HK5.out.later ((Below.refl _ _).alloc (Nat.le_refl _) (.cells #[.int .u16 4] TU)))
          have HL6 := Lib.hid (own_lit (wr.alloc (.cells #[.int .i64 1, .int .i64 2, .slice ao of.length co] 30)) 4).ints
          go_wp2
          go_roundw
          have EQW : (((wr.alloc (.cells #[.int .i64 1, .int .i64 2, .slice ao of.length co] 30)).alloc (.cells #[.int .u16 4] TU)).setCell ⟨gb, k, none⟩ (.slice (some ⟨wr.heap.size + 1, 0, none⟩) 1 1)) = (((wr.setCell ⟨gb, k, none⟩ (.slice (some ⟨wr.heap.size + 1, 0, none⟩) 1 1)).alloc (.cells #[.int .i64 1, .int .i64 2, .slice ao of.length co] 30)).alloc (.cells #[.int .u16 4] TU)) := by
            rw [World.setCell_alloc_past _ _ _ _ (by simp; omega), World.setCell_alloc_past _ _ _ _ zw0]
          have HL7 : Hid (IntsAt .u16 ((wr.alloc (.cells #[.int .i64 1, .int .i64 2, .slice ao of.length co] 30)).alloc (.cells #[.int .u16 4] TU)) (.slice (some ⟨wr.heap.size + 1, 0, none⟩) 1 1) (u16s [4])) := Lib.hid (by have := HL6.out; simpa using this)
          case rel => exact ⟨k + 1, by omega, by go_num, by rw [HST2.out, ← EQW]; exact HK6.out.push HLN.out hlt HL7.out, by rw [← EQW]; exact (HB5.out.alloc (by simp; omega) _).setCell (p := ⟨gb, k, none⟩) z1 _, by rw [← EQW]; exact (NB5.out.later ((Below.refl _ _).alloc (Nat.le_refl _) _) (by simp; omega)).push (HK6.out.rest k (by rw [HLN.out]; exact Nat.le_refl _) hlt) (by rintro b o m l c hh; cases hh; omega)⟩
          case measure => simp [intOf]; omega
        · have HK6 := Lib.hid (HK5.out.later ((Below.refl _ _).alloc (Nat.le_refl _) (.cells #[.int .u16 8] TU)))
          have HL6 := Lib.hid (own_lit (wr.alloc (.cells #[.int .i64 1, .int .i64 3, .slice ao of.length co] 30)) 8).ints
          go_wp2
          go_roundw
          have EQW : (((wr.alloc (.cells #[.int .i64 1, .int .i64 3, .slice ao of.length co] 30)).alloc (.cells #[.int .u16 8] TU)).setCell ⟨gb, k, none⟩ (.slice (some ⟨wr.heap.size + 1, 0, none⟩) 1 1)) = (((wr.setCell ⟨gb, k, none⟩ (.slice (some ⟨wr.heap.size + 1, 0, none⟩) 1 1)).alloc (.cells #[.int .i64 1, .int .i64 3, .slice ao of.length co] 30)).alloc (.cells #[.int .u16 8] TU)) := by
            rw [World.setCell_alloc_past _ _ _ _ (by simp; omega), World.setCell_alloc_past _ _ _ _ zw0]
          have HL7 : Hid (IntsAt .u16 ((wr.alloc (.cells #[.int .i64 1, .int .i64 3, .slice ao of.length co] 30)).alloc (.cells #[.int .u16 8] TU)) (.slice (some ⟨wr.heap.size + 1, 0, none⟩) 1 1) (u16s [8])) := Lib.hid (by have := HL6.out; simpa using this)
          case rel => exact ⟨k + 1, by omega, by go_num, by rw [HST2.out, ← EQW]; exact HK6.out.push HLN.out hlt HL7.out, by rw [← EQW]; exact (HB5.out.alloc (by simp; omega) _).setCell (p := ⟨gb, k, none⟩) z1 _, by rw [← EQW]; exact (NB5.out.later ((Below.refl _ _).alloc (Nat.le_refl _) _) (by simp; omega)).push (HK6.out.rest k (by rw [HLN.out]; exact Nat.le_refl _) hlt) (by rintro b o m l c hh; cases hh; omega)⟩
          case measure => simp [intOf]; omega
        · have HK6 := Lib.hid (HK5.out.later ((Below.refl _ _).alloc (Nat.le_refl _) (.cells #[.int .u16 16] TU)))
          have HL6 := Lib.hid (own_lit (wr.alloc (.cells #[.int .i64 1, .int .i64 4, .slice ao of.length co] 30)) 16).ints
          go_wp2
          go_roundw
          have EQW : (((wr.alloc (.cells #[.int .i64 1, .int .i64 4, .slice ao of.length co] 30)).alloc (.cells #[.int .u16 16] TU)).setCell ⟨gb, k, none⟩ (.slice (some ⟨wr.heap.size + 1, 0, none⟩) 1 1)) = (((wr.setCell ⟨gb, k, none⟩ (.slice (some ⟨wr.heap.size + 1, 0, none⟩) 1 1)).alloc (.cells #[.int .i64 1, .int .i64 4, .slice ao of.length co] 30)).alloc (.cells #[.int .u16 16] TU)) := by
            rw [World.setCell_alloc_past _ _ _ _ (by simp; omega), World.setCell_alloc_past _ _ _ _ zw0]
          have HL7 : Hid (IntsAt .u16 ((wr.alloc (.cells #[.int .i64 1, .int .i64 4, .slice ao of.length co] 30)).alloc (.cells #[.int .u16 16] TU)) (.slice (some ⟨wr.heap.size + 1, 0, none⟩) 1 1) (u16s [16])) := Lib.hid (by have := HL6.out; simpa using this)
          case rel => exact ⟨k + 1, by omega, by go_num, by rw [HST2.out, ← EQW]; exact HK6.out.push HLN.out hlt HL7.out, by rw [← EQW]; exact (HB5.out.alloc (by simp; omega) _).setCell (p := ⟨gb, k, none⟩) z1 _, by rw [← EQW]; exact (NB5.out.later ((Below.refl _ _).alloc (Nat.le_refl _) _) (by simp; omega)).push (HK6.out.rest k (by rw [HLN.out]; exact Nat.le_refl _) hlt) (by rintro b o m l c hh; cases hh; omega)⟩
          case measure => simp [intOf]; omega
        · have HK6 := Lib.hid (HK5.out.later ((Below.refl _ _).alloc (Nat.le_refl _) (.cells #[.int .u16 32] TU)))
          have HL6 := Lib.hid (own_lit (wr.alloc (.cells #[.int .i64 1, .int .i64 5, .slice ao of.length co] 30)) 32).ints
          go_wp2
          go_roundw
          have EQW : (((wr.alloc (.cells #[.int .i64 1, .int .i64 5, .slice ao of.length co] 30)).alloc (.cells #[.int .u16 32] TU)).setCell ⟨gb, k, none⟩ (.slice (some ⟨wr.heap.size + 1, 0, none⟩) 1 1)) = (((wr.setCell ⟨gb, k, none⟩ (.slice (some ⟨wr.heap.size + 1, 0, none⟩) 1 1)).alloc (.cells #[.int .i64 1, .int .i64 5, .slice ao of.length co] 30)).alloc (.cells #[.int .u16 32] TU)) := by
            rw [World.setCell_alloc_past _ _ _ _ (by simp; omega), World.setCell_alloc_past _ _ _ _ zw0]
          have HL7 : Hid (IntsAt .u16 ((wr.alloc (.cells #[.int .i64 1, .int .i64 5, .slice ao of.length co] 30)).alloc (.cells #[.int .u16 32] TU)) (.slice (some ⟨wr.heap.size + 1, 0, none⟩) 1 1) (u16s [32])) := Lib.hid (by have := HL6.out; simpa using this)
          case rel => exact ⟨k + 1, by omega, by go_num, by rw [HST2.out, ← EQW]; exact HK6.out.push HLN.out hlt HL7.out, by rw [← EQW]; exact (HB5.out.alloc (by simp; omega) _).setCell (p := ⟨gb, k, none⟩) z1 _, by rw [← EQW]; exact (NB5.out.later ((Below.refl _ _).alloc (Nat.le_refl _) _) (by simp; omega)).push (HK6.out.rest k (by rw [HLN.out]; exact Nat.le_refl _) hlt) (by rintro b o m l c hh; cases hh; omega)⟩
          case measure => simp [intOf]; omega
        · have HK6 := Lib.hid (HK5.out.later ((Below.refl _ _).alloc (Nat.le_refl _) (.cells #[.int .u16 64] TU)))
          have HL6 := Lib.hid (own_lit (wr.alloc (.cells #[.int .i64 1, .int .i64 6, .slice ao of.length co] 30)) 64).ints
          go_wp2
          go_roundw
          have EQW : (((wr.alloc (.cells #[.int .i64 1, .int .i64 6, .slice ao of.length co] 30)).alloc (.cells #[.int .u16 64] TU)).setCell ⟨gb, k, none⟩ (.slice (some ⟨wr.heap.size + 1, 0, none⟩) 1 1)) = (((wr.setCell ⟨gb, k, none⟩ (.slice (some ⟨wr.heap.size + 1, 0, none⟩) 1 1)).alloc (.cells #[.int .i64 1, .int .i64 6, .slice ao of.length co] 30)).alloc (.cells #[.int .u16 64] TU)) := by
            rw [World.setCell_alloc_past _ _ _ _ (by simp; omega), World.setCell_alloc_past _ _ _ _ zw0]
          have HL7 : Hid (IntsAt .u16 ((wr.alloc (.cells #[.int .i64 1, .int .i64 6, .slice ao of.length co] 30)).alloc (.cells #[.int .u16 64] TU)) (.slice (some ⟨wr.heap.size + 1, 0, none⟩) 1 1) (u16s [64])) := Lib.hid (by have := HL6.out; simpa using this)
          case rel => exact ⟨k + 1, by omega, by go_num, by rw [HST2.out, ← EQW]; exact HK6.out.push HLN.out hlt HL7.out, by rw [← EQW]; exact (HB5.out.alloc (by simp; omega) _).setCell (p := ⟨gb, k, none⟩) z1 _, by rw [← EQW]; exact (NB5.out.later ((Below.refl _ _).alloc (Nat.le_refl _) _) (by simp; omega)).push (HK6.out.rest k (by rw [HLN.out]; exact Nat.le_refl _) hlt) (by rintro b o m l c hh; cases hh; omega)⟩
          case measure => simp [intOf]; omega
        · have HK6 := Lib.hid (HK5.out.later ((Below.refl _ _).alloc (Nat.le_refl _) (.cells #[.int .u16 128] TU)))
          have HL6 := Lib.hid (own_lit (wr.alloc (.cells #[.int .i64 1, .int .i64 7, .slice ao of.length co] 30)) 128).ints
          go_wp2
          go_roundw
          have EQW : (((wr.alloc (.cells #[.int .i64 1, .int .i64 7, .slice ao of.length co] 30)).alloc (.cells #[.int .u16 128] TU)).setCell ⟨gb, k, none⟩ (.slice (some ⟨wr.heap.size + 1, 0, none⟩) 1 1)) = (((wr.setCell ⟨gb, k, none⟩ (.slice (some ⟨wr.heap.size + 1, 0, none⟩) 1 1)).alloc (.cells #[.int .i64 1, .int .i64 7, .slice ao of.length co] 30)).alloc (.cells #[.int .u16 128] TU)) := by
            rw [World.setCell_alloc_past _ _ _ _ (by simp; omega), World.setCell_alloc_past _ _ _ _ zw0]
          have HL7 : Hid (IntsAt .u16 ((wr.alloc (.cells #[.int .i64 1, .int .i64 7, .slice ao of.length co] 30)).alloc (.cells #[.int .u16 128] TU)) (.slice (some ⟨wr.heap.size + 1, 0, none⟩) 1 1) (u16s [128])) := Lib.hid (by have := HL6.out; simpa using this)
          case rel => exact ⟨k + 1, by omega, by go_num, by rw [HST2.out, ← EQW]; exact HK6.out.push HLN.out hlt HL7.out, by rw [← EQW]; exact (HB5.out.alloc (by simp; omega) _).setCell (p := ⟨gb, k, none⟩) z1 _, by rw [← EQW]; exact (NB5.out.later ((Below.refl _ _).alloc (Nat.le_refl _) _) (by simp; omega)).push (HK6.out.rest k (by rw [HLN.out]; exact Nat.le_refl _) hlt) (by rintro b o m l c hh; cases hh; omega)⟩
          case measure => simp [intOf]; omega
      · have t1 : (kd == 1) = false := by simpa using h1
        have hg0 : cutG prev (kd, n, of) = someL (of.map fun j => prev.getD j.toNat []) (needsI (kd, n, of)) := by unfold cutG; rw [if_neg h1]
        have HST2 : Hid (cutsK ts (k + 1) = prev ++ [someL (of.map fun j => prev.getD j.toNat []) (needsI (kd, n, of))]) := hg0 ▸ HST.out
        clear hg0 HST
        have HOF5 : Hid (IntsAt .i64 (wr.alloc (.cells #[.int .i64 kd, .int .i64 n, .slice ao of.length co] 30)) (.slice ao of.length co) of) := Lib.hid (HOF.out.later ((Below.refl wr.heap.size wr).alloc (Nat.le_refl _) _) (Nat.le_refl _))
        have HG5 : Hid (CellsAt (wr.alloc (.cells #[.int .i64 kd, .int .i64 n, .slice ao of.length co] 30)) wr.heap.size [.int .i64 kd, .int .i64 n, .slice ao of.length co]) := Lib.hid (CellsAt.new wr _ _ _ rfl)
        obtain ⟨W5, hW5⟩ : ∃ W, wr.alloc (.cells #[.int .i64 kd, .int .i64 n, .slice ao of.length co] 30) = W := ⟨_, rfl⟩
        have HW5 := Lib.hid hW5
        rw [hW5] at HOF5 HG5 HK5 HB5 NB5
        clear hW5
        go_wp2_with fail
        rw [HW5.out]
        clear c0 c1 c2 ok0 okf
        go_loopw [8, 39] (fun o j wx => InSets prev of W5 o j wx) (fun _ j _ => of.length - (intOf j).toNat)
        case atStart => exact ⟨0, [], Nat.zero_le _, rfl, rfl, World.ownsRow_nil _ _ _ _, by simp, Below.refl _ _⟩
        case round =>
          obtain ⟨m, vals, hm, rfl, hvl, hown, hvals, hBx⟩ := hrel
          have HBX := Lib.hid hBx; have HVL := Lib.hid hvals
          have zx := hBx.size
          by_cases hlt2 : m < of.length
          · obtain ⟨q, hq⟩ : ∃ q, of[m]? = some q := ⟨_, List.getElem?_eq_getElem hlt2⟩
            have hq2 := HGO.out.2.2 q (List.mem_of_getElem? hq)
            have hol : of.length ≤ 6 := HGO.out.2.1
            obtain ⟨qn, rfl⟩ := Int.eq_ofNat_of_zero_le hq2.1
            obtain ⟨b', off', cap2, hv', hl2, cq⟩ := ints_at (HOF5.out.later hBx (Nat.le_refl _)) hq
            cases hv'
            have e7 : (m : Int) < (of.length : Int) := by omega
            have e8 : m + 1 ≤ co := by omega
            have e9 : (qn : Int) < (ts.length : Int) := by omega
            obtain ⟨s, hs⟩ : ∃ s, prev[qn]? = some s := ⟨_, List.getElem?_eq_getElem (by rw [HLN.out]; omega)⟩
            obtain ⟨x, cx, hix⟩ := HK5.out.at_ qn s hs
            obtain ⟨xa, xc, hxe⟩ := hix.len
            rw [u16s_len] at hxe
            subst hxe
            have cxx : wr.cell? ⟨gb, qn, none⟩ = some (.slice xa s.length xc) := (hBx.cell (p := ⟨gb, qn, none⟩) HK5.out.lt).trans cx
            have HV2 : Hid (∀ i y, (vals ++ [Value.slice xa s.length xc])[i]? = some y → ∃ a l c, y = .slice a l c ∧ IntsAt .u16 W5 y (u16s (prev.getD (of.getD i 0).toNat []))) := Lib.hid (fun i y hy => by
              by_cases hi2 : i < m
              · rw [List.getElem?_append_left (by omega)] at hy
                exact hvals i y hy
              · have ei : i = m := by
                  have := (List.getElem?_eq_some_iff.1 hy).1
                  simp at this; omega
                subst ei
                rw [List.getElem?_append_right (by omega), hvl, Nat.sub_self] at hy
                obtain rfl : Value.slice xa s.length xc = y := by simpa using hy
                refine ⟨_, _, _, rfl, ?_⟩
                have eq1 : of.getD i 0 = (qn : Int) := by rw [List.getD_eq_getElem?_getD, hq]; rfl
                rw [eq1, Int.toNat_natCast, List.getD_eq_getElem?_getD, hs]
                exact hix)
            have HNL : Hid ((vals ++ [Value.slice xa s.length xc]).length = m + 1) := Lib.hid (by simp [hvl])
            have O6 := Lib.hid (own_later hown ((Below.refl wr.heap.size wr).alloc (Nat.le_refl _) (.cells #[.slice xa s.length xc] TRow)) (Nat.le_refl _))
            have hsz1 : W5.heap.size ≤ (wr.alloc (.cells #[.slice xa s.length xc] TRow)).heap.size := by simp; omega
            clear hq hs hix hvals hBx hown hvl cx hq2
            go_wp2_with (at_builtin; refine wpList_append_own _ rfl _ _ 68 rfl W5.heap.size TRow i0 (.slice none 0 0) 1 24 Try.underlying68 hi hz0 hz1 hz2 rfl (by decide) _ _ _ rfl O6.out ⟨wr.heap.size, 0, none⟩ 1 1 [.slice xa s.length xc] rfl rfl (by intro j u h; cases j <;> simp at h; subst h; first | (simp [Addr.add]; done) | (simp [Addr.add]; go_simp)) (by simp [Value.oneCell']) (by unfold maxLen; omega) (by omega) hsz1 ?_; intro v' w6 hown' hgrow _)
            have HP := Lib.hid hown'
            have BG : Below W5.heap.size wr w6 := ((Below.refl _ _).alloc zx _).grown hgrow hsz1 (fun j e => (O6.out.lt j e).1)
            have HBG := Lib.hid (HBX.out.trans BG)
            clear hown' hgrow BG
            go_roundw
            case rel => exact ⟨m + 1, vals ++ [.slice xa s.length xc], by omega, by go_num, HNL.out, HP.out, HV2.out, HBG.out⟩
            case measure => simp [intOf]; omega
          · obtain rfl : m = of.length := by omega
            have hol : of.length ≤ 6 := HGO.out.2.1
            have hss : SetsAt wr _ (of.map fun j => prev.getD j.toNat []) := sets_of_row hown hvl (by simp) (fun i x s hx his => by
              obtain ⟨_, _, _, -, h5⟩ := hvals i x hx
              rw [List.getElem?_map] at his
              obtain ⟨q, hq, rfl⟩ := Option.map_eq_some_iff.1 his
              have eq1 : of.getD i 0 = q := by rw [List.getD_eq_getElem?_getD, hq]; rfl
              rw [eq1] at h5
              exact h5.later hBx (Nat.le_refl _))
            obtain ⟨oa, oc, hoe⟩ := hss.len
            rw [List.length_map] at hoe
            subst hoe
            have HSS := Lib.hid hss
            have HGX := Lib.hid (HG5.out.call hBx)
            have HKX := Lib.hid (HK5.out.later hBx)
            have NBX := Lib.hid (NB5.out.later hBx HK5.out.lt)
            clear hss hown hvals hvl hBx
            have g0 := HGX.out.at_ 0 rfl; have g1 := HGX.out.at_ 1 rfl; have g2 := HGX.out.at_ 2 rfl; have gz := HGX.out.lt
            go_wp2_with fail
            have hnb : -1000 ≤ needsI (kd, n, of) ∧ needsI (kd, n, of) ≤ 1000 := by
              have hk2 := HGO.out.1
              unfold kindOk at hk2
              unfold needsI
              simp only at hk2 ⊢
              split
              · omega
              · split <;> omega
            have han : ∀ s ∈ (of.map fun j => prev.getD j.toNat []), Anti s := fun s hs => by
              obtain ⟨j, -, rfl⟩ := List.mem_map.1 hs
              rw [List.getD_eq_getElem?_getD]
              cases hp : prev[j.toNat]? with
              | none => exact ⟨by simp, by simp⟩
              | some y => exact HAN.out y (List.mem_of_getElem? hp)
            have HNA := Lib.hid han
            clear han
            obtain ⟨N, hN⟩ : ∃ N, needsI (kd, n, of) = N := ⟨_, rfl⟩
            have hNI := needs_is kd n of ao co wr (by omega)
            rw [hN] at hNI hnb
            rw [hN] at HST2
            have HNI := Lib.hid hNI
            clear hN hNI
            refine HNI.out.mono ?_
            rintro e w2 ⟨rfl, hb2⟩
            have S2 := Lib.hid (HSS.out.later hb2 (Nat.le_refl _))
            have K2 := Lib.hid (HKX.out.later hb2)
            have N2 := Lib.hid (NBX.out.later hb2 HKX.out.lt)
            have z5 := HB5.out.size
            have zx := HBX.out.size
            have B2 := Lib.hid ((HB5.out.trans (HBX.out.mono z5)).trans (hb2.mono (Nat.le_trans z5 zx)))
            clear hb2 g0 g1 g2 gz
            go_wp2_with fail
            refine (some_is _ N _ _ S2.out HNA.out (by simp; omega) hnb).mono ?_
            rintro e w3 ⟨⟨v3, rfl, ho3⟩, hb3⟩
            obtain ⟨va, vc, hve⟩ := ho3.ints.len
            subst hve
            have K3 := Lib.hid (K2.out.later hb3)
            have N3 := Lib.hid (N2.out.later hb3 K2.out.lt)
            have V3 := Lib.hid (NewV.own ho3 B2.out.size)
            have I3 := Lib.hid ho3.ints
            have B3 := Lib.hid (B2.out.trans (hb3.mono B2.out.size))
            have ok3 := K3.out.rest k (by rw [HLN.out]; exact Nat.le_refl _) hlt
            have okf3 := K3.out.fz k
            have okz := K3.out.lt
            clear ho3 hb3
            go_wp2
            go_roundw
            case rel => exact ⟨k + 1, by omega, by go_num, by rw [HST2.out]; exact K3.out.push HLN.out hlt I3.out, B3.out.setCell (p := ⟨gb, k, none⟩) z1 _, N3.out.push (K3.out.rest k (by rw [HLN.out]; exact Nat.le_refl _) hlt) V3.out⟩
            case measure => simp [intOf]; omega
    · obtain rfl : k = ts.length := by omega
      obtain ⟨m, hm⟩ : ∃ m, ts.length = m + 1 := ⟨ts.length - 1, by omega⟩
      obtain ⟨s, hs⟩ : ∃ s, (cutsK ts ts.length)[m]? = some s := ⟨_, List.getElem?_eq_getElem (by rw [cutsK_len]; omega)⟩
      have hcl : cutsL ts = s := by unfold cutsL; rw [show ts.length - 1 = m by omega, List.getD_eq_getElem?_getD, hs]; rfl
      obtain ⟨x, hc, hix⟩ := HBK.out.at_ m s hs
      have HCL := Lib.hid hcl; have HIX := Lib.hid hix
      have HNX := Lib.hid (HNB.out m x (by omega) hc)
      have e1 : IntKind.i64.wrap ((ts.length : Int) - 1) = (ts.length : Int) - 1 := IntWalk.i64_in _ (by omega)
      have e2 : ((ts.length : Int) - 1).toNat = m := by omega
      have e3 : (ts.length : Int) - 1 < (ts.length : Int) := by omega
      have e4 : (0 : Int) ≤ (ts.length : Int) - 1 := by omega
      clear hB hm hs hcl hix
      go_wp2
      go_ret2
      exact ⟨⟨x, rfl, by rw [HCL.out]; exact HIX.out, HNX.out⟩, HB.out⟩
theorem cuts_yes (ts : List GateR) (v : Value) (w : World) (hv : GatesAt w v ts) (hok : TreeOk ts) :
    Calls Try.prog 16 #[v] w fun e w' => (∃ v', e = .returned (.tuple #[v', .int .i64 0]) ∧ IntsAt .u16 w' v' (u16s (cutsL ts))) ∧ Below w.heap.size w w' :=
  (cuts_own ts v w hv hok).mono fun e w' ⟨⟨v', h1, h2, _⟩, h3⟩ => ⟨⟨v', h1, h2⟩, h3⟩

end Go.Proofs.Ytiocgmioijcjhaa
