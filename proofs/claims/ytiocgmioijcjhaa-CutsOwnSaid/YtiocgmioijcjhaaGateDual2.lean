/- The walk of cuts.Dual. -/
import Derived.Test.YtiocgmioijcjhaaGateDual
namespace Go.Proofs.Ytiocgmioijcjhaa
open Go.ChangeShapes Go.WideShapes Go.ChangeAt Go.RowKit
set_option linter.unusedVariables false

def DRel (ts : List GateR) (w : World) (i out : Value) (wr : World) : Prop :=
  ∃ (k : Nat) (gs : List GateV), k ≤ ts.length ∧ i = .int .i64 k ∧ gs.map (·.1) = dualL (ts.take k) ∧ OwnTree wr w.heap.size out gs ∧ Below w.heap.size w wr
theorem own_base {w : World} {base base' : Nat} {e : TypeId} {size : Nat} {v : Value} {n : Nat} {xs : List Value} (h : w.ownsRow base e size v n xs) (hb : base' ≤ base) : w.ownsRow base' e size v n xs :=
  ⟨h.1, h.2.imp id fun ⟨g, cap, cur, e, h1, h2⟩ => ⟨g, cap, cur, e, Nat.le_trans hb h1, h2⟩⟩
theorem CellsAt.srcG {w : World} {b : Nat} {vs : List Value} (h : CellsAt w b vs) : ∀ j u, vs[j]? = some u → w.cell? ((⟨b, 0, none⟩ : Addr).add j) = some u := fun j u hj => by
  have := h.1 j u hj
  cases j <;> simpa [Addr.add] using this
/-- in the midst of a round: the gate, its image with the copied inputs -/
structure DMid (wr wx : World) (hb : Nat) (s : Value) (kd n : Int) (ao : Option Addr) (co : Nat) (of : List Int) : Prop where
  G : CellsAt wx wr.heap.size [.int .i64 kd, .int .i64 n, .slice ao of.length co]
  H : CellsAt wx hb [.int .i64 kd, .int .i64 n, s]
  S : wx.ownsRow wr.heap.size TInt 1 s of.length (of.map (.int .i64))
  B : Below wr.heap.size wr wx
  lt : wr.heap.size < hb
  ne : s.ownBlock ≠ some hb
section
variable {wr wA : World} {s : Value} {kd n : Int} {ao : Option Addr} {co : Nat} {of : List Int}
theorem DMid.mkA {base : Nat} (hG : CellsAt wA wr.heap.size [.int .i64 kd, .int .i64 n, .slice ao of.length co]) (hS : wA.ownsRow base TInt 1 s of.length (of.map (.int .i64))) (hb : wr.heap.size ≤ base) (hB : Below wr.heap.size wr wA) : DMid wr (wA.alloc (.cells #[.int .i64 kd, .int .i64 n, s] TGate)) wA.heap.size s kd n ao co of :=
  ⟨hG.alloc _, CellsAt.new wA _ _ _ rfl, own_later (own_base hS hb) ((Below.refl _ _).alloc (Nat.le_refl _) _) (Nat.le_refl _), hB.alloc hB.size _, hG.lt, fun e => by have := (hS.lt _ e).2; omega⟩
theorem DMid.mkB {base p : Nat} (hG : CellsAt wA wr.heap.size [.int .i64 kd, .int .i64 n, .slice ao of.length co]) (hN : CellsAt wA p [.int .i64 0, .int .i64 0, .slice none 0 0]) (hS : wA.ownsRow base TInt 1 s of.length (of.map (.int .i64))) (hb : p < base) (hp : wr.heap.size < p) (hB : Below wr.heap.size wr wA) : DMid wr (((wA.setCell ⟨p, 0, none⟩ (.int .i64 kd)).setCell ⟨p, 1, none⟩ (.int .i64 n)).setCell ⟨p, 2, none⟩ s) p s kd n ao co of := by
  have ne : s.ownBlock ≠ some p := fun e => by have := (hS.lt p e).1; omega
  have own : ∀ {W : World} (j : Nat) (u : Value), W.ownsRow wr.heap.size TInt 1 s of.length (of.map (.int .i64)) → (W.setCell ⟨p, j, none⟩ u).ownsRow wr.heap.size TInt 1 s of.length (of.map (.int .i64)) := fun j u h =>
    own_gen_grown h ⟨rfl, rfl, rfl, by simp [World.setCell], fun k _ hk => heap_setCell_other _ ⟨p, j, none⟩ k u (fun e => hk (by rw [e]))⟩ (fun k e e' => ne (e.trans e'.symm))
  refine ⟨((hG.other (by omega) _ _).other (by omega) _ _).other (by omega) _ _, ?_, own _ _ (own _ _ (own _ _ (own_base hS (by omega)))), ((hB.setCell (p := ⟨p, 0, none⟩) (by show wr.heap.size ≤ p; omega) _).setCell (p := ⟨p, 1, none⟩) (by show wr.heap.size ≤ p; omega) _).setCell (p := ⟨p, 2, none⟩) (by show wr.heap.size ≤ p; omega) _, hp, ne⟩
  have h1 := hN.set_ 0 (by simp) (.int .i64 kd)
  have h2 := h1.set_ 1 (by simp) (.int .i64 n)
  exact h2.set_ 2 (by simp) s
end
def DualPost (ts : List GateR) (w : World) (e : Ending) (w' : World) : Prop :=
  (∃ v gs, e = .returned (.tuple #[v, .int .i64 0]) ∧ gs.map (·.1) = dualL ts ∧ OwnTree w' w.heap.size v gs) ∧ Below w.heap.size w w'
set_option maxHeartbeats 16000000 in
set_option maxRecDepth 100000 in
theorem dual_no (ts : List GateR) (v : Value) (w : World) (hv : GatesAt w v ts) (hok : ¬ TreeOk ts) (hm : ts.length ≤ 281474976710656) :
    Calls Try.prog 10 #[v] w fun e w' => (∃ c : Int, c ≠ 0 ∧ e = .returned (.tuple #[.slice none 0 0, .int .i64 c])) ∧ Below w.heap.size w w' := by
  obtain ⟨a, cap, rfl⟩ := hv.len
  have HV := Lib.hid hv; have HOK := Lib.hid hok
  clear hv hok
  go_enter Try.func10, Try.ntmps10
  go_wp2_with fail
  refine (cutsCheck_is ts _ _ HV.out hm).mono ?_
  rintro e w1 ⟨-, h1, hb1⟩
  obtain ⟨c, hc, rfl⟩ := h1 HOK.out
  have hcb : (c == 0) = false := by simpa using hc
  have hc2 : (c != 0) = true := by simpa using hc
  have HC := Lib.hid hc
  clear h1 hc
  go_wp2
  go_ret2
  exact ⟨⟨c, HC.out, rfl⟩, hb1⟩
set_option maxHeartbeats 16000000 in
set_option maxRecDepth 100000 in
theorem dual_yes (ts : List GateR) (v : Value) (w : World) (hv : GatesAt w v ts) (hok : TreeOk ts) :
    Calls Try.prog 10 #[v] w (DualPost ts w) := by
  obtain ⟨a, cap, rfl⟩ := hv.len
  have HV := Lib.hid hv; have HOK := Lib.hid hok
  have hn1 := hok.1; have hn2 := hok.2.1
  obtain ⟨i0, hi, hz0, hz1, hz2⟩ := info_parts infoG
  clear hv hok
  go_enter Try.func10, Try.ntmps10
  go_wp2_with fail
  refine (cutsCheck_is ts _ _ HV.out (by omega)).mono ?_
  rintro e w1 ⟨h1, -, hb1⟩
  obtain rfl := h1 HOK.out
  have HB1 := Lib.hid hb1
  clear h1 hb1
  go_wp2_with fail
  go_loopw [16, 5] (fun i o wr => DRel ts w i o wr) (fun i _ _ => ts.length - (intOf i).toNat)
  case atStart => exact ⟨0, [], Nat.zero_le _, rfl, rfl, ⟨World.ownsRow_nil _ _ _ _, fun x hx => by simp at hx⟩, HB1.out⟩
  case round =>
    obtain ⟨k, gs, hk, rfl, hgs, hO, hB⟩ := hrel
    have HGS := Lib.hid hgs; have HO := Lib.hid hO; have HB := Lib.hid hB
    have hgl : gs.length = k := by
      have := congrArg List.length hgs
      rw [List.length_map] at this
      simp [dualL] at this; omega
    clear hgs hO HB1
    by_cases hlt : k < ts.length
    · obtain ⟨g, hg⟩ : ∃ g, ts[k]? = some g := ⟨_, List.getElem?_eq_getElem hlt⟩
      obtain ⟨b, off, cap', hv', hl1, c0, c1, ao, co, c2, hof, hofl⟩ := (HV.out.later hB).at_ hg
      cases hv'
      have hgo := HOK.out.2.2 k g hg
      have hst : dualL (ts.take (k + 1)) = dualL (ts.take k) ++ [dualG g] := by
        have hbe : ts[k] = g := by rw [List.getElem?_eq_getElem hlt] at hg; exact Option.some.inj hg
        rw [List.take_succ_eq_append_getElem hlt, hbe]
        unfold dualL
        rw [List.map_append]; rfl
      have HST := Lib.hid hst
      have e5 : (k : Int) < (ts.length : Int) := by omega
      have e6 : k + 1 ≤ cap := by omega
      have zB := hB.size
      obtain ⟨kd, n, of⟩ := g
      simp only at c0 c1 c2 hof hofl
      have HOF := Lib.hid hof; have HGO := Lib.hid hgo; have HGL := Lib.hid hgl
      clear hg hof hB hgo hst hgl
      go_upto_region 8 with (fail)
      have HG : Hid (CellsAt (wr.alloc (.cells #[.int .i64 kd, .int .i64 n, .slice ao of.length co] TGate)) wr.heap.size [.int .i64 kd, .int .i64 n, .slice ao of.length co]) := CellsAt.new wr _ _ _ rfl
      have HN : Hid (Below wr.heap.size wr (wr.alloc (.cells #[.int .i64 kd, .int .i64 n, .slice ao of.length co] TGate))) := (Below.refl _ _).alloc (Nat.le_refl _) _
      have HI : Hid (IntsAt .i64 (wr.alloc (.cells #[.int .i64 kd, .int .i64 n, .slice ao of.length co] TGate)) (.slice ao of.length co) of) := HOF.out.later HN.out (Nat.le_refl _)
      clear c0 c1 c2
      generalize wr.alloc (.cells #[.int .i64 kd, .int .i64 n, .slice ao of.length co] TGate) = w5 at *
      have g0 := HG.out.at_ 0 rfl; have g1 := HG.out.at_ 1 rfl; have g2 := HG.out.at_ 2 rfl; have gz := HG.out.lt
      go_cut [8] (fun s8 wx => ∃ hb s, s8 = .pointer (some ⟨hb, 0, none⟩) ∧ DMid wr wx hb s kd n ao co of)
      case first =>
        have GD : Hid (CellsAt w5.drew wr.heap.size [.int .i64 kd, .int .i64 n, .slice ao of.length co]) := CellsAt.drew HG.out
        have ID : Hid (IntsAt .i64 w5.drew (.slice ao of.length co) of) := HI.out.later (Below.refl w5.heap.size w5).drew (Nat.le_refl _)
        have BD : Hid (Below wr.heap.size wr w5.drew) := HN.out.drew
        have d0 := GD.out.at_ 0 rfl; have d1 := GD.out.at_ 1 rfl; have d2 := GD.out.at_ 2 rfl
        have GM : Hid (CellsAt (w5.drew.alloc (.cells #[.int .i64 0, .int .i64 0, .slice none 0 0] TGate)) wr.heap.size [.int .i64 kd, .int .i64 n, .slice ao of.length co]) := (CellsAt.drew HG.out).alloc _
        have IM : Hid (IntsAt .i64 (w5.drew.alloc (.cells #[.int .i64 0, .int .i64 0, .slice none 0 0] TGate)) (.slice ao of.length co) of) := HI.out.later ((Below.refl w5.heap.size w5).drew.alloc (Nat.le_refl _) _) (Nat.le_refl _)
        have BM : Hid (Below wr.heap.size wr (w5.drew.alloc (.cells #[.int .i64 0, .int .i64 0, .slice none 0 0] TGate))) := HN.out.drew.alloc HN.out.size _
        have NM : Hid (CellsAt (w5.drew.alloc (.cells #[.int .i64 0, .int .i64 0, .slice none 0 0] TGate)) w5.heap.size [.int .i64 0, .int .i64 0, .slice none 0 0]) := CellsAt.new w5.drew _ _ _ rfl
        have m0 := GM.out.at_ 0 rfl; have m1 := GM.out.at_ 1 rfl; have m2 := GM.out.at_ 2 rfl
        have GQ : Hid (CellsAt (w5.alloc (.cells #[.int .i64 0, .int .i64 0, .slice none 0 0] TGate)).drew wr.heap.size [.int .i64 kd, .int .i64 n, .slice ao of.length co]) := (HG.out.alloc _).drew
        have IQ : Hid (IntsAt .i64 (w5.alloc (.cells #[.int .i64 0, .int .i64 0, .slice none 0 0] TGate)).drew (.slice ao of.length co) of) := HI.out.later ((Below.refl w5.heap.size w5).alloc (Nat.le_refl _) _).drew (Nat.le_refl _)
        have BQ : Hid (Below wr.heap.size wr (w5.alloc (.cells #[.int .i64 0, .int .i64 0, .slice none 0 0] TGate)).drew) := (HN.out.alloc HN.out.size _).drew
        have NQ : Hid (CellsAt (w5.alloc (.cells #[.int .i64 0, .int .i64 0, .slice none 0 0] TGate)).drew w5.heap.size [.int .i64 0, .int .i64 0, .slice none 0 0]) := (CellsAt.new w5 _ _ _ rfl).drew
        have q0 := GQ.out.at_ 0 rfl; have q1 := GQ.out.at_ 1 rfl; have q2 := GQ.out.at_ 2 rfl
        have hb8 : of.length * 8 ≤ 140737488351232 := by have := HGO.out.2.1; change of.length ≤ 6 at this; omega
        go_region_held3 (fun w' => w'.cell? ⟨wr.heap.size, 0, none⟩ = some (.int .i64 kd) ∧ w'.cell? ⟨wr.heap.size, 1, none⟩ = some (.int .i64 n) ∧ w'.cell? ⟨wr.heap.size, 2, none⟩ = some (.slice ao of.length co)) (first | with_reducible exact ⟨x0, x1, x2⟩ | with_reducible exact ⟨d0, d1, d2⟩ | with_reducible exact ⟨m0, m1, m2⟩ | with_reducible exact ⟨q0, q1, q2⟩ | with_reducible exact ⟨g0, g1, g2⟩ | go_keep | (refine ⟨?_, ?_, ?_⟩ <;> repeat (first | with_reducible exact x0 | with_reducible exact x1 | with_reducible exact x2 | with_reducible refine cell_off (by omega) ?_ | with_reducible refine cell_new' ?_))) ((
          go_at_call 35
          refine (clone_i64 of _ _ (by first | with_reducible exact ID.out | with_reducible exact IM.out | with_reducible exact IQ.out) hb8).mono ?_
          rintro eA wA ⟨s, rfl, hoA, hbA⟩
          obtain ⟨sa, sm, sc, rfl⟩ := own_gen_slice hoA
          first
            | (have GA : CellsAt wA wr.heap.size [.int .i64 kd, .int .i64 n, .slice ao of.length co] := (by with_reducible exact GD.out.call hbA); have BA := BD.out.trans (hbA.mono BD.out.size); have caseA := True.intro)
            | (have GA : CellsAt wA wr.heap.size [.int .i64 kd, .int .i64 n, .slice ao of.length co] := (by with_reducible exact GM.out.call hbA); have NA := NM.out.call hbA; have BA := BM.out.trans (hbA.mono BM.out.size); have n0 := NA.at_ 0 rfl; have n1 := NA.at_ 1 rfl; have n2 := NA.at_ 2 rfl; have nz := NA.lt; have nf0 := NA.2.1 0; have nf1 := NA.2.1 1; have nf2 := NA.2.1 2)
            | (have GA : CellsAt wA wr.heap.size [.int .i64 kd, .int .i64 n, .slice ao of.length co] := (by with_reducible exact GQ.out.call hbA); have NA := NQ.out.call hbA; have BA := BQ.out.trans (hbA.mono BQ.out.size); have n0 := NA.at_ 0 rfl; have n1 := NA.at_ 1 rfl; have n2 := NA.at_ 2 rfl; have nz := NA.lt; have nf0 := NA.2.1 0; have nf1 := NA.2.1 1; have nf2 := NA.2.1 2)
          have x0 := GA.at_ 0 rfl; have x1 := GA.at_ 1 rfl; have x2 := GA.at_ 2 rfl; have xz := GA.lt))
        all_goals
          clear x0 x1 x2 xz d0 d1 d2 m0 m1 m2 q0 q1 q2 g0 g1 g2
          go_wp2_with fail
          go_meet
          first
            | exact ⟨_, _, rfl, DMid.mkA GA hoA (by show wr.heap.size ≤ w5.heap.size; omega) BA⟩
            | exact ⟨_, _, rfl, DMid.mkB GA NA hoA (by simp) (by omega) BA⟩
      case rest =>
        obtain ⟨hb, s, rfl, hM⟩ := hcut
        obtain ⟨sa, sm, sc, rfl⟩ := own_gen_slice hM.S
        have HM := Lib.hid hM
        have OT := Lib.hid (HO.out.call hM.B)
        have BW := Lib.hid (HB.out.trans (hM.B.mono zB))
        have hlt6 : of.length ≤ 6 := HGO.out.2.1
        have g0 := hM.G.at_ 0 rfl; have g1 := hM.G.at_ 1 rfl; have g2 := hM.G.at_ 2 rfl; have gz := hM.G.lt
        have x0 := hM.H.at_ 0 rfl; have x1 := hM.H.at_ 1 rfl; have x2 := hM.H.at_ 2 rfl; have xz := hM.H.lt; have xf := hM.H.2.1
        have xf0 := xf 0; have xf1 := xf 1; have xlt := hM.lt; have xne : ¬ wr.heap.size = hb := Nat.ne_of_lt xlt; have xne2 : ¬ hb = wr.heap.size := Nat.ne_of_gt xlt
        have zW := BW.out.size
        have hkk := HGO.out.1
        clear hM xf
        have hk4 : kd = 1 ∨ kd = 2 ∨ kd = 3 ∨ (kd = 4 ∧ 0 ≤ n ∧ n ≤ of.length + 1) := by
          rcases hkk with ⟨h, -⟩ | ⟨h | h, -⟩ | ⟨h, h2, h3⟩
          · exact .inl h
          · exact .inr (.inl h)
          · exact .inr (.inr (.inl h))
          · exact .inr (.inr (.inr ⟨h, h2, h3⟩))
        clear hkk
        rcases hk4 with rfl | rfl | rfl | ⟨rfl, n1, n2⟩
        · skip
          go_upto_region 16 with (fail)
          have H6 : Hid (CellsAt wc hb [.int .i64 1, .int .i64 n, .slice sa sm sc]) := HM.out.H
          have S6 : Hid (wc.ownsRow w.heap.size TInt 1 (.slice sa sm sc) of.length (of.map (.int .i64))) := own_base HM.out.S zB
          have O6 := OT; have B6 := BW
          clear g0 g1 g2 x0 x1 x2 xz xf0 xf1 HM OT BW xne xne2
          have y0 := H6.out.at_ 0 rfl; have y1 := H6.out.at_ 1 rfl; have y2 := H6.out.at_ 2 rfl; have yz := H6.out.lt
          have z6 := B6.out.size
          have hG := HGL.out
          have hsz1 : w.heap.size ≤ (wc.alloc (.cells #[.int .i64 1, .int .i64 n, .slice sa sm sc] TGate)).heap.size := by simp; omega
          have O7 := O6.out.call ((Below.refl _ _).alloc (Nat.le_refl _) (.cells #[.int .i64 1, .int .i64 n, .slice sa sm sc] TGate))
          have S7 := own_later S6.out ((Below.refl _ _).alloc (Nat.le_refl _) (.cells #[.int .i64 1, .int .i64 n, .slice sa sm sc] TGate)) (Nat.le_refl _)
          have HO7 := Lib.hid O7; have HS7 := Lib.hid S7
          clear O7 S7
          go_wp2_with (at_builtin; refine wpList_append_own _ rfl _ _ 22 rfl w.heap.size TGate i0 (.agg #[.int .i64 0, .int .i64 0, .slice none 0 0]) 3 40 Try.underlying22 hi hz0 hz1 hz2 rfl (by decide) _ _ _ rfl HO7.out.O ⟨wc.heap.size, 0, none⟩ 1 1 [.int .i64 1, .int .i64 n, .slice sa sm sc] rfl rfl (CellsAt.srcG (CellsAt.new wc _ _ _ rfl)) (by simp [Value.oneCell']) (by unfold maxLen; omega) (by omega) hsz1 ?_; intro v' w7 hown' hgrow _)
          have HP := Lib.hid (HO7.out.push (x := (((1 : Int), n, of), .slice sa sm sc)) HS7.out hown' hgrow)
          have BG : Below w.heap.size wc w7 := ((Below.refl _ _).alloc z6 _).grown hgrow hsz1 (fun j e => (HO7.out.O.lt j e).1)
          have HBG := Lib.hid (B6.out.trans BG)
          clear hown' hgrow BG y0 y1 y2 yz
          go_roundw
          case rel => exact ⟨k + 1, gs ++ [(((1 : Int), n, of), .slice sa sm sc)], by omega, by go_num, by rw [List.map_append, HGS.out, HST.out]; rfl, HP.out, HBG.out⟩
          case measure => simp [intOf]; omega
        · skip
          go_upto_region 16 with (fail)
          have hg6 : wc.grownBy (wc.setCell ⟨hb, 0, none⟩ (.int .i64 3)) (some hb) := ⟨rfl, rfl, rfl, by simp [World.setCell], fun k _ hk => heap_setCell_other _ ⟨hb, 0, none⟩ k _ (fun e => hk (by rw [e]))⟩
          have H6 : Hid (CellsAt (wc.setCell ⟨hb, 0, none⟩ (.int .i64 3)) hb [.int .i64 3, .int .i64 n, .slice sa sm sc]) := HM.out.H.set_ 0 (by simp) _
          have S6 : Hid ((wc.setCell ⟨hb, 0, none⟩ (.int .i64 3)).ownsRow w.heap.size TInt 1 (.slice sa sm sc) of.length (of.map (.int .i64))) := own_gen_grown (own_base HM.out.S zB) hg6 (fun k e e' => HM.out.ne (e.trans e'.symm))
          have O6 : Hid (OwnTree (wc.setCell ⟨hb, 0, none⟩ (.int .i64 3)) w.heap.size _ gs) := OwnTree.far HO.out OT.out (Nat.le_of_lt xlt) hg6
          have B6 : Hid (Below w.heap.size w (wc.setCell ⟨hb, 0, none⟩ (.int .i64 3))) := BW.out.setCell (p := ⟨hb, 0, none⟩) (by show w.heap.size ≤ hb; omega) _
          clear hg6
          clear g0 g1 g2 x0 x1 x2 xz xf0 xf1 HM OT BW xne xne2
          generalize (wc.setCell ⟨hb, 0, none⟩ (.int .i64 3)) = w6 at *
          have y0 := H6.out.at_ 0 rfl; have y1 := H6.out.at_ 1 rfl; have y2 := H6.out.at_ 2 rfl; have yz := H6.out.lt
          have z6 := B6.out.size
          have hG := HGL.out
          have hsz1 : w.heap.size ≤ (w6.alloc (.cells #[.int .i64 3, .int .i64 n, .slice sa sm sc] TGate)).heap.size := by simp; omega
          have O7 := O6.out.call ((Below.refl _ _).alloc (Nat.le_refl _) (.cells #[.int .i64 3, .int .i64 n, .slice sa sm sc] TGate))
          have S7 := own_later S6.out ((Below.refl _ _).alloc (Nat.le_refl _) (.cells #[.int .i64 3, .int .i64 n, .slice sa sm sc] TGate)) (Nat.le_refl _)
          have HO7 := Lib.hid O7; have HS7 := Lib.hid S7
          clear O7 S7
          go_wp2_with (at_builtin; refine wpList_append_own _ rfl _ _ 22 rfl w.heap.size TGate i0 (.agg #[.int .i64 0, .int .i64 0, .slice none 0 0]) 3 40 Try.underlying22 hi hz0 hz1 hz2 rfl (by decide) _ _ _ rfl HO7.out.O ⟨w6.heap.size, 0, none⟩ 1 1 [.int .i64 3, .int .i64 n, .slice sa sm sc] rfl rfl (CellsAt.srcG (CellsAt.new w6 _ _ _ rfl)) (by simp [Value.oneCell']) (by unfold maxLen; omega) (by omega) hsz1 ?_; intro v' w7 hown' hgrow _)
          have HP := Lib.hid (HO7.out.push (x := (((3 : Int), n, of), .slice sa sm sc)) HS7.out hown' hgrow)
          have BG : Below w.heap.size w6 w7 := ((Below.refl _ _).alloc z6 _).grown hgrow hsz1 (fun j e => (HO7.out.O.lt j e).1)
          have HBG := Lib.hid (B6.out.trans BG)
          clear hown' hgrow BG y0 y1 y2 yz
          go_roundw
          case rel => exact ⟨k + 1, gs ++ [(((3 : Int), n, of), .slice sa sm sc)], by omega, by go_num, by rw [List.map_append, HGS.out, HST.out]; rfl, HP.out, HBG.out⟩
          case measure => simp [intOf]; omega
        · skip
          go_upto_region 16 with (fail)
          have hg6 : wc.grownBy (wc.setCell ⟨hb, 0, none⟩ (.int .i64 2)) (some hb) := ⟨rfl, rfl, rfl, by simp [World.setCell], fun k _ hk => heap_setCell_other _ ⟨hb, 0, none⟩ k _ (fun e => hk (by rw [e]))⟩
          have H6 : Hid (CellsAt (wc.setCell ⟨hb, 0, none⟩ (.int .i64 2)) hb [.int .i64 2, .int .i64 n, .slice sa sm sc]) := HM.out.H.set_ 0 (by simp) _
          have S6 : Hid ((wc.setCell ⟨hb, 0, none⟩ (.int .i64 2)).ownsRow w.heap.size TInt 1 (.slice sa sm sc) of.length (of.map (.int .i64))) := own_gen_grown (own_base HM.out.S zB) hg6 (fun k e e' => HM.out.ne (e.trans e'.symm))
          have O6 : Hid (OwnTree (wc.setCell ⟨hb, 0, none⟩ (.int .i64 2)) w.heap.size _ gs) := OwnTree.far HO.out OT.out (Nat.le_of_lt xlt) hg6
          have B6 : Hid (Below w.heap.size w (wc.setCell ⟨hb, 0, none⟩ (.int .i64 2))) := BW.out.setCell (p := ⟨hb, 0, none⟩) (by show w.heap.size ≤ hb; omega) _
          clear hg6
          clear g0 g1 g2 x0 x1 x2 xz xf0 xf1 HM OT BW xne xne2
          generalize (wc.setCell ⟨hb, 0, none⟩ (.int .i64 2)) = w6 at *
          have y0 := H6.out.at_ 0 rfl; have y1 := H6.out.at_ 1 rfl; have y2 := H6.out.at_ 2 rfl; have yz := H6.out.lt
          have z6 := B6.out.size
          have hG := HGL.out
          have hsz1 : w.heap.size ≤ (w6.alloc (.cells #[.int .i64 2, .int .i64 n, .slice sa sm sc] TGate)).heap.size := by simp; omega
          have O7 := O6.out.call ((Below.refl _ _).alloc (Nat.le_refl _) (.cells #[.int .i64 2, .int .i64 n, .slice sa sm sc] TGate))
          have S7 := own_later S6.out ((Below.refl _ _).alloc (Nat.le_refl _) (.cells #[.int .i64 2, .int .i64 n, .slice sa sm sc] TGate)) (Nat.le_refl _)
          have HO7 := Lib.hid O7; have HS7 := Lib.hid S7
          clear O7 S7
          go_wp2_with (at_builtin; refine wpList_append_own _ rfl _ _ 22 rfl w.heap.size TGate i0 (.agg #[.int .i64 0, .int .i64 0, .slice none 0 0]) 3 40 Try.underlying22 hi hz0 hz1 hz2 rfl (by decide) _ _ _ rfl HO7.out.O ⟨w6.heap.size, 0, none⟩ 1 1 [.int .i64 2, .int .i64 n, .slice sa sm sc] rfl rfl (CellsAt.srcG (CellsAt.new w6 _ _ _ rfl)) (by simp [Value.oneCell']) (by unfold maxLen; omega) (by omega) hsz1 ?_; intro v' w7 hown' hgrow _)
          have HP := Lib.hid (HO7.out.push (x := (((2 : Int), n, of), .slice sa sm sc)) HS7.out hown' hgrow)
          have BG : Below w.heap.size w6 w7 := ((Below.refl _ _).alloc z6 _).grown hgrow hsz1 (fun j e => (HO7.out.O.lt j e).1)
          have HBG := Lib.hid (B6.out.trans BG)
          clear hown' hgrow BG y0 y1 y2 yz
          go_roundw
          case rel => exact ⟨k + 1, gs ++ [(((2 : Int), n, of), .slice sa sm sc)], by omega, by go_num, by rw [List.map_append, HGS.out, HST.out]; rfl, HP.out, HBG.out⟩
          case measure => simp [intOf]; omega
        · have f1 : IntKind.i64.wrap ((of.length : Int) + 1) = (of.length : Int) + 1 := IntWalk.i64_in _ (by omega)
          have f2 : IntKind.i64.wrap ((of.length : Int) + 1 - n) = (of.length : Int) + 1 - n := IntWalk.i64_in _ (by omega)
          go_upto_region 16 with (fail)
          have hg6 : wc.grownBy (wc.setCell ⟨hb, 1, none⟩ (.int .i64 ((of.length : Int) + 1 - n))) (some hb) := ⟨rfl, rfl, rfl, by simp [World.setCell], fun k _ hk => heap_setCell_other _ ⟨hb, 1, none⟩ k _ (fun e => hk (by rw [e]))⟩
          have H6 : Hid (CellsAt (wc.setCell ⟨hb, 1, none⟩ (.int .i64 ((of.length : Int) + 1 - n))) hb [.int .i64 4, .int .i64 ((of.length : Int) + 1 - n), .slice sa sm sc]) := HM.out.H.set_ 1 (by simp) _
          have S6 : Hid ((wc.setCell ⟨hb, 1, none⟩ (.int .i64 ((of.length : Int) + 1 - n))).ownsRow w.heap.size TInt 1 (.slice sa sm sc) of.length (of.map (.int .i64))) := own_gen_grown (own_base HM.out.S zB) hg6 (fun k e e' => HM.out.ne (e.trans e'.symm))
          have O6 : Hid (OwnTree (wc.setCell ⟨hb, 1, none⟩ (.int .i64 ((of.length : Int) + 1 - n))) w.heap.size _ gs) := OwnTree.far HO.out OT.out (Nat.le_of_lt xlt) hg6
          have B6 : Hid (Below w.heap.size w (wc.setCell ⟨hb, 1, none⟩ (.int .i64 ((of.length : Int) + 1 - n)))) := BW.out.setCell (p := ⟨hb, 1, none⟩) (by show w.heap.size ≤ hb; omega) _
          clear hg6
          clear g0 g1 g2 x0 x1 x2 xz xf0 xf1 HM OT BW xne xne2
          generalize (wc.setCell ⟨hb, 1, none⟩ (.int .i64 ((of.length : Int) + 1 - n))) = w6 at *
          have y0 := H6.out.at_ 0 rfl; have y1 := H6.out.at_ 1 rfl; have y2 := H6.out.at_ 2 rfl; have yz := H6.out.lt
          have z6 := B6.out.size
          have hG := HGL.out
          have hsz1 : w.heap.size ≤ (w6.alloc (.cells #[.int .i64 4, .int .i64 ((of.length : Int) + 1 - n), .slice sa sm sc] TGate)).heap.size := by simp; omega
          have O7 := O6.out.call ((Below.refl _ _).alloc (Nat.le_refl _) (.cells #[.int .i64 4, .int .i64 ((of.length : Int) + 1 - n), .slice sa sm sc] TGate))
          have S7 := own_later S6.out ((Below.refl _ _).alloc (Nat.le_refl _) (.cells #[.int .i64 4, .int .i64 ((of.length : Int) + 1 - n), .slice sa sm sc] TGate)) (Nat.le_refl _)
          have HO7 := Lib.hid O7; have HS7 := Lib.hid S7
          clear O7 S7
          go_wp2_with (at_builtin; refine wpList_append_own _ rfl _ _ 22 rfl w.heap.size TGate i0 (.agg #[.int .i64 0, .int .i64 0, .slice none 0 0]) 3 40 Try.underlying22 hi hz0 hz1 hz2 rfl (by decide) _ _ _ rfl HO7.out.O ⟨w6.heap.size, 0, none⟩ 1 1 [.int .i64 4, .int .i64 ((of.length : Int) + 1 - n), .slice sa sm sc] rfl rfl (CellsAt.srcG (CellsAt.new w6 _ _ _ rfl)) (by simp [Value.oneCell']) (by unfold maxLen; omega) (by omega) hsz1 ?_; intro v' w7 hown' hgrow _)
          have HP := Lib.hid (HO7.out.push (x := (((4 : Int), ((of.length : Int) + 1 - n), of), .slice sa sm sc)) HS7.out hown' hgrow)
          have BG : Below w.heap.size w6 w7 := ((Below.refl _ _).alloc z6 _).grown hgrow hsz1 (fun j e => (HO7.out.O.lt j e).1)
          have HBG := Lib.hid (B6.out.trans BG)
          clear hown' hgrow BG y0 y1 y2 yz
          go_roundw
          case rel => exact ⟨k + 1, gs ++ [(((4 : Int), ((of.length : Int) + 1 - n), of), .slice sa sm sc)], by omega, by go_num, by rw [List.map_append, HGS.out, HST.out]; rfl, HP.out, HBG.out⟩
          case measure => simp [intOf]; omega
    · obtain rfl : k = ts.length := by omega
      have e9 : ts.take ts.length = ts := List.take_length
      clear hB
      go_wp2
      go_ret2
      exact ⟨⟨_, gs, rfl, by have := HGS.out; rw [e9] at this; exact this, HO.out⟩, HB.out⟩

end Go.Proofs.Ytiocgmioijcjhaa
