/- CutsOwn: the comparison of two trees; what cuts.Dual, cuts.Cuts, cuts.Across and cuts.Fails leave, whatever they are handed. -/
import Derived.Test.YtiocgmioijcjhaaOwnGate
import Derived.Test.YtiocgmioijcjhaaAcross
import Derived.Test.YtiocgmioijcjhaaGateOpen
namespace Go.Proofs.Ytiocgmioijcjhaa
open Go.ChangeShapes Go.WideShapes Go.ChangeAt Go.RowKit
set_option linter.unusedVariables false

set_option maxHeartbeats 2000000 in
set_option maxRecDepth 100000 in
/-- the comparison of a gate with itself -/
theorem sameO_is (kd n : Int) (of : List Int) (a1 a2 : Option Addr) (c1 c2 : Nat) (w : World) (h1 : IntsAt .i64 w (.slice a1 of.length c1) of) (h2 : IntsAt .i64 w (.slice a2 of.length c2) of) (hl : of.length ≤ 281474976710656) :
    Calls Try.prog 29 #[.agg #[.int .i64 kd, .int .i64 n, .slice a1 of.length c1], .agg #[.int .i64 kd, .int .i64 n, .slice a2 of.length c2]] w fun e w' => e = .returned (.bool true) ∧ Below w.heap.size w w' := by
  have H1 := Lib.hid h1; have H2 := Lib.hid h2
  have BB : Hid (Below w.heap.size w ((w.alloc (.cells #[.int .i64 kd, .int .i64 n, .slice a1 of.length c1] TGate)).alloc (.cells #[.int .i64 kd, .int .i64 n, .slice a2 of.length c2] TGate))) := ((Below.refl w.heap.size w).alloc (Nat.le_refl _) _).alloc (by simp) _
  clear h1 h2
  go_enter Try.func29, Try.ntmps29
  go_wp2_with fail
  refine (equal_i64 of of _ _ _ (H1.out.later BB.out (Nat.le_refl _)) (H2.out.later BB.out (Nat.le_refl _)) (by omega) (by omega)).mono ?_
  rintro e w1 ⟨m1, rfl, rfl⟩
  rw [show decide (of = of) = true from decide_eq_true rfl]
  go_wp2
  go_ret
  exact ⟨rfl, below_drewN BB.out m1⟩
set_option maxHeartbeats 4000000 in
set_option maxRecDepth 100000 in
theorem eqOwn_is (ts : List GateR) (v u : Value) (w : World) (hv : GatesAt w v ts) (hu : GatesAt w u ts) (hm : ts.length ≤ 281474976710656) :
    Calls Try.prog 13 #[v, u, .func (.func 29) #[] #[]] w fun e w' => e = .returned (.bool true) ∧ Below w.heap.size w w' := by
  obtain ⟨a1, c1, rfl⟩ := hv.len
  obtain ⟨a2, c2, rfl⟩ := hu.len
  have HV := Lib.hid hv; have HU := Lib.hid hu
  clear hv hu
  go_enter Try.func13, Try.ntmps13
  go_wp2_with fail
  go_loopw [17] (fun i wr => (∃ k : Nat, k ≤ ts.length ∧ i = .int .i64 k) ∧ Below w.heap.size w wr) (fun i _ => ts.length - (intOf i).toNat)
  case atStart => exact ⟨⟨0, Nat.zero_le _, rfl⟩, Below.refl _ _⟩
  case round =>
    obtain ⟨⟨k, hk, rfl⟩, hB⟩ := hrel
    have HB := Lib.hid hB
    have zB := hB.size
    by_cases hlt : k < ts.length
    · obtain ⟨g, hg⟩ : ∃ g, ts[k]? = some g := ⟨_, List.getElem?_eq_getElem hlt⟩
      obtain ⟨b, off, cap, hv', hl1, x0, x1, ao, co, x2, hof, hofl⟩ := (HV.out.later hB).at_ hg
      cases hv'
      obtain ⟨kd, n, of⟩ := g
      simp only at x0 x1 x2 hof hofl
      have BA : Hid (Below wr.heap.size wr (wr.alloc (.cells #[.int .i64 kd, .int .i64 n, .slice ao of.length co] TGate))) := (Below.refl wr.heap.size wr).alloc (Nat.le_refl _) _
      obtain ⟨b2, off2, cap2, hu', hl2, y0, y1, ao2, co2, y2, hof2, -⟩ := (HU.out.later (hB.alloc (by omega) (.cells #[.int .i64 kd, .int .i64 n, .slice ao of.length co] TGate))).at_ hg
      cases hu'
      simp only at y0 y1 y2 hof2
      have HOF := Lib.hid hof; have HOF2 := Lib.hid hof2
      have e5 : (k : Int) < (ts.length : Int) := by omega
      have e6 : k + 1 ≤ c1 := by omega
      have e7 : k + 1 ≤ c2 := by omega
      have BB : Hid (Below wr.heap.size wr ((wr.alloc (.cells #[.int .i64 kd, .int .i64 n, .slice ao of.length co] TGate)).alloc (.cells #[.int .i64 kd, .int .i64 n, .slice ao2 of.length co2] TGate))) := ((Below.refl wr.heap.size wr).alloc (Nat.le_refl _) _).alloc (by simp) _
      have BB2 : Hid (Below (wr.heap.size + 1) (wr.alloc (.cells #[.int .i64 kd, .int .i64 n, .slice ao of.length co] TGate)) ((wr.alloc (.cells #[.int .i64 kd, .int .i64 n, .slice ao of.length co] TGate)).alloc (.cells #[.int .i64 kd, .int .i64 n, .slice ao2 of.length co2] TGate))) := (Below.refl _ _).alloc (by simp) _
      clear hg hof hof2 hB
      go_upto_region 7 with (fail)
      have A1 : Hid (CellsAt ((wr.alloc (.cells #[.int .i64 kd, .int .i64 n, .slice ao of.length co] TGate)).alloc (.cells #[.int .i64 kd, .int .i64 n, .slice ao2 of.length co2] TGate)) wr.heap.size [.int .i64 kd, .int .i64 n, .slice ao of.length co]) := (CellsAt.new wr _ _ _ rfl).alloc _
      have A2 : Hid (CellsAt ((wr.alloc (.cells #[.int .i64 kd, .int .i64 n, .slice ao of.length co] TGate)).alloc (.cells #[.int .i64 kd, .int .i64 n, .slice ao2 of.length co2] TGate)) (wr.heap.size + 1) [.int .i64 kd, .int .i64 n, .slice ao2 of.length co2]) := CellsAt.new' (by simp) rfl
      clear x0 x1 x2 y0 y1 y2
      generalize (wr.alloc (.cells #[.int .i64 kd, .int .i64 n, .slice ao of.length co] TGate)).alloc (.cells #[.int .i64 kd, .int .i64 n, .slice ao2 of.length co2] TGate) = w5 at *
      have p0 := A1.out.at_ 0 rfl; have p1 := A1.out.at_ 1 rfl; have p2 := A1.out.at_ 2 rfl; have pz := A1.out.lt
      have q0 := A2.out.at_ 0 rfl; have q1 := A2.out.at_ 1 rfl; have q2 := A2.out.at_ 2 rfl; have qz := A2.out.lt
      go_wp2_with fail
      refine (sameO_is kd n of ao ao2 co co2 _ (HOF.out.later BB.out (Nat.le_refl _)) (HOF2.out.later (BB2.out) (by simp)) hofl).mono ?_
      rintro e w6 ⟨rfl, hb6⟩
      have B6 := Lib.hid ((HB.out.trans (BB.out.mono zB)).trans (hb6.mono (Nat.le_trans zB BB.out.size)))
      clear hb6 p0 p1 p2 pz q0 q1 q2 qz A1 A2
      go_wp2
      go_roundw
      case rel => exact ⟨⟨k + 1, by omega, by go_num⟩, B6.out⟩
      case measure => simp [intOf]; omega
    · obtain rfl : k = ts.length := by omega
      clear hB
      go_wp2
      go_ret
      exact ⟨rfl, HB.out⟩
theorem own_gatesO {W : World} {base : Nat} {v : Value} {gs : List GateV} {ts : List GateR} (h : OwnTree W base v gs) (e : gs.map (·.1) = ts) (hok : TreeOk ts) : GatesAt W v ts := by
  have h1 := h.gates (fun x hx => by
    obtain ⟨i, hi⟩ := List.getElem?_of_mem hx
    have := (hok.2.2 i x.1 (by rw [← e, List.getElem?_map, hi]; rfl)).2.1
    omega) (by
    have := hok.2.1
    rw [← e, List.length_map] at this
    omega)
  rwa [e] at h1

/-- the dual, or nothing -/
noncomputable def dualO (ts : List GateR) : List GateR := by classical exact if TreeOk ts then dualL ts else []
theorem dualO_yes {ts : List GateR} (h : TreeOk ts) : dualO ts = dualL ts := by unfold dualO; rw [if_pos h]
theorem dualO_no {ts : List GateR} (h : ¬ TreeOk ts) : dualO ts = [] := by unfold dualO; rw [if_neg h]
theorem dualO_bd {ts : List GateR} : (dualO ts).length ≤ 30 ∧ ∀ g ∈ dualO ts, g.2.2.length ≤ 6 := by
  by_cases h : TreeOk ts
  · rw [dualO_yes h]
    have hd := dual_ok h
    exact ⟨hd.2.1, fun g hg => by
      obtain ⟨i, hi, rfl⟩ := List.getElem_of_mem hg
      exact (hd.2.2 i _ (List.getElem?_eq_getElem hi)).2.1⟩
  · rw [dualO_no h]; exact ⟨by simp, by simp⟩
theorem ownO_gates {W : World} {base : Nat} {v : Value} {gs : List GateV} {ts : List GateR} (h : OwnTree W base v gs) (e : gs.map (·.1) = dualO ts) : GatesAt W v (dualO ts) := by
  have hb := dualO_bd (ts := ts)
  have h1 := h.gates (fun x hx => by
    have := hb.2 x.1 (by rw [← e]; exact List.mem_map_of_mem hx)
    omega) (by
    have := congrArg List.length e
    rw [List.length_map] at this
    omega)
  rwa [e] at h1
def DualP (ts : List GateR) (w : World) (e : Ending) (w' : World) : Prop := ∃ v gs c, e = .returned (.tuple #[v, .int .i64 c]) ∧ gs.map (·.1) = dualO ts ∧ OwnTree w' w.heap.size v gs ∧ Below w.heap.size w w'
theorem dual_any (ts : List GateR) (v : Value) (w : World) (hv : GatesAt w v ts) (hm : ts.length ≤ 281474976710656) : Calls Try.prog 10 #[v] w (DualP ts w) := by
  by_cases h : TreeOk ts
  · refine (dual_yes ts v w hv h).mono ?_
    rintro e w' ⟨⟨v', gs, rfl, hg, hO⟩, hb⟩
    exact ⟨v', gs, 0, rfl, by rw [dualO_yes h]; exact hg, hO, hb⟩
  · refine (dual_no ts v w hv h hm).mono ?_
    rintro e w' ⟨⟨c, -, rfl⟩, hb⟩
    exact ⟨_, [], c, rfl, by rw [dualO_no h]; rfl, ⟨World.ownsRow_nil _ _ _ _, fun x hx => by simp at hx⟩, hb⟩
def CutsP (w : World) (e : Ending) (w' : World) : Prop := ∃ v l c, e = .returned (.tuple #[v, .int .i64 c]) ∧ IntsAt .u16 w' v (u16s l) ∧ NewV w.heap.size v ∧ l.length ≤ 256 ∧ Below w.heap.size w w'
theorem cuts_any (ts : List GateR) (v : Value) (w : World) (hv : GatesAt w v ts) (hm : ts.length ≤ 281474976710656) : Calls Try.prog 16 #[v] w (CutsP w) := by
  by_cases h : TreeOk ts
  · refine (cuts_own ts v w hv h).mono ?_
    rintro e w' ⟨⟨v', rfl, hi, hn⟩, hb⟩
    exact ⟨v', _, 0, rfl, hi, hn, anti_len (cuts_anti h), hb⟩
  · refine (cuts_no ts v w hv h hm).mono ?_
    rintro e w' ⟨⟨c, -, rfl⟩, hb⟩
    exact ⟨_, [], c, rfl, .inl ⟨rfl, .inl rfl⟩, NewV.nil _, by simp, hb⟩
theorem across_any (l : List Nat) (v : Value) (w : World) (hv : IntsAt .u16 w v (u16s l)) (hl : l.length ≤ 281474976710656) (h5 : ∀ s ∈ l, s < 65536) : Calls Try.prog 20 #[v] w (CutsP w) := by
  by_cases h : l.length ≤ 100 ∧ ∀ s ∈ l, s < 256
  · refine (across_yes l v w hv h.1 h.2).mono ?_
    rintro e w' ⟨⟨v', rfl, ho⟩, hb⟩
    exact ⟨v', _, 0, rfl, ho.ints, NewV.own ho (Nat.le_refl _), anti_len (across_norm l).1, hb⟩
  · refine (across_no l v w hv hl h5 h).mono ?_
    rintro e w' ⟨⟨c, -, rfl⟩, hb⟩
    exact ⟨_, [], c, rfl, .inl ⟨rfl, .inl rfl⟩, NewV.nil _, by simp, hb⟩
theorem fails_any (ts : List GateR) (p : Nat) (v : Value) (w : World) (hv : GatesAt w v ts) (hp : p < 65536) (hm : ts.length ≤ 281474976710656) : Calls Try.prog 12 #[v, .int .u16 (p : Int)] w fun e w' => (∃ b c, e = .returned (.tuple #[.bool b, .int .i64 c])) ∧ Below w.heap.size w w' := by
  by_cases h : TreeOk ts
  · refine (cutsFails_yes ts p v w hv h hp).mono ?_
    rintro e w' ⟨rfl, hb⟩
    exact ⟨⟨_, _, rfl⟩, hb⟩
  · refine (cutsFails_no ts p v w hv h hm).mono ?_
    rintro e w' ⟨⟨c, -, rfl⟩, hb⟩
    exact ⟨⟨_, _, rfl⟩, hb⟩
/-! A tree as it came in, with the reach of its inputs. -/
def gateFitQ (w : World) (x : RawG) : Prop := gateFit w x ∧ x.2.2.2.1 * 8 ≤ 140737488351232
theorem gate_decQ {H : Type} {enc : TypeId × Value → H} {w : World} {base : Nat} {held : Bool} (r : List Value) (h : Open.LeafsS enc Try.prog w base (fun _ => true) held [3, 3, 28] r) : ∃ x, r = rawLay x ∧ gateFitQ w x := by
  obtain ⟨c0, r0, rfl, y0, yw0, h0⟩ := Open.leafsS_cons h
  obtain ⟨c1, r1, rfl, y1, yw1, h1⟩ := Open.leafsS_cons h0
  obtain ⟨c2, r2, rfl, y2, yw2, h2⟩ := Open.leafsS_cons h1
  obtain rfl := Open.leafsS_nil h2
  obtain ⟨a, rfl, ha⟩ := Open.leaf_int Try.underlying3 y0
  obtain ⟨b, rfl, hb⟩ := Open.leaf_int Try.underlying3 y1
  obtain ⟨p, len, cap, zs, rfl, hz⟩ := Open.leaf_ints Try.underlying28 Try.underlying3 (by kernel_rfl) y2
  have Q := Open.cap_leS (B := 8) Try.underlying28 (by kernel_rfl) yw2
  exact ⟨(a, b, p, len, cap, zs), rfl, ⟨hz, bounds_i64 ha, bounds_i64 hb⟩, by show len * 8 ≤ _; omega⟩
theorem raw_treesQ {w : World} {a : Option Addr} {len cap : Nat} {xs : List RawG} (h : Open.IsRecs 3 rawLay (gateFitQ w) w a len cap xs) : GatesAt w (.slice a len cap) ((xs.take len).map rawG) ∧ ((xs.take len).map rawG).length = len ∧ ∀ g ∈ (xs.take len).map rawG, g.2.2.length * 8 ≤ 140737488351232 := by
  have h1 : Open.IsRecs 3 rawLay (gateFitS w) w a len cap xs := by
    rcases h with h | ⟨x, e, hl, hm, hz, hc⟩
    · exact .inl h
    · exact .inr ⟨x, e, hl, hm, hz, fun i y hy => ⟨⟨(hc i y hy).1.1, by have := (hc i y hy).1.2; omega⟩, (hc i y hy).2⟩⟩
  obtain ⟨r1, r2⟩ := raw_trees h1
  refine ⟨r1, r2, fun g hg => ?_⟩
  obtain ⟨y, hy, rfl⟩ := List.mem_map.1 hg
  have hy2 := List.mem_of_mem_take hy
  rcases h with ⟨-, -, -, rfl⟩ | ⟨x', e, hl, hm, hz, hc⟩
  · simp at hy2
  · obtain ⟨i, hi⟩ := List.getElem?_of_mem hy2
    obtain ⟨hf, hq⟩ := (hc i y hi).1
    have h2 := (isRow_ints hf.1).2
    rw [show (rawG y).2.2 = y.2.2.2.2.2.take y.2.2.2.1 from rfl, h2]
    exact hq
/-- a slice of uint16 as numbers -/
theorem isRow_nats {w : World} {a : Option Addr} {len cap : Nat} {zs : List Int} (h : Open.IsRow .u16 w a len cap zs) : ∃ l : List Nat, IntsAt .u16 w (.slice a len cap) (u16s l) ∧ l.length = len ∧ ∀ s ∈ l, s < 65536 := by
  obtain ⟨h1, h2⟩ := isRow_ints h
  have hb : ∀ x ∈ zs, 0 ≤ x ∧ x ≤ 65535 := by
    rcases h with ⟨-, -, -, rfl⟩ | ⟨x', rfl, hl, hm, hz, hcell, hwz⟩
    · simp
    · intro x hx; exact bounds_u16 (hwz x hx)
  have h3 : u16s ((zs.take len).map Int.toNat) = zs.take len := by
    unfold u16s
    rw [List.map_map]
    conv => rhs; rw [← List.map_id (zs.take len)]
    refine List.map_congr_left fun x hx => ?_
    have := hb x (List.mem_of_mem_take hx)
    simp only [Function.comp, id]; omega
  refine ⟨(zs.take len).map Int.toNat, by rw [h3]; exact h1, by rw [List.length_map]; exact h2, fun s hs => ?_⟩
  obtain ⟨x, hx, rfl⟩ := List.mem_map.1 hs
  have := hb x (List.mem_of_mem_take hx)
  omega

end Go.Proofs.Ytiocgmioijcjhaa
