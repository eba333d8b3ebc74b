/- PastFront: whatever the formulas and the signs are, the law answers true and leaves memory as it was, where what it reads is of bulk at most 1048576 (beyond that the answer's list may pass the room that a machine has). -/
import Derived.Test.YtindfoknbfmmbaaRan
import Derived.Test.YtindfoknbfmmbaaBulk
namespace Go.Proofs.Ytindfoknbfmmbaa.pastFront
open Go.ChangeShapes Go.WideShapes Go.ChangeAt Go.RowKit Go.Proofs.Ytindfoknbfmmbaa Go.Proofs.Ytindfoknbfmmbaa.Open
set_option linter.unusedVariables false
theorem two_ok : PastOk [(1, 0, 0), (4, 0, 0)] := by
  refine ⟨by decide, by decide, fun i x hx => ?_⟩
  match i, hx with
  | 0, hx => cases hx; exact .inl ⟨rfl, by decide, by decide, rfl⟩
  | 1, hx => cases hx; exact .inr (.inl ⟨by decide, rfl, by decide, by decide⟩)
theorem two_lit : decide (pastRun [(1, 0, 0), (4, 0, 0)] [0, 1, 0] = [false, true, true]) = true := by decide +kernel
theorem two_bd : ∀ j, 0 ≤ ([0, 1, 0] : List Int).getD j 0 ∧ ([0, 1, 0] : List Int).getD j 0 ≤ 255 := by
  intro j
  match j with
  | 0 => decide
  | 1 => decide
  | 2 => decide
  | j + 3 => rw [List.getD_eq_getElem?_getD, List.getElem?_eq_none (by simp)]; decide
set_option maxHeartbeats 4000000 in
set_option maxRecDepth 100000 in
theorem way (xs : List PastR) (ss ts : List Int) (v u t : Value) (w : World) (hv : RecsAt 3 pastLay w v xs) (hu : IntsAt .u8 w u ss) (ht : IntsAt .u8 w t ts) (hs : ∀ j, 0 ≤ ss.getD j 0 ∧ ss.getD j 0 ≤ 255) (hts : ∀ j, 0 ≤ ts.getD j 0 ∧ ts.getD j 0 ≤ 255) (hx : xs.length ≤ 9223372036854775807)
    (hl : ss.length + ts.length ≤ 140737488351232) :
    Calls Try.prog 12 #[v, u, t] w fun e w' => e = .returned (.bool true) ∧ Below w.heap.size w w' := by
  obtain ⟨a, cap, rfl⟩ := hv.len
  obtain ⟨a2, cap2, rfl⟩ := hu.len
  obtain ⟨a3, cap3, rfl⟩ := ht.len
  have HV := Lib.hid hv; have HU := Lib.hid hu; have HT := Lib.hid ht; have HS := Lib.hid hs; have HTS := Lib.hid hts
  clear hv hu ht hs hts
  have F0 := Lib.hid ((recs_new (E := 64) w [((1 : Int), (0 : Int), (0 : Int)), (4, 0, 0)] #[.int .i64 1, .int .i64 0, .int .i64 0, .int .i64 4, .int .i64 0, .int .i64 0] rfl pastLay_len rfl (by decide)).alloc pastLay_len (.cells #[.int .u8 0, .int .u8 1, .int .u8 0] 5))
  have F1 := Lib.hid (ints_new (E := 5) (K := .u8) (w.alloc (.cells #[.int .i64 1, .int .i64 0, .int .i64 0, .int .i64 4, .int .i64 0, .int .i64 0] 64)) [0, 1, 0] #[.int .u8 0, .int .u8 1, .int .u8 0] rfl rfl (by decide))
  simp only [World.size_alloc] at F1
  go_enter Try.func12, Try.ntmps12
  go_wp2_with fail
  refine (ran_yes [(1, 0, 0), (4, 0, 0)] [0, 1, 0] _ _ _ two_ok F0.out F1.out two_bd (by decide)).mono ?_
  rintro e w1 ⟨v1, rfl, hown, hb⟩
  have B1 : Below w.heap.size w w1 := by repeat (first | with_reducible exact Below.refl _ _ | ((with_reducible refine Below.setCell ?_ ?_ _); rotate_left; (· first | (simp; done) | omega | (simp; omega))) | with_reducible refine below_drewN ?_ _ | with_reducible refine Below.drew ?_ | ((with_reducible refine Below.trans ?_ (Below.mono hb ?_)); rotate_left; (· first | (simp; done) | omega | (simp; omega))) | ((with_reducible refine Below.alloc ?_ ?_ _); rotate_left; (· first | (simp; done) | omega | (simp; omega))) | exact Below.refl _ _ | refine Below.setCell ?_ (by first | (simp; done) | omega | (simp; omega)) _ | refine below_drewN ?_ _ | refine Below.drew ?_ | refine Below.trans ?_ (Below.mono hb (by first | (simp; done) | omega | (simp; omega))) | refine Below.alloc ?_ (by first | (simp; done) | omega | (simp; omega)) _)
  have F2 := Lib.hid ((own_told hown).alloc (.cells #[.bool false, .bool true, .bool true] 4))
  have F3 := Lib.hid (bools_new (E := 4) w1 [false, true, true] #[.bool false, .bool true, .bool true] rfl rfl (by decide))
  have z1 := B1.size
  obtain ⟨g, capg, rfl, -, -⟩ := own_bd hown (by decide)
  clear F0 F1 hown hb
  go_wp2_with fail
  refine (equal_bool _ _ _ _ _ F2.out F3.out (by decide) (by decide)).mono ?_
  rintro e w2 ⟨m2, he, rfl⟩
  rw [two_lit] at he
  subst he
  have B2 : Below w.heap.size w ((w1.alloc (.cells #[.bool false, .bool true, .bool true] 4)).drewN m2) := by repeat (first | with_reducible exact Below.refl _ _ | with_reducible exact B1 | ((with_reducible refine Below.setCell ?_ ?_ _); rotate_left; (· first | (simp; done) | omega | (simp; omega))) | with_reducible refine below_drewN ?_ _ | with_reducible refine Below.drew ?_ | ((with_reducible refine Below.alloc ?_ ?_ _); rotate_left; (· first | (simp; done) | omega | (simp; omega))) | exact Below.refl _ _ | exact B1 | refine Below.setCell ?_ (by first | (simp; done) | omega | (simp; omega)) _ | refine below_drewN ?_ _ | refine Below.drew ?_ | refine Below.alloc ?_ (by first | (simp; done) | omega | (simp; omega)) _)
  clear F2 F3 B1
  generalize (w1.alloc (.cells #[.bool false, .bool true, .bool true] 4)).drewN m2 = w3 at *
  have z3 := B2.size
  by_cases hok : PastOk xs
  · have HOK := Lib.hid hok
    clear hok
    go_wp2_with fail
    refine (pastRun_yes xs ss _ _ _ HOK.out (HV.out.later pastLay_len B2 (Nat.le_refl _)) (HU.out.later B2 (Nat.le_refl _)) HS.out (by omega)).mono ?_
    rintro e w4 ⟨v4, rfl, hown4, hb4⟩
    have B4 := B2.trans (hb4.mono z3)
    have z4 := B4.size
    have z34 := hb4.size
    obtain ⟨a4, cap4, hv4⟩ : ∃ a4 cap4, v4 = .slice a4 ss.length cap4 := by have := (own_told hown4).len; rwa [pastRun_len] at this
    subst hv4
    have HL := Lib.hid (own_told hown4)
    clear hb4 hown4
    go_wp2_with fail
    have C1 := src_ints (HU.out.later B4 (Nat.le_refl _))
    have C2 := src_ints (HT.out.later B4 (Nat.le_refl _))
    refine (concat_u8 w4.heap.size _ _ ss.length ts.length _ _ _ (C1.below ((Below.refl w4.heap.size w4).alloc (Nat.le_refl _) _) (Nat.le_refl _)) (C2.below ((Below.refl w4.heap.size w4).alloc (Nat.le_refl _) _) (Nat.le_refl _)) (by simp [Value.oneCell']) (by simp [Value.oneCell']) (by go_simp) (by go_simp) (by omega)).mono ?_
    rintro e w5 ⟨v5, rfl, hown5, hb5⟩
    have B45 : Below w4.heap.size w4 w5 := by repeat (first | with_reducible exact Below.refl _ _ | ((with_reducible refine Below.setCell ?_ ?_ _); rotate_left; (· first | (simp; done) | omega | (simp; omega))) | with_reducible refine below_drewN ?_ _ | with_reducible refine Below.drew ?_ | ((with_reducible refine Below.trans ?_ (Below.mono hb5 ?_)); rotate_left; (· first | (simp; done) | omega | (simp; omega))) | ((with_reducible refine Below.alloc ?_ ?_ _); rotate_left; (· first | (simp; done) | omega | (simp; omega))) | exact Below.refl _ _ | refine Below.setCell ?_ (by first | (simp; done) | omega | (simp; omega)) _ | refine below_drewN ?_ _ | refine Below.drew ?_ | refine Below.trans ?_ (Below.mono hb5 (by first | (simp; done) | omega | (simp; omega))) | refine Below.alloc ?_ (by first | (simp; done) | omega | (simp; omega)) _)
    have B5 := B4.trans (B45.mono z4)
    have z5 := B5.size
    rw [← List.map_append] at hown5
    have HC := own_ints' (xs := ss ++ ts) (by rw [List.length_append]; exact hown5)
    clear hown5 hb5 C1 C2
    obtain ⟨a5, cap5, rfl⟩ := HC.len
    rw [List.length_append] at HC ⊢
    have HC' := Lib.hid HC
    clear HC
    have HL5 := Lib.hid (HL.out.later B45 (Nat.le_refl _))
    go_wp2_with fail
    have HV5 := HV.out.later pastLay_len B5 (Nat.le_refl _)
    refine (pastRun_yes xs (ss ++ ts) _ _ _ HOK.out HV5 HC'.out (bd_append HS.out HTS.out) (by simp; omega)).mono ?_
    rintro e w6 ⟨v6, rfl, hown6, hb6⟩
    have B6 := B5.trans (hb6.mono z5)
    have HL6 := HL5.out.later hb6 (Nat.le_refl _)
    have HM := own_told hown6
    have HF := own_form hown6
    rw [List.length_append] at HF
    have hf := run_front xs ss ts
    have hl6 : (pastRun xs ss).length ≤ 9223372036854775807 := by rw [pastRun_len]; omega
    have t1 : ((ss.length : Int) + (ts.length : Int) == (ss.length : Int) + (ts.length : Int)) = true := by simp
    rcases HF with ⟨rfl, h0⟩ | ⟨g6, cap6, rfl, -, -, hc6, hm6⟩
    · have e1 : ss.length = 0 := by omega
      have e2 : ts.length = 0 := by omega
      have HT6 := Lib.hid (bools_take HM ss.length (by omega))
      rw [hf] at HT6
      have HL7 := Lib.hid HL6; have HLB := Lib.hid hl6
      rw [e1] at HT6 HL7 t1 ⊢
      rw [e2] at t1 ⊢
      clear HL6 HM hf hown6 hb6 HL5 HC' HL hl6 e1 e2 h0
      go_wp2_with fail
      refine (equal_bool _ _ _ _ _ HT6.out HL7.out HLB.out HLB.out).mono ?_
      rintro e w7 ⟨m7, he, rfl⟩
      rw [decide_eq_true rfl] at he
      subst he
      go_wp2
      go_ret
      exact ⟨rfl, below_drewN B6 _⟩
    · have HT6 := Lib.hid (bools_take (n := ss.length + ts.length) (a := some ⟨g6, 0, none⟩) (cap := cap6) HM ss.length (by omega))
      rw [hf] at HT6
      have HL7 := Lib.hid HL6; have HLB := Lib.hid hl6
      clear HL6 HM hf hown6 hb6 HL5 HC' HL hl6
      go_wp2_with fail
      refine (equal_bool _ _ _ _ _ HT6.out HL7.out HLB.out HLB.out).mono ?_
      rintro e w7 ⟨m7, he, rfl⟩
      rw [decide_eq_true rfl] at he
      subst he
      go_wp2
      go_ret
      exact ⟨rfl, below_drewN B6 _⟩
  · have HOK := Lib.hid hok
    have hne : (pastE xs != 0) = true := by rw [bne_iff_ne]; exact pastE_ne xs
    have hee : (pastE xs == pastE xs) = true := by simp
    clear hok
    go_wp2_with fail
    refine (pastRun_no xs _ _ _ HOK.out (HV.out.later pastLay_len B2 (Nat.le_refl _)) hx).mono ?_
    rintro e w4 ⟨rfl, hb4⟩
    have B4 := B2.trans (hb4.mono z3)
    have z4 := B4.size
    clear hb4
    go_wp2_with fail
    have C1 := src_ints (HU.out.later B4 (Nat.le_refl _))
    have C2 := src_ints (HT.out.later B4 (Nat.le_refl _))
    refine (concat_u8 w4.heap.size _ _ ss.length ts.length _ _ _ (C1.below ((Below.refl w4.heap.size w4).alloc (Nat.le_refl _) _) (Nat.le_refl _)) (C2.below ((Below.refl w4.heap.size w4).alloc (Nat.le_refl _) _) (Nat.le_refl _)) (by simp [Value.oneCell']) (by simp [Value.oneCell']) (by go_simp) (by go_simp) (by omega)).mono ?_
    rintro e w5 ⟨v5, rfl, hown5, hb5⟩
    have B45 : Below w4.heap.size w4 w5 := by repeat (first | with_reducible exact Below.refl _ _ | ((with_reducible refine Below.setCell ?_ ?_ _); rotate_left; (· first | (simp; done) | omega | (simp; omega))) | with_reducible refine below_drewN ?_ _ | with_reducible refine Below.drew ?_ | ((with_reducible refine Below.trans ?_ (Below.mono hb5 ?_)); rotate_left; (· first | (simp; done) | omega | (simp; omega))) | ((with_reducible refine Below.alloc ?_ ?_ _); rotate_left; (· first | (simp; done) | omega | (simp; omega))) | exact Below.refl _ _ | refine Below.setCell ?_ (by first | (simp; done) | omega | (simp; omega)) _ | refine below_drewN ?_ _ | refine Below.drew ?_ | refine Below.trans ?_ (Below.mono hb5 (by first | (simp; done) | omega | (simp; omega))) | refine Below.alloc ?_ (by first | (simp; done) | omega | (simp; omega)) _)
    have B5 := B4.trans (B45.mono z4)
    have z5 := B5.size
    clear hown5 hb5 C1 C2
    go_wp2_with fail
    have HV5 := HV.out.later pastLay_len B5 (Nat.le_refl _)
    refine (pastRun_no xs _ _ _ HOK.out HV5 hx).mono ?_
    rintro e w6 ⟨rfl, hb6⟩
    have B6 := B5.trans (hb6.mono z5)
    clear hb6 HV5
    go_wp2
    go_ret
    exact ⟨rfl, B6⟩
theorem law (a : Option Addr) (len cap : Nat) (xs : List PastR) (a2 : Option Addr) (len2 cap2 : Nat) (zs : List Int) (a3 : Option Addr) (len3 cap3 : Nat) (ys : List Int) (w : World) (h : IsRecs 3 pastLay pastFit w a len cap xs) (hr : len ≤ cap ∧ cap ≤ 1048576) (h2 : IsRow .u8 w a2 len2 cap2 zs) (hr2 : len2 ≤ cap2 ∧ cap2 ≤ 1048576)
    (h3 : IsRow .u8 w a3 len3 cap3 ys) (hr3 : len3 ≤ cap3 ∧ cap3 ≤ 1048576) :
    Calls Try.prog 12 #[.slice a len cap, .slice a2 len2 cap2, .slice a3 len3 cap3] w fun e w' => e = .returned (.bool true) ∧ Below w.heap.size w w' := by
  obtain ⟨g3, g4, -⟩ := isRecs_recs h (by omega) pastLay_len
  obtain ⟨g5, g6⟩ := isRow_ints h2
  obtain ⟨g7, g8⟩ := isRow_ints h3
  exact way (xs.take len) (zs.take len2) (ys.take len3) _ _ _ w g3 g5 g7 (u8_bd h2) (u8_bd h3) (by omega) (by omega)
set_option maxRecDepth 100000 in
theorem contract (H : Type) (enc : TypeId × Value → H) (W : World) (base : Nat) (args : Array Value) (ds gs : List (DataW H)) (before : List MemPlace)
    (hval0 : ∀ (j : Nat) t v, Try.f12.params[j]? = some t → args[j]? = some v → Value.okWide Try.prog W .any base t v)
    (hW : DataW.Whole enc Try.prog Try.f12.params.toList Rows.pastFrontSpec.vars false W args.toList ds gs before) (hk : Rows.uptoSmall H (ds ++ gs) = true) :
    Calls Try.prog 12 args W fun e W' => ∃ v, e = .returned v ∧ Rows.pastFrontSpec.post enc Try.prog Try.f12 false true false false W args v W' := by
  have hval : ∀ (j : Nat) t v, Try.f12.params[j]? = some t → args[j]? = some v → Value.okWide Try.prog W .any base t v := hval0
  have hW' := hW
  obtain ⟨p, q, hA0, hV, rfl, hfz, hnd⟩ := hW
  have hA : DataW.TrodAll enc Try.prog W 0 (fun _ => true) true Try.f12.params.toList args.toList ds p := hA0
  rw [Try.params12] at hA hval
  obtain ⟨v0, vs0, d0, ds0, p0, q0, hargs, rfl, rfl, h0, r0⟩ := trodAll_cons hA
  obtain ⟨v1, vs1, d1, ds1, p1, q1, rfl, rfl, rfl, h1, r1⟩ := trodAll_cons r0
  obtain ⟨v2, vs2, d2, ds2, p2, q2, rfl, rfl, rfl, h2, r2⟩ := trodAll_cons r1
  obtain ⟨rfl, rfl, rfl⟩ := trodAll_nil r2
  obtain rfl : args = #[v0, v1, v2] := by cases args; simp_all
  obtain ⟨rfl, rfl⟩ := trodVars_none hV
  have k0 := h0
  have lt0 : ∀ x ∈ p0, x.block < W.heap.size := by obtain ⟨m, hm⟩ := k0; exact DataW.trod_lt m _ _ _ hm
  have k1 := h1
  have lt1 : ∀ x ∈ p1, x.block < W.heap.size := by obtain ⟨m, hm⟩ := k1; exact DataW.trod_lt m _ _ _ hm
  have k2 := h2
  have lt2 : ∀ x ∈ p2, x.block < W.heap.size := by obtain ⟨m, hm⟩ := k2; exact DataW.trod_lt m _ _ _ hm
  obtain ⟨sa0, sl0, sc0, rfl⟩ := okWide_slice Try.underlying58 (hval 0 58 v0 rfl rfl)
  obtain ⟨a0, len0, cap0, z0, e0, w0⟩ := leaf_recs (ts := [3, 3, 3]) 3 pastLay pastFit 12 (Try.underlying58) (by kernel_rfl) (by kernel_rfl) rfl past_dec (by obtain ⟨fuel, hf⟩ := h0; exact ⟨fuel, _, by simpa [Value.cells] using hf⟩)
  simp only [Value.slice.injEq] at e0
  obtain ⟨rfl, rfl, rfl⟩ := e0
  have R0 := Bulk.cap_small Try.underlying58 k0 (fun elems spare hd => by have h1 := Nat.le_trans (Bulk.part_le (d := d0) (l := [d0, d1, d2] ++ []) (by simp)) (Bulk.bound hk); rw [hd] at h1; have h2 := Bulk.slice_le elems spare; omega)
  obtain ⟨sa1, sl1, sc1, rfl⟩ := okWide_slice Try.underlying59 (hval 1 59 v1 rfl rfl)
  obtain ⟨a1, len1, cap1, z1, e1, w1⟩ := leaf_ints (Try.underlying59) (Try.underlying5) (by kernel_rfl) (by obtain ⟨fuel, hf⟩ := h1; exact ⟨fuel, _, by simpa [Value.cells] using hf⟩)
  simp only [Value.slice.injEq] at e1
  obtain ⟨rfl, rfl, rfl⟩ := e1
  have R1 := Bulk.cap_small Try.underlying59 k1 (fun elems spare hd => by have h1 := Nat.le_trans (Bulk.part_le (d := d1) (l := [d0, d1, d2] ++ []) (by simp)) (Bulk.bound hk); rw [hd] at h1; have h2 := Bulk.slice_le elems spare; omega)
  obtain ⟨sa2, sl2, sc2, rfl⟩ := okWide_slice Try.underlying59 (hval 2 59 v2 rfl rfl)
  obtain ⟨a2, len2, cap2, z2, e2, w2⟩ := leaf_ints (Try.underlying59) (Try.underlying5) (by kernel_rfl) (by obtain ⟨fuel, hf⟩ := h2; exact ⟨fuel, _, by simpa [Value.cells] using hf⟩)
  simp only [Value.slice.injEq] at e2
  obtain ⟨rfl, rfl, rfl⟩ := e2
  have R2 := Bulk.cap_small Try.underlying59 k2 (fun elems spare hd => by have h1 := Nat.le_trans (Bulk.part_le (d := d2) (l := [d0, d1, d2] ++ []) (by simp)) (Bulk.bound hk); rw [hd] at h1; have h2 := Bulk.slice_le elems spare; omega)
  clear hA0 hval0
  refine (law sa0 sl0 sc0 z0 sa1 sl1 sc1 z1 sa2 sl2 sc2 z2 W w0 R0 w1 R1 w2 R2).mono fun e W' ⟨he, bel⟩ => ?_
  subst he
  exact ⟨_, rfl, _, _, _, [], _, [], hW', trodAll_mk1 (shut_bool Try.underlying4 _), (trodAll_cons_mk (Below.trod laidOut (by kernel_rfl) (of_decide_eq_true (by kernel_rfl)) k0 bel lt0) (trodAll_cons_mk (Below.trod laidOut (by kernel_rfl) (of_decide_eq_true (by kernel_rfl)) k1 bel lt1) (trodAll_cons_mk (Below.trod laidOut (by kernel_rfl) (of_decide_eq_true (by kernel_rfl)) k2 bel lt2) trodAll_mk0))), rfl, bel.frame _, fun h => by cases h⟩
set_option maxRecDepth 100000 in
theorem lifted (os : Os) (started : os.Started) (H : Type) (enc : TypeId × Value → H) (F : Stop.Interp) :
    ReturnsInHanded {} Try.checked os 12 .any ((Rows.OpenSpec.upto Rows.pastFrontSpec).pre6 enc Try.prog Try.f12 Rows.pastFrontUptoRow.domain false) (((Rows.OpenSpec.upto Rows.pastFrontSpec).at F).post enc Try.prog Try.f12 false true false false) := by
  refine returnsInHanded_of_cond (C := Try.checked) (s := Rows.OpenSpec.upto Rows.pastFrontSpec) (k := Rows.uptoSmall) rfl own started (by kernel_rfl) Try.func12
    (OpenSpec.witness (enc := enc) (C := Try.checked) (s := Rows.OpenSpec.upto Rows.pastFrontSpec) (k := Rows.uptoSmall) rfl false ⟨#[], #[.slice none 0 0, .slice none 0 0, .slice none 0 0], []⟩ 8 (by kernel_rfl) (by kernel_rfl) (by kernel_rfl)
      (x := ([.nil, .nil, .nil], [], [])) (by kernel_rfl) rfl (by kernel_rfl)) ?_
  intro W base args ds gs before hval hW _ hk _
  exact contract H enc W base args ds gs before hval hW hk
theorem over : Rows.pastFrontUptoRow.holds Try.pinned (Rows.OpenSpec.upto Rows.pastFrontSpec) :=
  OpenClaim.holds_of_cond 12 Try.f12 rfl rfl rfl rfl rfl rfl rfl ⟨rfl, rfl, rfl, rfl, rfl⟩ rfl rfl rfl rfl rfl (by kernel_rfl) Try.func12 (by kernel_rfl)
    (of_decide_eq_true (by kernel_rfl)) (by unfold Func.isWrapper; first | (rw [if_pos (by decide +kernel)]; kernel_rfl) | (rw [if_neg (by decide +kernel)]; exact ⟨rfl, rfl⟩))
    (fun os started H enc _ F => lifted os started H enc F)
theorem proved : Rows.PastFrontUptoSaid := over
#print axioms proved

end Go.Proofs.Ytindfoknbfmmbaa.pastFront
