/- CutsOwn: whatever the tree and the sets are, the law answers true and leaves memory as it was. -/
import Derived.Test.YtiocgmioijcjhaaOwnEq
namespace Go.Proofs.Ytiocgmioijcjhaa.cutsOwn
open Go.ChangeShapes Go.WideShapes Go.ChangeAt Go.RowKit Go.Proofs.Ytiocgmioijcjhaa Go.Proofs.Ytiocgmioijcjhaa.Open
set_option linter.unusedVariables false
theorem blk_far {w w' : World} {g p N : Nat} {E : TypeId} (h : BlkOf w g E N) (hg : w.grownBy w' (some p)) (hne : g ≠ p) : BlkOf w' g E N := by
  obtain ⟨cur, h1, h2⟩ := h
  exact ⟨cur, (hg.block g (Array.getElem?_eq_some_iff.1 h1).1 (by simpa using hne)).trans h1, h2⟩
theorem quietDN {P : Program} {f : FuncId} {args : Array Value} {w : World} {n : Nat} {v : Value} (h : Calls P f args (w.drewN n) fun e w' => e = .returned v ∧ ∃ m, w' = (w.drewN n).drewN m) :
    Calls P f args (w.drewN n) fun e w'' => e = .returned v ∧ ∃ m, w'' = w.drewN m := h.mono fun _ _ h1 => ⟨h1.1, by obtain ⟨m, e⟩ := h1.2; exact ⟨n + m, e.trans (World.drewN_drewN _ _ _)⟩⟩
theorem u16_front {w : World} {B g : Nat} {E : TypeId} {l : List Nat} {ex : List Value} (h : w.ownsRow B E 1 (.slice (some ⟨g, 0, none⟩) (l.length + 2) (l.length + 3)) (l.length + 2) ((u16s l).map (.int .u16) ++ ex)) (hm : l.length ≤ 281474976710656) : IntsAt .u16 w (.slice (some ⟨g, 0, none⟩) l.length (l.length + 3)) (u16s l) := by
  by_cases h0 : l = []
  · subst h0; exact .inl ⟨rfl, .inr ⟨_, _, rfl⟩⟩
  · have e := u16s_len l
    refine .inr ⟨by rw [e]; exact List.length_pos_iff.2 h0, g, 0, _, by rw [e], by omega, by omega, fun i hi => ?_⟩
    rw [Nat.zero_add, h.cellAt i (by omega), List.getElem?_append_left (by simpa using hi), List.getElem?_map, List.getD_eq_getElem?_getD, List.getElem?_eq_getElem hi]; rfl
/-- what still holds while the inputs are spoilt, from gate k on -/
structure Aft (w : World) (M B C : Nat) (vi : Value) (gs : List GateV) (G : Nat → Nat) (k s ls : Nat) (c x a y d u : Value) (lc la : List Nat) (gd gu : List GateV) : Prop where
  O : w.ownsRow B TGate 3 vi gs.length (gs.flatMap gvLay)
  blk : ∀ i z, k ≤ i → gs[i]? = some z → BlkOf w (G i) TInt ((z.1.2.2.length + 3) * 1)
  sb : BlkOf w s TU ((ls + 3) * 1)
  c1 : IntsAt .u16 w c (u16s lc)
  x1 : IntsAt .u16 w x (u16s lc)
  a1 : IntsAt .u16 w a (u16s la)
  y1 : IntsAt .u16 w y (u16s la)
  d1 : OwnTree w M d gd
  u1 : OwnTree w M u gu
/-- the facts on where all that lies -/
structure Lay (M C : Nat) (vi : Value) (gs : List GateV) (G : Nat → Nat) (s : Nat) (c x a y : Value) : Prop where
  low : ∀ b, vi.ownBlock = some b → b < C
  gC : ∀ i z, gs[i]? = some z → C ≤ G i ∧ G i < s
  inj : ∀ i j, i < j → j < gs.length → G i < G j
  sM : C ≤ s ∧ s < M
  nc : NewV M c
  nx : NewV M x
  na : NewV M a
  ny : NewV M y
theorem Aft.off {w w' : World} {M B C k k' s ls p : Nat} {vi c x a y d u : Value} {gs gd gu : List GateV} {G : Nat → Nat} {lc la : List Nat} (L : Lay M C vi gs G s c x a y) (h : Aft w M B C vi gs G k s ls c x a y d u lc la gd gu) (hg : w.grownBy w' (some p)) (hC : C ≤ p) (hp : p < s) (hk : ∀ i z, k' ≤ i → gs[i]? = some z → k ≤ i ∧ G i ≠ p) : Aft w' M B C vi gs G k' s ls c x a y d u lc la gd gu := by
  have hM := L.sM.2
  exact ⟨own_far h.O hg (fun e => by have := L.low p e; omega), fun i z hi hz => blk_far (h.blk i z (hk i z hi hz).1 hz) hg (hk i z hi hz).2, blk_far h.sb hg (by omega), ints_low h.c1 L.nc hg (by omega), ints_low h.x1 L.nx hg (by omega), ints_low h.a1 L.na hg (by omega), ints_low h.y1 L.ny hg (by omega), h.d1.low hg (by omega), h.u1.low hg (by omega)⟩
def AmpRel (ts : List GateR) (w3 : World) (B C : Nat) (v : Value) (i : Value) (wr : World) : Prop :=
  ∃ (k : Nat) (gs : List GateV) (G : Nat → Nat), k ≤ ts.length ∧ i = .int .i64 k ∧ gs.map (·.1) = ts ∧ AmpTree wr B C v gs G k ∧ Below B w3 wr
set_option maxHeartbeats 32000000 in
set_option maxRecDepth 100000 in
theorem way (ts : List GateR) (l : List Nat) (v u : Value) (w : World) (hv : GatesAt w v ts) (hu : IntsAt .u16 w u (u16s l)) (h5 : ∀ s ∈ l, s < 65536) (hm : ts.length * 40 ≤ 140737488351232) (hof : ∀ g ∈ ts, g.2.2.length * 8 ≤ 140737488351232) (hl : l.length * 2 ≤ 140737488351232) :
    Calls Try.prog 6 #[v, u] w fun e w' => e = .returned (.bool true) ∧ Below w.heap.size w w' := by
  obtain ⟨a, cap, rfl⟩ := hv.len
  obtain ⟨a2, cap2, hu2⟩ := hu.len
  rw [u16s_len] at hu2
  subst hu2
  have HV := Lib.hid hv; have HU := Lib.hid hu; have H5 := Lib.hid h5; have HOF := Lib.hid hof
  clear hv hu h5 hof
  have J1 : Hid (OwnU (w.alloc (.cells #[.int .u16 2] 23)) w.heap.size (.slice (some ⟨w.heap.size, 0, none⟩) 1 1) [2]) := Lib.hid (own_lit w 2)
  have B1 : Hid (Below w.heap.size w (w.alloc (.cells #[.int .u16 2] 23))) := Lib.hid ((Below.refl _ _).alloc (Nat.le_refl _) _)
  go_enter Try.func6, Try.ntmps6
  go_wp2_with fail
  refine (across_yes [2] _ _ J1.out.ints (by decide) (by decide)).mono ?_
  rintro e w2 ⟨⟨v2, rfl, ho2⟩, hb2⟩
  rw [across_one] at ho2
  obtain ⟨a3, c3, hv3⟩ := ho2.ints.len
  subst hv3
  have I2 := Lib.hid ho2.ints
  have B2 := Lib.hid (B1.out.trans (hb2.mono B1.out.size))
  clear hb2 ho2 J1 B1
  go_wp2_with fail
  have HA2 : Below w2.heap.size w2 (w2.alloc (.cells #[.int .u16 2] 23)) := (Below.refl _ _).alloc (Nat.le_refl _) _
  have J2 : Hid (IntsAt .u16 (w2.alloc (.cells #[.int .u16 2] 23)) (.slice (some ⟨w2.heap.size, 0, none⟩) 1 1) (u16s [2])) := Lib.hid (own_lit w2 2).ints
  have I3 := Lib.hid (I2.out.later HA2 (Nat.le_refl _))
  refine (equal_u16 (u16s [2]) (u16s [2]) _ _ _ I3.out J2.out (by decide) (by decide)).mono ?_
  rintro e w3 ⟨m3, rfl, rfl⟩
  have B3 : Hid (Below w.heap.size w ((w2.alloc (.cells #[.int .u16 2] 23)).drewN m3)) := Lib.hid (below_drewN (B2.out.trans (HA2.mono B2.out.size)) m3)
  rw [show decide (u16s [2] = u16s [2]) = true from decide_eq_true rfl]
  clear HA2 J2 I3 I2 B2
  generalize ((w2.alloc (.cells #[.int .u16 2] 23)).drewN m3) = w3 at *
  obtain ⟨gs0, hgs0, hin0, hsrc0⟩ := gates_src (HV.out.later B3.out)
  have HG0 := Lib.hid hgs0; have HI0 := Lib.hid hin0; have HS0 := Lib.hid hsrc0
  have hgl0 : gs0.length = ts.length := by rw [← hgs0, List.length_map]
  clear hgs0 hin0 hsrc0
  go_wp2_with fail
  refine (clone_gate ts.length (gs0.flatMap gvLay) _ _ HS0.out (gv_one gs0 (fun x hx => by obtain ⟨a, c, h⟩ := (HI0.out x hx).len; exact ⟨a, _, c, h⟩)) hm).mono ?_
  rintro e w4 ⟨v4, rfl, ho4, hb4⟩
  obtain ⟨a4, m4, c4, hv4⟩ := own_gen_slice ho4
  have hm4 : m4 = ts.length := by
    subst hv4
    rcases ho4.2 with ⟨h1, h2⟩ | ⟨g', cap', cur, h1, -⟩
    · cases h1; exact h2.symm
    · cases h1; rfl
  subst hm4
  subst hv4
  have T4 : Hid (AmpTree w4 w3.heap.size w4.heap.size (.slice a4 ts.length c4) gs0 (fun _ => 0) 0) := Lib.hid ⟨by rw [hgl0]; exact ho4, fun b hb => (ho4.lt b hb).2, fun i x hi => absurd hi (Nat.not_lt_zero _), fun i x _ hx => (HI0.out x (List.mem_of_getElem? hx)).later hb4 (Nat.le_refl _), fun i j _ hj => absurd hj (Nat.not_lt_zero _)⟩
  have B4 := Lib.hid hb4
  clear ho4 hb4 HS0 HI0
  have z3 := B3.out.size
  have z4 := B4.out.size
  go_wp2_with fail
  go_loopw [39] (fun i wr => AmpRel ts w4 w3.heap.size w4.heap.size (.slice a4 ts.length c4) i wr) (fun i _ => ts.length - (intOf i).toNat)
  case atStart => exact ⟨0, gs0, fun _ => 0, Nat.zero_le _, rfl, HG0.out, T4.out, Below.refl _ _⟩
  case round =>
    clear T4 HG0
    obtain ⟨k, gs, G, hk, rfl, hgs, hT, hB⟩ := hrel
    have HGS := Lib.hid hgs; have HB := Lib.hid hB
    have hgl : gs.length = ts.length := by rw [← hgs, List.length_map]
    have zB := hB.size
    by_cases hlt : k < ts.length
    · obtain ⟨x, hx⟩ : ∃ x, gs[k]? = some x := ⟨_, List.getElem?_eq_getElem (by omega)⟩
      have hxt : x.1 ∈ ts := by rw [← hgs]; exact List.mem_map_of_mem (List.mem_of_getElem? hx)
      have hxl := HOF.out x.1 hxt
      obtain ⟨b, hb4⟩ : ∃ b, a4 = some ⟨b, 0, none⟩ := by
        rcases hT.O.2 with ⟨h1, h2⟩ | ⟨b, cap', cur, h1, -⟩
        · omega
        · simp only [Value.slice.injEq] at h1
          exact ⟨b, h1.1⟩
      subst hb4
      have hT2 : AmpTree wr w3.heap.size w4.heap.size (.slice (some ⟨b, 0, none⟩) gs.length c4) gs G k := by rw [hgl]; exact hT
      have HT := Lib.hid hT2
      obtain ⟨p1, p2, p3⟩ := hT2.cellOf rfl hx
      have hri := hT2.rest k x (Nat.le_refl _) hx
      obtain ⟨ax, cx, hxe⟩ := hri.len
      obtain ⟨g0, s0⟩ := x
      simp only at hxe hxl hri p1
      subst hxe
      have SRC := Lib.hid (src_ints hri)
      have HX := Lib.hid hx
      have e5 : (k : Int) < (ts.length : Int) := by omega
      have e6 : k + 1 ≤ c4 := by
        rcases hT.O.2 with ⟨h1, h2⟩ | ⟨b, cap', cur, h1, h2, h3, h4, -⟩
        · omega
        · simp only [Value.slice.injEq] at h1
          omega
      clear hgs hT hB hT2 hri hx hxt
      go_wp2_with fail
      refine (ample_i64 g0.2.2.length (g0.2.2.map (.int .i64)) _ 77 _ SRC.out (by intro u hu; obtain ⟨y, -, rfl⟩ := List.mem_map.1 hu; rfl) (by omega)).mono ?_
      rintro e w5 ⟨g, rfl, hown, hb5⟩
      have HO5 := Lib.hid hown; have HB5 := Lib.hid hb5
      have p1' : w5.cell? ⟨b, k * 3 + 2, none⟩ = some (.slice ax g0.2.2.length cx) := (hb5.cell (p := ⟨b, k * 3 + 2, none⟩) p3).trans p1
      have p2' : w5.frozen? ⟨b, k * 3 + 2, none⟩ = false := (hb5.frozen (p := ⟨b, k * 3 + 2, none⟩) p3).trans p2
      have p3' : b < w5.heap.size := Nat.lt_of_lt_of_le p3 hb5.size
      have hbB := (HT.out.O.lt b rfl).1
      clear hown hb5 p1 p2 p3
      go_wp2
      go_roundw
      case rel =>
        refine ⟨k + 1, gs.set k (g0, .slice (some ⟨g, 0, none⟩) g0.2.2.length (g0.2.2.length + 3)), fun i => if i = k then g else G i, by omega, by go_num, ?_, ?_, ?_⟩
        · rw [List.map_set, ← HGS.out]
          have h1 : (gs.map (·.1))[k]? = some g0 := by rw [List.getElem?_map, HX.out]; rfl
          apply List.ext_getElem?
          intro i
          rw [List.getElem?_set]
          by_cases e : k = i
          · subst e; rw [if_pos rfl, if_pos (by rw [List.length_map]; omega), h1]
          · rw [if_neg e]
        · have h1 := HT.out.step HX.out HB5.out zB HO5.out
          rw [hgl] at h1
          exact h1
        · exact (HB.out.trans (HB5.out.mono (by omega))).setCell (p := ⟨b, k * 3 + 2, none⟩) hbB _
      case measure => simp [intOf]; omega
    · obtain rfl : k = ts.length := by omega
      have HT := Lib.hid hT
      have B5 : Hid (Below w.heap.size w wr) := Lib.hid ((B3.out.trans (B4.out.mono z3)).trans (hB.mono z3))
      have hTg := hT.gates (fun x hx => by have := HOF.out x.1 (by rw [← hgs]; exact List.mem_map_of_mem hx); omega) (by omega)
      rw [hgs] at hTg
      have HGA := Lib.hid hTg
      have nl := u16s_len l
      have SRC := Lib.hid (src_ints (HU.out.later B5.out (Nat.le_refl _)))
      clear hgs hT hB hTg
      go_wp2_with fail
      refine (ample_u16 (u16s l).length ((u16s l).map (.int .u16)) _ 77 _ SRC.out (by intro u hu; obtain ⟨y, -, rfl⟩ := List.mem_map.1 hu; rfl) (by omega)).mono ?_
      rintro e w6 ⟨s, rfl, hown, hb6⟩
      rw [nl] at hown ⊢
      have hsl := hown.lt s rfl
      have HGC : Hid (∀ i z, gs[i]? = some z → w4.heap.size ≤ G i ∧ G i < s) := Lib.hid (fun i z hz => by
        have h1 := HT.out.amp i z (by have := (List.getElem?_eq_some_iff.1 hz).1; omega) hz
        exact ⟨h1.1, Nat.lt_of_lt_of_le h1.lt hsl.1⟩)
      have HXV : Hid (∀ (i : Nat) (z : GateV), gs[i]? = some z → z.2 = Value.slice (some ⟨G i, 0, none⟩) z.1.2.2.length (z.1.2.2.length + 3)) := Lib.hid (fun i z hz => (HT.out.amp i z (by have := (List.getElem?_eq_some_iff.1 hz).1; omega) hz).2.1)
      have HS6 := Lib.hid hown
      have HT6 := Lib.hid (HT.out.later hb6)
      have HG6 := Lib.hid (HGA.out.later hb6)
      have B6 := Lib.hid (B5.out.trans (hb6.mono B5.out.size))
      have z56 := hb6.size
      clear hown hb6 HT HGA SRC
      go_wp2_with fail
      refine (dual_any ts _ _ HG6.out (by omega)).mono ?_
      rintro e w7 ⟨vd, gd, cd, rfl, hgd, hOd, hb7⟩
      obtain ⟨ad, ld, cd2, hvd⟩ := own_gen_slice hOd.O
      subst hvd
      have HD7 := Lib.hid hOd
      have HGD := Lib.hid hgd
      have HS7 := Lib.hid (own_later HS6.out hb7 (Nat.le_refl _))
      have HT7 := Lib.hid (HT6.out.later hb7)
      have HG7 := Lib.hid (HG6.out.later hb7)
      have B7 := Lib.hid (B6.out.trans (hb7.mono B6.out.size))
      have z67 := hb7.size
      clear hOd hgd hb7 HS6 HT6 HG6
      go_wp2_with fail
      refine (cuts_any ts _ _ HG7.out (by omega)).mono ?_
      rintro e w8 ⟨vc, lc, cc, rfl, hic, hnc, hlc, hb8⟩
      obtain ⟨ac, cc2, hvc⟩ := hic.len
      rw [u16s_len] at hvc
      subst hvc
      have HC8 := Lib.hid hic; have HNC := Lib.hid hnc
      have HD8 := Lib.hid (HD7.out.call hb8)
      have HS8 := Lib.hid (own_later HS7.out hb8 (Nat.le_refl _))
      have HT8 := Lib.hid (HT7.out.later hb8)
      have HG8 := Lib.hid (HG7.out.later hb8)
      have B8 := Lib.hid (B7.out.trans (hb8.mono B7.out.size))
      have z78 := hb8.size
      clear hic hnc hb8 HD7 HS7 HT7 HG7
      go_wp2_with fail
      refine (across_any l _ _ (u16_front HS8.out (by omega)) (by omega) H5.out).mono ?_
      rintro e w9 ⟨va, la, ca, rfl, hia, hna, hla, hb9⟩
      obtain ⟨aa, ca2, hva⟩ := hia.len
      rw [u16s_len] at hva
      subst hva
      have HA9 := Lib.hid hia; have HNA := Lib.hid hna
      have HC9 := Lib.hid (HC8.out.later hb9 (Nat.le_refl _))
      have HD9 := Lib.hid (HD8.out.call hb9)
      have HS9 := Lib.hid (own_later HS8.out hb9 (Nat.le_refl _))
      have HT9 := Lib.hid (HT8.out.later hb9)
      have HG9 := Lib.hid (HG8.out.later hb9)
      have B9 := Lib.hid (B8.out.trans (hb9.mono B8.out.size))
      have z89 := hb9.size
      clear hia hna hb9 HC8 HD8 HS8 HT8 HG8
      go_wp2_with fail
      refine (fails_any ts 3 _ _ HG9.out (by decide) (by omega)).mono ?_
      rintro e w10 ⟨⟨fb, fc, rfl⟩, hb10⟩
      have HA10 := Lib.hid (HA9.out.later hb10 (Nat.le_refl _))
      have HC10 := Lib.hid (HC9.out.later hb10 (Nat.le_refl _))
      have HD10 := Lib.hid (HD9.out.call hb10)
      have HS10 := Lib.hid (own_later HS9.out hb10 (Nat.le_refl _))
      have HT10 := Lib.hid (HT9.out.later hb10)
      have HG10 := Lib.hid (HG9.out.later hb10)
      have B10 := Lib.hid (B9.out.trans (hb10.mono B9.out.size))
      have z910 := hb10.size
      clear hb10 HA9 HC9 HD9 HS9 HT9 HG9
      have sp1 : w10.cell? ⟨s, (u16s l).length, none⟩ = some (.int .u16 77) := by
        rw [nl, HS10.out.cellAt _ (by omega), List.getElem?_append_right (by simp [nl])]; simp [nl]
      have sp2 : w10.cell? ⟨s, (u16s l).length + 1, none⟩ = some (.int .u16 77) := by
        rw [nl, HS10.out.cellAt _ (by omega), List.getElem?_append_right (by simp [nl])]; simp [nl]
      have ST := stays_u16 (u16s l) s (.slice a2 l.length cap2) 77 w10 (by rw [nl]; exact u16_front HS10.out (by omega)) (HU.out.later B10.out (Nat.le_refl _)) (by omega) sp1 sp2
      rw [nl] at ST
      clear sp1 sp2
      have HST := Lib.hid ST
      clear ST
      go_wp2_with fail
      refine HST.out.mono ?_
      rintro e w11 ⟨rfl, m11, rfl⟩
      have HA11 := Lib.hid (HA10.out.drewN m11)
      have HC11 := Lib.hid (HC10.out.drewN m11)
      have B11 : Hid (Below w.heap.size w (w10.drewN m11)) := Lib.hid (below_drewN B10.out m11)
      have BD : Hid (Below w10.heap.size w10 (w10.drewN m11)) := Lib.hid (below_drewN (Below.refl _ _) m11)
      have HD11 := Lib.hid (HD10.out.call BD.out)
      have HS11 := Lib.hid (own_later HS10.out BD.out (Nat.le_refl _))
      have HT11 := Lib.hid (HT10.out.later BD.out)
      have HG11 := Lib.hid (HG10.out.later BD.out)
      have z11 : (w10.drewN m11).heap.size = w10.heap.size := by simp
      generalize w10.drewN m11 = w11 at *
      clear HA10 HC10 HD10 HS10 HT10 HG10 BD HST
      go_wp2_with fail
      go_loopw [78] (fun i wx => (∃ k : Nat, k ≤ ts.length ∧ i = .int .i64 k) ∧ Below w11.heap.size w11 wx) (fun i _ => ts.length - (intOf i).toNat)
      case atStart => exact ⟨⟨0, Nat.zero_le _, rfl⟩, Below.refl _ _⟩
      case round =>
        obtain ⟨⟨k, hk, rfl⟩, hBx⟩ := hrel
        have HBX := Lib.hid hBx
        have zx := hBx.size
        by_cases hlt : k < ts.length
        · obtain ⟨x, hx⟩ : ∃ x, gs[k]? = some x := ⟨_, List.getElem?_eq_getElem (by omega)⟩
          have hxt : ts[k]? = some x.1 := by rw [← HGS.out, List.getElem?_map, hx]; rfl
          have hxl := HOF.out x.1 (List.mem_of_getElem? hxt)
          obtain ⟨b, hb4⟩ : ∃ b, a4 = some ⟨b, 0, none⟩ := by
            rcases HT11.out.O.2 with ⟨h1, h2⟩ | ⟨b, cap', cur, h1, -⟩
            · omega
            · simp only [Value.slice.injEq] at h1
              exact ⟨b, h1.1⟩
          subst hb4
          have hTx := HT11.out.later hBx
          obtain ⟨p1, p2, p3⟩ := hTx.cellOf hgl.symm hx
          have hR := hTx.amp k x hlt hx
          rw [hR.2.1] at p1
          obtain ⟨r1, r2⟩ := hR.spare
          have hF := hR.ints (by omega)
          rw [hR.2.1] at hF
          obtain ⟨bt, ot, ct, hvt, hlt1, c0, c1, ao, co, c2, hof2, -⟩ := (HV.out.later (B11.out.trans (hBx.mono B11.out.size))).at_ hxt
          simp only [Value.slice.injEq] at hvt
          obtain ⟨hva1, -, hva2⟩ := hvt
          subst hva1
          subst hva2
          have e5 : (k : Int) < (ts.length : Int) := by omega
          have e6 : k + 1 ≤ c4 := by
            rcases HT11.out.O.2 with ⟨h1, h2⟩ | ⟨b, cap', cur, h1, h2, h3, h4, -⟩
            · omega
            · simp only [Value.slice.injEq] at h1
              omega
          have e7 : k + 1 ≤ cap := by omega
          have HF := Lib.hid hF; have HO2 := Lib.hid hof2
          have HR1 := Lib.hid r1; have HR2 := Lib.hid r2
          clear hx hxt hTx hR hF hof2 r1 r2 hBx c0 c1
          go_wp2_with fail
          go_quiet ((go_at_call 25; exact quietDN (stays_i64 x.1.2.2 (G k) _ 77 _ HF.out HO2.out (by omega) HR1.out HR2.out)))
          go_wp2
          go_roundw
          case rel => exact ⟨⟨k + 1, by omega, by go_num⟩, below_drewN HBX.out _⟩
          case measure => simp [intOf]; omega
        · obtain rfl : k = ts.length := by omega
          have B12 := Lib.hid (B11.out.trans (hBx.mono B11.out.size))
          have HA12 := Lib.hid (HA11.out.later hBx (Nat.le_refl _))
          have HC12 := Lib.hid (HC11.out.later hBx (Nat.le_refl _))
          have HD12 := Lib.hid (HD11.out.call hBx)
          have HS12 := Lib.hid (own_later HS11.out hBx (Nat.le_refl _))
          have HT12 := Lib.hid (HT11.out.later hBx)
          have HG12 := Lib.hid (HG11.out.later hBx)
          have z1112 := hBx.size
          clear hBx HBX HA11 HC11 HD11 HS11 HT11 HG11
          go_wp2_with fail
          refine (dual_any ts _ _ HG12.out (by omega)).mono ?_
          rintro e w13 ⟨vu, gu, cu, rfl, hgu, hOu, hb13⟩
          obtain ⟨au, lu, cu2, hvu⟩ := own_gen_slice hOu.O
          subst hvu
          have HU13 := Lib.hid hOu
          have HGU := Lib.hid hgu
          have HA13 := Lib.hid (HA12.out.later hb13 (Nat.le_refl _))
          have HC13 := Lib.hid (HC12.out.later hb13 (Nat.le_refl _))
          have HD13 := Lib.hid (HD12.out.call hb13)
          have HS13 := Lib.hid (own_later HS12.out hb13 (Nat.le_refl _))
          have HT13 := Lib.hid (HT12.out.later hb13)
          have B13 := Lib.hid (B12.out.trans (hb13.mono B12.out.size))
          have z1213 := hb13.size
          clear hOu hgu hb13 HA12 HC12 HD12 HS12 HT12 HG12
          go_wp2_with fail
          refine (clone_u16 (u16s lc) _ _ HC13.out (by rw [u16s_len]; omega)).mono ?_
          rintro e w14 ⟨vx, rfl, hX, hb14⟩
          have hx1 := own_ints' hX
          obtain ⟨ax, cx, hxe⟩ := hx1.len
          rw [u16s_len] at hxe
          subst hxe
          have HX14 := Lib.hid hx1
          have HNX := Lib.hid (NewV.own hX (Nat.le_refl _))
          have HU14 := Lib.hid (HU13.out.call hb14)
          have HA14 := Lib.hid (HA13.out.later hb14 (Nat.le_refl _))
          have HC14 := Lib.hid (HC13.out.later hb14 (Nat.le_refl _))
          have HD14 := Lib.hid (HD13.out.call hb14)
          have HS14 := Lib.hid (own_later HS13.out hb14 (Nat.le_refl _))
          have HT14 := Lib.hid (HT13.out.later hb14)
          have B14 := Lib.hid (B13.out.trans (hb14.mono B13.out.size))
          have z1314 := hb14.size
          clear hX hx1 hb14 HU13 HA13 HC13 HD13 HS13 HT13
          go_wp2_with fail
          refine (clone_u16 (u16s la) _ _ HA14.out (by rw [u16s_len]; omega)).mono ?_
          rintro e w15 ⟨vy, rfl, hY, hb15⟩
          have hy1 := own_ints' hY
          obtain ⟨ay, cy, hye⟩ := hy1.len
          rw [u16s_len] at hye
          subst hye
          have hny := NewV.own hY (Nat.le_refl _)
          have hT15 := HT14.out.later hb15
          have hS15 := own_later HS14.out hb15 (Nat.le_refl _)
          have z1415 := hb15.size
          have B15 := Lib.hid (B14.out.trans (hb15.mono B14.out.size))
          have HL : Hid (Lay w6.heap.size w4.heap.size (.slice a4 ts.length c4) gs G s (.slice ac lc.length cc2) (.slice ax lc.length cx) (.slice aa la.length ca2) (.slice ay la.length cy)) := Lib.hid
            { low := hT15.low
              gC := HGC.out
              inj := fun i j hij hj => hT15.inj i j hij (by omega)
              sM := ⟨by omega, hsl.2⟩
              nc := fun b o n l c e => Nat.le_trans (by omega) (HNC.out b o n l c e)
              nx := fun b o n l c e => Nat.le_trans (by omega) (HNX.out b o n l c e)
              na := fun b o n l c e => Nat.le_trans (by omega) (HNA.out b o n l c e)
              ny := fun b o n l c e => Nat.le_trans (by omega) (hny b o n l c e) }
          have HAF : Hid (Aft w15 w6.heap.size w3.heap.size w4.heap.size (.slice a4 ts.length c4) gs G 0 s l.length (.slice ac lc.length cc2) (.slice ax lc.length cx) (.slice aa la.length ca2) (.slice ay la.length cy) (.slice ad ld cd2) (.slice au lu cu2) lc la gd gu) := Lib.hid
            { O := hT15.O
              blk := fun i z _ hz => (hT15.amp i z (by have := (List.getElem?_eq_some_iff.1 hz).1; omega) hz).blk
              sb := (own_blk hS15).1
              c1 := HC14.out.later hb15 (Nat.le_refl _)
              x1 := HX14.out.later hb15 (Nat.le_refl _)
              a1 := HA14.out.later hb15 (Nat.le_refl _)
              y1 := hy1
              d1 := HD14.out.call hb15
              u1 := by
                have h := HU14.out.call hb15
                exact ⟨own_monoA h.O (by omega), fun x hx => own_monoA (h.I x hx) (by omega)⟩ }
          clear hY hy1 hny hT15 hS15 hb15 HX14 HU14 HA14 HC14 HD14 HS14 HT14 HNC HNX HNA
          go_wp2_with fail
          go_loopw [105] (fun i wx => (∃ k : Nat, k ≤ ts.length ∧ i = .int .i64 k ∧ Aft wx w6.heap.size w3.heap.size w4.heap.size (.slice a4 ts.length c4) gs G k s l.length (.slice ac lc.length cc2) (.slice ax lc.length cx) (.slice aa la.length ca2) (.slice ay la.length cy) (.slice ad ld cd2) (.slice au lu cu2) lc la gd gu) ∧ Below w.heap.size w wx) (fun i _ => ts.length - (intOf i).toNat)
          case atStart => exact ⟨⟨0, Nat.zero_le _, rfl, HAF.out⟩, B15.out⟩
          case round =>
            clear HAF B15
            obtain ⟨⟨k, hk, rfl, hF⟩, hBx⟩ := hrel
            have HBX := Lib.hid hBx; have HF := Lib.hid hF
            have zx := hBx.size
            by_cases hlt : k < ts.length
            · obtain ⟨x, hx⟩ : ∃ x, gs[k]? = some x := ⟨_, List.getElem?_eq_getElem (by omega)⟩
              have hxt : x.1 ∈ ts := by rw [← HGS.out]; exact List.mem_map_of_mem (List.mem_of_getElem? hx)
              have hxl := HOF.out x.1 hxt
              obtain ⟨b, hb4⟩ : ∃ b, a4 = some ⟨b, 0, none⟩ := by
                rcases hF.O.2 with ⟨h1, h2⟩ | ⟨b, cap', cur, h1, -⟩
                · omega
                · simp only [Value.slice.injEq] at h1
                  exact ⟨b, h1.1⟩
              subst hb4
              have hO := hF.O
              rw [← hgl] at hO
              have e := flatMap_at gvLay_len hx (show 2 < 3 by decide)
              have p1 : wr.cell? ⟨b, k * 3 + 2, none⟩ = some x.2 := by rw [hO.cellAt (k * 3 + 2) (by omega), e]; rfl
              rw [HXV.out k x hx] at p1
              have p3 := (hO.lt b rfl).2
              have e5 : (k : Int) < (ts.length : Int) := by omega
              have e6 : k + 1 ≤ c4 := by
                rcases hF.O.2 with ⟨h1, h2⟩ | ⟨b, cap', cur, h1, h2, h3, h4, -⟩
                · omega
                · simp only [Value.slice.injEq] at h1
                  omega
              have HBK := Lib.hid (hF.blk k x (Nat.le_refl _) hx)
              have hgk := HL.out.gC k x hx
              clear hF hO e hx hxt hBx
              go_wp2_with fail
              refine (spoil_i64 (G k) x.1.2.2.length (x.1.2.2.length + 3) 5 _ HBK.out (by omega) (by omega)).mono ?_
              rintro e w16 ⟨rfl, hg⟩
              have HF2 := Lib.hid (HF.out.off (k' := k + 1) HL.out hg hgk.1 hgk.2 (fun i z hi hz => ⟨by omega, by have := HL.out.inj k i (by omega) (List.getElem?_eq_some_iff.1 hz).1; omega⟩))
              have B16 := Lib.hid (HBX.out.grown hg zx (fun j e => by cases e; omega))
              clear hg
              go_wp2
              go_roundw
              case rel => exact ⟨⟨k + 1, by omega, by go_num, HF2.out⟩, B16.out⟩
              case measure => simp [intOf]; omega
            · obtain rfl : k = ts.length := by omega
              have HSB := Lib.hid hF.sb
              clear hF hBx
              go_wp2_with fail
              refine (spoil_u16 s l.length (l.length + 3) 5 _ HSB.out (by omega) (by omega)).mono ?_
              rintro e w16 ⟨rfl, hg⟩
              have hsM := HL.out.sM
              have B16 := Lib.hid (HBX.out.grown hg zx (fun j e => by cases e; omega))
              have C16 := Lib.hid (ints_low HF.out.c1 HL.out.nc hg hsM.2)
              have X16 := Lib.hid (ints_low HF.out.x1 HL.out.nx hg hsM.2)
              have A16 := Lib.hid (ints_low HF.out.a1 HL.out.na hg hsM.2)
              have Y16 := Lib.hid (ints_low HF.out.y1 HL.out.ny hg hsM.2)
              have D16 := Lib.hid (ownO_gates (HF.out.d1.low hg hsM.2) HGD.out)
              have U16 := Lib.hid (ownO_gates (HF.out.u1.low hg hsM.2) HGU.out)
              have hdl := (dualO_bd (ts := ts)).1
              clear hg HF
              obtain ⟨D, hD⟩ : ∃ D, dualO ts = D := ⟨_, rfl⟩
              rw [hD] at D16 U16 hdl
              obtain ⟨ad1, cd1, hvd1⟩ := D16.out.len
              obtain ⟨au1, cu1, hvu1⟩ := U16.out.len
              rw [hvd1] at D16
              rw [hvu1] at U16
              rw [hvd1, hvu1]
              clear hD hvd1 hvu1
              go_wp2_with fail
              refine (equal_u16 (u16s lc) (u16s lc) _ _ _ C16.out X16.out (by rw [u16s_len]; omega) (by rw [u16s_len]; omega)).mono ?_
              rintro e w17 ⟨m17, rfl, rfl⟩
              rw [show decide (u16s lc = u16s lc) = true from decide_eq_true rfl]
              have B17 : Hid (Below w.heap.size w (w16.drewN m17)) := Lib.hid (below_drewN B16.out m17)
              have A17 := Lib.hid (A16.out.drewN m17)
              have Y17 := Lib.hid (Y16.out.drewN m17)
              have BD : Hid (Below w16.heap.size w16 (w16.drewN m17)) := Lib.hid (below_drewN (Below.refl _ _) m17)
              have D17 := Lib.hid (D16.out.later BD.out)
              have U17 := Lib.hid (U16.out.later BD.out)
              generalize w16.drewN m17 = w17 at *
              clear BD D16 U16 A16 Y16 C16 X16
              go_wp2_with fail
              refine (equal_u16 (u16s la) (u16s la) _ _ _ A17.out Y17.out (by rw [u16s_len]; omega) (by rw [u16s_len]; omega)).mono ?_
              rintro e w18 ⟨m18, rfl, rfl⟩
              rw [show decide (u16s la = u16s la) = true from decide_eq_true rfl]
              have B18 : Hid (Below w.heap.size w (w17.drewN m18)) := Lib.hid (below_drewN B17.out m18)
              have BD : Hid (Below w17.heap.size w17 (w17.drewN m18)) := Lib.hid (below_drewN (Below.refl _ _) m18)
              have D18 := Lib.hid (D17.out.later BD.out)
              have U18 := Lib.hid (U17.out.later BD.out)
              generalize w17.drewN m18 = w18 at *
              clear BD D17 U17 A17 Y17
              go_wp2_with fail
              refine (eqOwn_is D _ _ _ D18.out U18.out (by omega)).mono ?_
              rintro e w19 ⟨rfl, hb19⟩
              have B19 := Lib.hid (B18.out.trans (hb19.mono B18.out.size))
              go_wp2
              go_ret
              exact ⟨rfl, B19.out⟩
theorem law (a : Option Addr) (len cap : Nat) (xs : List RawG) (a2 : Option Addr) (len2 cap2 : Nat) (zs : List Int) (w : World)
    (h : IsRecs 3 rawLay (gateFitQ w) w a len cap xs) (hr : len ≤ cap ∧ cap * 40 ≤ 140737488351232) (h2 : IsRow .u16 w a2 len2 cap2 zs) (hr2 : len2 ≤ cap2 ∧ cap2 * 2 ≤ 140737488351232) :
    Calls Try.prog 6 #[.slice a len cap, .slice a2 len2 cap2] w fun e w' => e = .returned (.bool true) ∧ Below w.heap.size w w' := by
  obtain ⟨h1, h3, h4⟩ := raw_treesQ h
  obtain ⟨l, h5, h6, h7⟩ := isRow_nats h2
  subst h6
  exact way ((xs.take len).map rawG) l _ _ w h1 h5 h7 (by omega) h4 (by omega)
set_option maxRecDepth 100000 in
theorem lifted (os : Os) (started : os.Started) (H : Type) (enc : TypeId × Value → H) :
    ReturnsInHanded {} Try.checked os 6 .any (Rows.cutsOwnSpec.pre6 enc Try.prog Try.f6 Rows.cutsOwnRow.domain false) (Rows.cutsOwnSpec.post enc Try.prog Try.f6 false true false false) := by
  refine returnsInHanded_of_change_sized (C := Try.checked) own started (by kernel_rfl) Try.func6
    (ChangeSpec.witness6 (enc := enc) (C := Try.checked) false ⟨#[], #[.slice none 0 0, .slice none 0 0], []⟩ 8 (by kernel_rfl) (by kernel_rfl) (by kernel_rfl) (by kernel_rfl)) ?_
  intro W base args ds gs before hval0 hW hcnd hsz0 _
  have hsz : (DataW.weightsEach Try.prog (Try.f6.params.toList ++ Rows.cutsOwnSpec.plain.varTypes Try.prog) (ds ++ gs)).all (· ≤ reachBytes) = true := hsz0
  have hval : ∀ (j : Nat) t v, Try.f6.params[j]? = some t → args[j]? = some v → Value.okWide Try.prog W .any base t v := hval0
  have hW' := hW
  obtain ⟨p, q, hA0, hV, rfl, hfz, hnd⟩ := hW
  have hA : DataW.TrodAll enc Try.prog W 0 (fun _ => true) true Try.f6.params.toList args.toList ds p := hA0
  rw [Try.params6] at hA hval hsz
  obtain ⟨v0, vs0, d0, ds0, p0, q0, hargs, rfl, rfl, h0, r0⟩ := trodAll_cons hA
  obtain ⟨v1, vs1, d1, ds1, p1, q1, rfl, rfl, rfl, h1, r1⟩ := trodAll_cons r0
  obtain ⟨rfl, rfl, rfl⟩ := trodAll_nil r1
  obtain rfl : args = #[v0, v1] := by cases args; simp_all
  obtain ⟨rfl, rfl⟩ := trodVars_none hV
  have k0 := h0
  have lt0 : ∀ x ∈ p0, x.block < W.heap.size := by obtain ⟨m, hm⟩ := k0; exact DataW.trod_lt m _ _ _ hm
  have k1 := h1
  have lt1 : ∀ x ∈ p1, x.block < W.heap.size := by obtain ⟨m, hm⟩ := k1; exact DataW.trod_lt m _ _ _ hm
  obtain ⟨sa0, sl0, sc0, rfl⟩ := okWide_slice Try.underlying22 (hval 0 22 v0 rfl rfl)
  obtain ⟨a0, len0, cap0, z0, e0, w0⟩ := leaf_recsS (ts := [3, 3, 28]) 3 rawLay (gateFitQ W) 12 (Try.underlying22) (by kernel_rfl) (by kernel_rfl) rfl gate_decQ (by obtain ⟨fuel, hf⟩ := h0; exact ⟨fuel, _, by simpa [Value.cells] using hf, weights_of hsz (j := 0) (t := 22) rfl rfl⟩)
  simp only [Value.slice.injEq] at e0
  obtain ⟨rfl, rfl, rfl⟩ := e0
  have R0 := cap_le (B := 40) Try.underlying22 k0 (fun elems spare hd => by have := sized_slice hsz (j := 0) (t := 22) (e := 30) (elems := elems) (spare := spare) rfl (by rw [← hd]; rfl) Try.underlying22; exact this)
  obtain ⟨sa1, sl1, sc1, rfl⟩ := okWide_slice Try.underlying37 (hval 1 37 v1 rfl rfl)
  obtain ⟨a1, len1, cap1, z1, e1, w1⟩ := leaf_ints (Try.underlying37) (Try.underlying23) (by kernel_rfl) (by obtain ⟨fuel, hf⟩ := h1; exact ⟨fuel, _, by simpa [Value.cells] using hf⟩)
  simp only [Value.slice.injEq] at e1
  obtain ⟨rfl, rfl, rfl⟩ := e1
  have R1 := cap_le (B := 2) Try.underlying37 k1 (fun elems spare hd => by have := sized_slice hsz (j := 1) (t := 37) (e := 23) (elems := elems) (spare := spare) rfl (by rw [← hd]; rfl) Try.underlying37; exact this)
  clear hA0 hval0
  refine (law sa0 sl0 sc0 z0 sa1 sl1 sc1 z1 W w0 R0 w1 R1).mono fun e W' ⟨he, bel⟩ => ?_
  subst he
  exact ⟨_, rfl, _, _, _, [], _, [], hW', trodAll_mk1 (shut_bool Try.underlying4 _), (trodAll_cons_mk (Below.trod laidOut (by kernel_rfl) (of_decide_eq_true (by kernel_rfl)) k0 bel lt0) (trodAll_cons_mk (Below.trod laidOut (by kernel_rfl) (of_decide_eq_true (by kernel_rfl)) k1 bel lt1) trodAll_mk0)), rfl, bel.frame _, fun h => by cases h⟩
theorem over : Rows.cutsOwnRow.holds Try.pinned (OpenSpec.ofChange Rows.cutsOwnSpec) :=
  OpenClaim.holds_of_wide 6 Try.f6 rfl rfl rfl rfl rfl rfl rfl ⟨rfl, rfl, rfl, rfl, rfl⟩ rfl rfl rfl rfl rfl (by kernel_rfl) Try.func6 (by kernel_rfl)
    (of_decide_eq_true (by kernel_rfl)) (by unfold Func.isWrapper; first | (rw [if_pos (by decide +kernel)]; kernel_rfl) | (rw [if_neg (by decide +kernel)]; exact ⟨rfl, rfl⟩))
    (fun os started H enc _ => lifted os started H enc)
theorem proved : Rows.CutsOwnSaid := over
#print axioms proved

end Go.Proofs.Ytiocgmioijcjhaa.cutsOwn
