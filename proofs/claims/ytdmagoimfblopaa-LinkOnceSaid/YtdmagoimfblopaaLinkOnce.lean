/- LinkOnce: whatever the sequence numbers are, the law answers true and leaves memory as it was. -/
import Derived.Test.YtdmagoimfblopaaLinkHeard
namespace Go.Proofs.Ytdmagoimfblopaa.linkOnce
open Go.ChangeShapes Go.WideShapes Go.ChangeAt Go.RowKit Go.Proofs.Ytdmagoimfblopaa Go.Proofs.Ytdmagoimfblopaa.Open
set_option linter.unusedVariables false
def OnceRel (w : World) (b n : Nat) (i : Value) (wr : World) : Prop := ∃ (j : Nat) (q d : Int) (ws : List Int) (a : Option Addr) (cap : Nat), j ≤ n ∧ i = .int .i64 j ∧ LinkAt wr b 1 0 q (.slice a ws.length cap) true 0 d ∧ IntsAt .i32 wr (.slice a ws.length cap) ws ∧
  ws.length ≤ 8 ∧ (0 ≤ d ∧ d ≤ 10000) ∧ (0 ≤ q ∧ q ≤ 255) ∧ Below w.heap.size w wr
theorem chk_okk (q d : Int) (n : Nat) (hd : 0 ≤ d ∧ d ≤ 10000) (hn : n ≤ 8) : linkChk 1 0 q n true 0 d = 0 := by
  unfold linkChk
  rw [if_neg (by omega), if_pos rfl]
  unfold frameChk
  rw [if_neg (by omega), if_neg (by omega)]
theorem new_self (q : Int) : newB q q = false := by
  unfold newB
  exact decide_eq_false (by omega)
set_option maxHeartbeats 4000000 in
set_option maxRecDepth 100000 in
theorem law' (v : Value) (xs : List Int) (w : World) (hv : IntsAt .u8 w v xs) (hx : xs.length ≤ 9223372036854775807) (hxs : ∀ x ∈ xs, 0 ≤ x ∧ x ≤ 255) :
    Calls Try.prog 7 #[v] w fun e w' => e = .returned (.bool true) ∧ Below w.heap.size w w' := by
  have HV := Lib.hid hv; have HXS := Lib.hid hxs
  clear hv hxs
  obtain ⟨av, cv, rfl⟩ := HV.out.len
  go_enter Try.func7, Try.ntmps7
  go_wp2_with fail
  refine (heard_any _).mono ?_
  rintro e1 w1 ⟨a1, cap1, rfl, hown1, hb1⟩
  have HI := Lib.hid (own_ints' (xs := [7]) hown1)
  have L0 := link_lit w1 1 0 5 (.slice a1 1 cap1) true 0 0 44
  have HL0 := Lib.hid L0
  have z1 := hb1.size
  have HB1 := Lib.hid hb1
  clear hown1 hb1 L0
  go_wp2
  go_loopw [23] (fun i wr => OnceRel w w1.heap.size xs.length i wr) (fun i _ => xs.length - (intOf i).toNat)
  case atStart => exact ⟨0, 5, 0, [7], a1, cap1, by omega, rfl, HL0.out, HI.out.later ((Below.refl w1.heap.size w1).alloc (Nat.le_refl _) _) (Nat.le_refl _), by decide, by decide, by decide, HB1.out.alloc z1 _⟩
  case round =>
    obtain ⟨j, q, d, ws, a, cap, hj, rfl, hL, hI, hn8, hd, hq, hB⟩ := hrel
    have HL := Lib.hid hL; have HJ := Lib.hid hI; have HB := Lib.hid hB
    have zz := hL.lt
    obtain ⟨c0, c1, c2, c3, c4, c5, c6, cf⟩ := hL
    clear hI hB
    by_cases hlt : j < xs.length
    · rcases HV.out with ⟨h0, -⟩ | ⟨-, b, off, cp, he, hl1, hm1, hc⟩
      · rw [h0] at hlt; simp at hlt
      simp only [Value.slice.injEq, true_and] at he
      obtain ⟨rfl, rfl⟩ := he
      have x1 := cell_later HB.out (hc j hlt)
      have hxb := HXS.out (xs.getD j 0) (by rw [List.getD_eq_getElem?_getD, List.getElem?_eq_getElem hlt]; exact List.getElem_mem hlt)
      obtain ⟨x, hxe⟩ : ∃ x, xs.getD j 0 = x := ⟨_, rfl⟩
      rw [hxe] at x1 hxb
      have d1 : (j : Int) < (xs.length : Int) := by omega
      obtain ⟨hok, hfr⟩ := pack_frame 1 0 x [] (by decide) (by decide) hxb (by decide) (fun y hy => by cases hy)
      obtain ⟨t, ht⟩ : ∃ t, packS 1 0 x [] = t := ⟨_, rfl⟩
      have hts : t.size = 5 := by rw [← ht]; exact pack_size _ _ _ _
      rw [ht] at hok hfr
      have HT := Lib.hid ht; have HOK := Lib.hid hok; have HF := Lib.hid hfr
      have HCK := Lib.hid (chk_okk q d ws.length hd hn8)
      obtain ⟨d', hd'⟩ : ∃ d', min 10000 (d + 1) = d' := ⟨_, rfl⟩
      have hdb : 0 ≤ d' ∧ d' ≤ 10000 := by omega
      have HD := Lib.hid hd'
      clear hc hxe ht hok hfr hd'
      go_wp2_with fail
      refine (pack_yes 1 0 x _ [] _ (.inl ⟨rfl, .inl rfl⟩) (by decide) (by decide) hxb (by decide) (fun y hy => by cases hy)).mono ?_
      rw [HT.out]
      rintro e2 w2 ⟨rfl, hb2⟩
      have L2 := HL.out.later hb2 HL.out.lt
      have HL2 := Lib.hid L2
      have HB2 := Lib.hid (HB.out.trans (hb2.mono HB.out.size))
      have HJ2 := Lib.hid (HJ.out.later hb2 (Nat.le_refl _))
      clear c0 c1 c2 c3 c4 c5 c6 cf zz hb2 x1
      have zz := L2.lt
      obtain ⟨c0, c1, c2, c3, c4, c5, c6, cf⟩ := L2
      by_cases hnew : newB x q = true
      · have HN := Lib.hid hnew
        clear hnew
        go_wp2_with fail
        refine (linkHear_ok 1 0 q _ ws true 0 d t _ HJ2.out (by omega) ⟨by decide, by decide⟩ ⟨by decide, by decide⟩ HCK.out HOK.out 1 0 x [] HF.out (.inr (.inr ⟨rfl, by omega, HN.out⟩))).mono ?_
        rintro e3 w3 ⟨v3, rfl, hown3, hb3⟩
        obtain ⟨a3, cap3, rfl⟩ := (own_ints' (xs := []) hown3).len
        have HI3 := Lib.hid (own_ints' (xs := []) hown3)
        have L3 := HL2.out.later hb3 HL2.out.lt
        have HL3 := Lib.hid L3
        have HB3 := Lib.hid (HB2.out.trans (hb3.mono HB2.out.size))
        clear c0 c1 c2 c3 c4 c5 c6 cf zz hb3 hown3
        have zz := L3.lt
        obtain ⟨c0, c1, c2, c3, c4, c5, c6, cf⟩ := L3
        go_wp2_with fail
        refine (frameNewer_any _ _ _).mono ?_
        rw [HN.out]
        rintro e4 w4 ⟨rfl, rfl⟩
        have HCK2 := Lib.hid (chk_okk x d 0 hd (by omega))
        have HNS := Lib.hid (new_self x)
        go_wp2_with fail
        refine (linkHear_bad 1 0 x _ [] true 0 d d' 6 t _ (by exact HI3.out.later ((Below.refl w3.heap.size w3).alloc (Nat.le_refl _) _) (Nat.le_refl _)) (by decide) ⟨by decide, by decide⟩ ⟨by decide, by decide⟩ (by omega) HCK2.out HD.out 1 0 x [] HF.out (.inr ⟨HOK.out, rfl, by omega, HNS.out, rfl⟩)).mono ?_
        rintro e5 w5 ⟨v5, rfl, hown5, hb5⟩
        obtain ⟨a5, cap5, rfl⟩ := (own_ints' (xs := []) hown5).len
        have hz5 := hb5.size
        simp at hz5
        have L5 := (HL3.out.later ((Below.refl w3.heap.size w3).alloc (Nat.le_refl _) (.cells #[.int .i64 1, .int .i64 0, .int .u8 x, .slice a3 0 cap3, .bool true, .int .i64 0, .int .i64 d] 44)) HL3.out.lt).later hb5 (by have := HL3.out.lt; simp; omega)
        have LX := (link_lit w3 1 0 x (.slice a3 0 cap3) true 0 d 44).later hb5 (by simp)
        have HL5 := Lib.hid L5
        have HB5 := Lib.hid ((HB3.out.alloc HB3.out.size (.cells #[.int .i64 1, .int .i64 0, .int .u8 x, .slice a3 0 cap3, .bool true, .int .i64 0, .int .i64 d] 44)).trans (hb5.mono (by have := HB3.out.size; simp; omega)))
        have HI5 := Lib.hid ((HI3.out.later ((Below.refl w3.heap.size w3).alloc (Nat.le_refl _) (.cells #[.int .i64 1, .int .i64 0, .int .u8 x, .slice a3 0 cap3, .bool true, .int .i64 0, .int .i64 d] 44)) (Nat.le_refl _)).later hb5 (Nat.le_refl _))
        clear c0 c1 c2 c3 c4 c5 c6 cf zz hb5 hown5
        have zz := L5.lt
        have zy := LX.lt
        obtain ⟨c0, c1, c2, c3, c4, c5, c6, cf⟩ := L5
        obtain ⟨g0, g1, g2, g3, g4, g5, g6, gf⟩ := LX
        go_wp2
        refine ⟨⟨j + 1, x, d, [], a3, cap3, by omega, by go_num, LinkAt.later (link_write HL5.out 1 0 x (.slice a3 0 cap3) true 0 d) ((Below.refl _ _).alloc (Nat.le_refl _) _) (LinkAt.lt (link_write HL5.out 1 0 x (.slice a3 0 cap3) true 0 d)), ints_nil HI5.out, by decide, hd, hxb, ?_⟩, by simp [intOf]; omega⟩
        have hb9 := wrLink_below HB5.out (show w.heap.size ≤ w1.heap.size by omega) 1 0 x (.slice a3 0 cap3) true 0 d
        exact hb9.alloc hb9.size _
      · have HN : Hid (newB x q = false) := (by simpa using hnew : newB x q = false)
        clear hnew
        go_wp2_with fail
        refine (linkHear_bad 1 0 q _ ws true 0 d d' 6 t _ HJ2.out (by omega) ⟨by decide, by decide⟩ ⟨by decide, by decide⟩ (by omega) HCK.out HD.out 1 0 x [] HF.out (.inr ⟨HOK.out, rfl, by omega, HN.out, rfl⟩)).mono ?_
        rintro e3 w3 ⟨v3, rfl, hown3, hb3⟩
        obtain ⟨a3, cap3, rfl⟩ := (own_ints' hown3).len
        have HO3 := Lib.hid hown3
        have HI3 := Lib.hid (own_ints' hown3)
        have L3 := HL2.out.later hb3 HL2.out.lt
        have HL3 := Lib.hid L3
        have HB3 := Lib.hid (HB2.out.trans (hb3.mono HB2.out.size))
        have zl2 : w1.heap.size < w2.heap.size := HL2.out.lt
        clear c0 c1 c2 c3 c4 c5 c6 cf zz hb3 hown3
        have zz := L3.lt
        obtain ⟨c0, c1, c2, c3, c4, c5, c6, cf⟩ := L3
        go_wp2_with fail
        refine (frameNewer_any _ _ _).mono ?_
        rw [HN.out]
        rintro e4 w4 ⟨rfl, rfl⟩
        have HCK2 := Lib.hid (chk_okk q d' ws.length hdb hn8)
        obtain ⟨d2, hd2⟩ : ∃ d2, min 10000 (d' + 1) = d2 := ⟨_, rfl⟩
        have HD2 := Lib.hid hd2
        clear hd2
        go_wp2_with fail
        refine (linkHear_bad 1 0 q _ ws true 0 d' d2 6 t _ (by exact HI3.out.later ((Below.refl w3.heap.size w3).alloc (Nat.le_refl _) _) (Nat.le_refl _)) (by omega) ⟨by decide, by decide⟩ ⟨by decide, by decide⟩ (by omega) HCK2.out HD2.out 1 0 x [] HF.out (.inr ⟨HOK.out, rfl, by omega, HN.out, rfl⟩)).mono ?_
        rintro e5 w5 ⟨v5, rfl, hown5, hb5⟩
        obtain ⟨a5, cap5, rfl⟩ := (own_ints' hown5).len
        have hz5 := hb5.size
        simp at hz5
        have L5 := (HL3.out.later ((Below.refl w3.heap.size w3).alloc (Nat.le_refl _) (.cells #[.int .i64 1, .int .i64 0, .int .u8 q, .slice a3 ws.length cap3, .bool true, .int .i64 0, .int .i64 d'] 44)) HL3.out.lt).later hb5 (by have := HL3.out.lt; simp; omega)
        have LX := (link_lit w3 1 0 q (.slice a3 ws.length cap3) true 0 d' 44).later hb5 (by simp)
        have HL5 := Lib.hid L5
        have HB5 := Lib.hid ((HB3.out.alloc HB3.out.size (.cells #[.int .i64 1, .int .i64 0, .int .u8 q, .slice a3 ws.length cap3, .bool true, .int .i64 0, .int .i64 d'] 44)).trans (hb5.mono (by have := HB3.out.size; simp; omega)))
        have HO5 := Lib.hid (own_later (HO3.out.alloc (.cells #[.int .i64 1, .int .i64 0, .int .u8 q, .slice a3 ws.length cap3, .bool true, .int .i64 0, .int .i64 d'] 44)) hb5 (Nat.le_refl _))
        clear c0 c1 c2 c3 c4 c5 c6 cf zz hb5 hown5
        have zz := L5.lt
        have zy := LX.lt
        obtain ⟨c0, c1, c2, c3, c4, c5, c6, cf⟩ := L5
        obtain ⟨g0, g1, g2, g3, g4, g5, g6, gf⟩ := LX
        go_wp2
        refine ⟨⟨j + 1, q, d', ws, a3, cap3, by omega, by go_num, LinkAt.later (link_write HL5.out 1 0 q (.slice a3 ws.length cap3) true 0 d') ((Below.refl _ _).alloc (Nat.le_refl _) _) (LinkAt.lt (link_write HL5.out 1 0 q (.slice a3 ws.length cap3) true 0 d')), own_ints' (World.ownsRow.alloc (wrLink_own HO5.out zl2 1 0 q (.slice a3 ws.length cap3) true 0 d') _), hn8, hdb, hq, ?_⟩, by simp [intOf]; omega⟩
        have hb9 := wrLink_below HB5.out (show w.heap.size ≤ w1.heap.size by omega) 1 0 q (.slice a3 ws.length cap3) true 0 d'
        exact hb9.alloc hb9.size _
    · obtain rfl : j = xs.length := by omega
      have hdd : ¬ ((xs.length : Int) < (xs.length : Int)) := by omega
      go_wp2
      go_ret
      exact ⟨rfl, HB.out⟩
theorem law (a : Option Addr) (n cap : Nat) (zs : List Int) (w : World) (hz : IsRow .u8 w a n cap zs) :
    Calls Try.prog 7 #[.slice a n cap] w fun e w' => e = .returned (.bool true) ∧ Below w.heap.size w w' := by
  obtain ⟨h1, h2⟩ := isRow_ints hz
  have hb := hz.maxLen
  refine law' _ (zs.take n) w h1 (by omega) (fun x hx => ?_)
  rcases hz with ⟨-, -, -, rfl⟩ | ⟨y, rfl, hl, hm, hz, hcell, hwz⟩
  · simp at hx
  · exact bounds_u8 (hwz x (List.mem_of_mem_take hx))
set_option maxRecDepth 100000 in
theorem lifted (os : Os) (started : os.Started) (H : Type) (enc : TypeId × Value → H) :
    ReturnsInHanded {} Try.checked os 7 .any (Rows.linkOnceSpec.pre6 enc Try.prog Try.f7 Rows.linkOnceRow.domain false) (Rows.linkOnceSpec.post enc Try.prog Try.f7 false true false false) := by
  refine returnsInHanded_of_change (C := Try.checked) own started (by kernel_rfl) Try.func7
    (ChangeSpec.witness6 (enc := enc) (C := Try.checked) false ⟨#[], #[.slice none 0 0], []⟩ 8 (by kernel_rfl) (by kernel_rfl) (by kernel_rfl) (by kernel_rfl)) ?_
  intro W base args ds gs before hval0 hW hcnd _
  have hval : ∀ (j : Nat) t v, Try.f7.params[j]? = some t → args[j]? = some v → Value.okWide Try.prog W .any base t v := hval0
  have hW' := hW
  obtain ⟨p, q, hA0, hV, rfl, hfz, hnd⟩ := hW
  have hA : DataW.TrodAll enc Try.prog W 0 (fun _ => true) true Try.f7.params.toList args.toList ds p := hA0
  rw [Try.params7] at hA hval
  obtain ⟨v0, vs0, d0, ds0, p0, q0, hargs, rfl, rfl, h0, r0⟩ := trodAll_cons hA
  obtain ⟨rfl, rfl, rfl⟩ := trodAll_nil r0
  obtain rfl : args = #[v0] := by cases args; simp_all
  obtain ⟨rfl, rfl⟩ := trodVars_none hV
  have k0 := h0
  have lt0 : ∀ x ∈ p0, x.block < W.heap.size := by obtain ⟨m, hm⟩ := k0; exact DataW.trod_lt m _ _ _ hm
  obtain ⟨sa0, sl0, sc0, rfl⟩ := okWide_slice Try.underlying24 (hval 0 24 v0 rfl rfl)
  obtain ⟨a0, len0, cap0, z0, e0, w0⟩ := leaf_ints (Try.underlying24) (Try.underlying5) (by kernel_rfl) (by obtain ⟨fuel, hf⟩ := h0; exact ⟨fuel, _, by simpa [Value.cells] using hf⟩)
  simp only [Value.slice.injEq] at e0
  obtain ⟨rfl, rfl, rfl⟩ := e0
  clear hA0 hval0
  refine (law sa0 sl0 sc0 z0 W w0).mono fun e W' ⟨he, bel⟩ => ?_
  subst he
  exact ⟨_, rfl, _, _, _, [], _, [], hW', trodAll_mk1 (shut_bool Try.underlying4 _), (trodAll_cons_mk (Below.trod laidOut (by kernel_rfl) (of_decide_eq_true (by kernel_rfl)) k0 bel lt0) trodAll_mk0), rfl, bel.frame _, fun h => by cases h⟩
theorem over : Rows.linkOnceRow.holds Try.pinned (OpenSpec.ofChange Rows.linkOnceSpec) :=
  OpenClaim.holds_of_wide 7 Try.f7 rfl rfl rfl rfl rfl rfl rfl ⟨rfl, rfl, rfl, rfl, rfl⟩ rfl rfl rfl rfl rfl (by kernel_rfl) Try.func7 (by kernel_rfl)
    (of_decide_eq_true (by kernel_rfl)) (by unfold Func.isWrapper; first | (rw [if_pos (by decide +kernel)]; kernel_rfl) | (rw [if_neg (by decide +kernel)]; exact ⟨rfl, rfl⟩))
    (fun os started H enc _ => lifted os started H enc)
theorem proved : Rows.LinkOnceSaid := over
#print axioms proved

end Go.Proofs.Ytdmagoimfblopaa.linkOnce
