/- LinkAges: whatever the two numbers are, the law answers true and leaves memory as it was. -/
import Derived.Test.YtdmagoimfblopaaLinkHeard
import Derived.Test.YtdmagoimfblopaaSat
namespace Go.Proofs.Ytdmagoimfblopaa.linkAges
open Go.ChangeShapes Go.WideShapes Go.ChangeAt Go.RowKit Go.Proofs.Ytdmagoimfblopaa Go.Proofs.Ytdmagoimfblopaa.Open
set_option linter.unusedVariables false
def AgeRel (w : World) (b k : Nat) (i : Value) (wr : World) : Prop := ∃ (j : Nat) (a : Option Addr) (cap : Nat), j ≤ k ∧ i = .int .i64 j ∧ LinkAt wr b 1 0 5 (.slice a 1 cap) true (min 100 (j : Int)) 0 ∧ IntsAt .i32 wr (.slice a 1 cap) [7] ∧ Below w.heap.size w wr
theorem chk_one (g : Int) (h : 0 ≤ g ∧ g ≤ 100) : linkChk 1 0 5 ([7] : List Int).length true g 0 = 0 := by
  unfold linkChk
  rw [if_neg (by omega), if_pos rfl]; rfl
set_option maxHeartbeats 4000000 in
set_option maxRecDepth 100000 in
theorem law (n m : Int) (w : World) (hn : -9223372036854775808 ≤ n ∧ n ≤ 9223372036854775807) (hm : -9223372036854775808 ≤ m ∧ m ≤ 9223372036854775807) :
    Calls Try.prog 9 #[.int .i64 n, .int .i64 m] w fun e w' => e = .returned (.bool true) ∧ Below w.heap.size w w' := by
  have R := restI_bd n 150 (by omega)
  obtain ⟨k, hk⟩ : ∃ k : Nat, restI n 150 = k := ⟨(restI n 150).toNat, by omega⟩
  have hkb : k < 150 := by omega
  have HK := Lib.hid hk
  have C0 := Lib.hid (chk_one 0 (by omega))
  clear R hk
  go_enter Try.func9, Try.ntmps9
  go_wp2_with fail
  refine (heard_any _).mono ?_
  rintro e1 w1 ⟨a1, cap1, rfl, hown1, hb1⟩
  have HI := Lib.hid (own_ints' (xs := [7]) hown1)
  have L0 := link_lit w1 1 0 5 (.slice a1 1 cap1) true 0 0 44
  have HL0 := Lib.hid L0
  have z1 := hb1.size
  have HB1 := Lib.hid hb1
  clear hown1 hb1 L0
  go_wp2_with fail
  refine (linkWords_yes 1 0 5 _ [7] 0 0 0 _ (by exact HI.out.later ((Below.refl w1.heap.size w1).alloc (Nat.le_refl _) _) (Nat.le_refl _)) (by decide) ⟨by decide, by decide⟩ ⟨by decide, by decide⟩ ⟨by decide, by decide⟩ C0.out (by omega)).mono ?_
  rintro e2 w2 ⟨v2, rfl, hown2, hb2⟩
  have HI2 := Lib.hid (own_ints' (xs := [7]) hown2)
  have L2 := HL0.out.later hb2 (by simp)
  have HL2 := Lib.hid L2
  have hz2 := hb2.size
  simp at hz2
  have B2 : Below w.heap.size w w2 := HB1.out.trans (Below.trans ((Below.refl _ _).alloc z1 _) (hb2.mono (by simp; omega)))
  have I2 : IntsAt .i32 w2 (.slice a1 1 cap1) [7] := (HI.out.later ((Below.refl w1.heap.size w1).alloc (Nat.le_refl _) _) (Nat.le_refl _)).later hb2 (Nat.le_refl _)
  have HB2 := Lib.hid B2; have HII := Lib.hid I2
  have s2 : w1.heap.size < w2.heap.size := by omega
  clear hown2 hb2 L2 B2 I2
  go_wp2_with fail
  refine (equal_i32 [7] [7] _ _ _ (by exact HI2.out.later ((Below.refl w2.heap.size w2).alloc (Nat.le_refl _) _) (Nat.le_refl _)) (.inr ⟨by decide, w2.heap.size, 0, 1, rfl, by decide, by decide, fun i hi => ?_⟩) (by decide) (by decide)).mono ?_
  · obtain rfl : i = 0 := by simp at hi; omega
    show World.cell? _ _ = some (.int .i32 7); go_simp
  rintro e3 w3 ⟨m3, he3, hw3⟩
  rw [show decide (([7] : List Int) = [7]) = true from by decide] at he3
  subst he3
  have b3 : Below w2.heap.size w2 w3 := by rw [hw3]; exact below_drewN ((Below.refl _ _).alloc (Nat.le_refl _) _) m3
  have HB3 := Lib.hid (HB2.out.trans (b3.mono HB2.out.size))
  have HL3 := Lib.hid (HL2.out.later b3 HL2.out.lt)
  have HI3 := Lib.hid (HII.out.later b3 (Nat.le_refl _))
  have z3 := b3.size
  clear hw3 b3
  go_wp2_with fail
  refine (rest_any _ _ (by omega) _).mono ?_
  rintro e4 w4 ⟨rfl, rfl⟩
  rw [HK.out]
  go_wp2
  go_loopw [28] (fun i wr => AgeRel w w1.heap.size k i wr) (fun i _ => k - (intOf i).toNat)
  case atStart => exact ⟨0, a1, cap1, by omega, rfl, HL3.out, HI3.out, HB3.out⟩
  case round =>
    obtain ⟨j, a, cap, hj, rfl, hL, hI, hB⟩ := hrel
    have HL := Lib.hid hL; have HJ := Lib.hid hI; have HB := Lib.hid hB
    have zz := hL.lt
    obtain ⟨c0, c1, c2, c3, c4, c5, c6, cf⟩ := hL
    clear hI hB
    by_cases hlt : j < k
    · have d1 : (j : Int) < (k : Int) := by omega
      have CJ := Lib.hid (chk_one (min 100 (j : Int)) (by omega))
      have hag : Hid (ageI true (min 100 (j : Int)) = min 100 (((j + 1 : Nat)) : Int)) := (by unfold ageI; rw [if_pos rfl]; omega : ageI true (min 100 (j : Int)) = min 100 (((j + 1 : Nat)) : Int))
      obtain ⟨g, hg⟩ : ∃ g, min 100 (j : Int) = g := ⟨_, rfl⟩
      obtain ⟨g', hg'⟩ : ∃ g', min 100 (((j + 1 : Nat)) : Int) = g' := ⟨_, rfl⟩
      rw [hg] at c5 CJ hag
      rw [hg'] at hag
      have HG := Lib.hid hg'
      clear hg hg'
      go_wp2_with fail
      refine (linkTick_yes 1 0 5 _ [7] true g 0 g' _ HJ.out (by decide) ⟨by decide, by decide⟩ ⟨by decide, by decide⟩ CJ.out hag.out).mono ?_
      rintro e5 w5 ⟨v5, rfl, hown5, hb5⟩
      obtain ⟨a5, cap5, rfl⟩ := (own_ints' (xs := [7]) hown5).len
      have HI5 := Lib.hid (own_ints' (xs := [7]) hown5)
      have L5 := HL.out.later hb5 HL.out.lt
      have HL5 := Lib.hid L5
      have HB5 := Lib.hid (HB.out.trans (hb5.mono HB.out.size))
      have zb5 := hb5.size
      clear c0 c1 c2 c3 c4 c5 c6 cf zz
      have zz := L5.lt
      obtain ⟨c0, c1, c2, c3, c4, c5, c6, cf⟩ := L5
      have HO5 := Lib.hid hown5
      clear hb5 hown5
      go_wp2
      go_roundw
      case rel =>
        refine ⟨j + 1, a5, cap5, by omega, by go_num, by rw [HG.out]; exact link_write HL5.out 1 0 5 (.slice a5 1 cap5) true g' 0, own_ints' (xs := [7]) (wrLink_own HO5.out HL.out.lt 1 0 5 (.slice a5 1 cap5) true g' 0), wrLink_below HB5.out (by have := HB1.out.size; omega) 1 0 5 (.slice a5 1 cap5) true g' 0⟩
      case measure => simp [intOf]; omega
    · obtain rfl : j = k := by omega
      have CJ := Lib.hid (chk_one (min 100 (j : Int)) (by omega))
      have hcase : (((j : Int) < 100 ∧ min 100 (j : Int) = j) ∨ ((j : Int) = 100 ∧ min 100 (j : Int) = 100) ∨ (100 < (j : Int) ∧ min 100 (j : Int) = 100)) := by omega
      obtain ⟨g, hg⟩ : ∃ g, min 100 (j : Int) = g := ⟨_, rfl⟩
      rw [hg] at c5 CJ hcase
      clear hg HL
      have hd : ¬ (j : Int) < (j : Int) := by omega
      rcases hcase with ⟨h1, h2⟩ | ⟨h1, h2⟩ | ⟨h1, h2⟩
      · subst h2
        by_cases hmg : m < (j : Int)
        · have dm : decide (m < (j : Int)) = true := decide_eq_true hmg
          go_wp2_with fail
          refine (linkWords_bad 1 0 5 _ [7] true ((j : Int)) 0 m 6 _ HJ.out (by decide) ⟨by decide, by decide⟩ ⟨by decide, by decide⟩ hm (.inr (.inr ⟨CJ.out, rfl, hmg, rfl⟩))).mono ?_
          rintro e5 w5 ⟨rfl, hb5⟩
          have HB5 := Lib.hid (HB.out.trans (hb5.mono HB.out.size))
          clear hb5 hmg
          go_wp2
          go_ret
          exact ⟨ret_bool (by first | rfl | (simp; done)), HB5.out⟩
        · have dm : decide (m < (j : Int)) = false := decide_eq_false hmg
          go_wp2_with fail
          refine (linkWords_yes 1 0 5 _ [7] ((j : Int)) 0 m _ HJ.out (by decide) ⟨by decide, by decide⟩ ⟨by decide, by decide⟩ hm CJ.out (by omega)).mono ?_
          rintro e5 w5 ⟨v5, rfl, hown5, hb5⟩
          have HI5 := Lib.hid (own_ints' (xs := [7]) hown5)
          have HB5 := Lib.hid (HB.out.trans (hb5.mono HB.out.size))
          clear hb5 hown5 hmg
          go_wp2_with fail
          refine (equal_i32 [7] [7] _ _ _ (by exact HI5.out.later ((Below.refl w5.heap.size w5).alloc (Nat.le_refl _) _) (Nat.le_refl _)) (.inr ⟨by decide, w5.heap.size, 0, 1, rfl, by decide, by decide, fun i hi => ?_⟩) (by decide) (by decide)).mono ?_
          · obtain rfl : i = 0 := by simp at hi; omega
            show World.cell? _ _ = some (.int .i32 7); go_simp
          rintro e6 w6 ⟨m6, he6, hw6⟩
          rw [show decide (([7] : List Int) = [7]) = true from by decide] at he6
          subst he6
          have HB6 : Hid (Below w.heap.size w w6) := (by rw [hw6]; exact below_drewN (HB5.out.alloc HB5.out.size _) m6 : Below w.heap.size w w6)
          clear hw6
          go_wp2
          go_ret
          exact ⟨ret_bool (by first | rfl | (simp; done)), HB6.out⟩
      · subst h2
        obtain rfl : j = 100 := by omega
        rw [show ((100 : Nat) : Int) = 100 from rfl]
        clear h1 hd
        have hd : ¬ (100 : Int) < 100 := by omega
        by_cases hmg : m < 100
        · have dm : decide (m < 100) = true := decide_eq_true hmg
          go_wp2_with fail
          refine (linkWords_bad 1 0 5 _ [7] true (100) 0 m 6 _ HJ.out (by decide) ⟨by decide, by decide⟩ ⟨by decide, by decide⟩ hm (.inr (.inr ⟨CJ.out, rfl, hmg, rfl⟩))).mono ?_
          rintro e5 w5 ⟨rfl, hb5⟩
          have HB5 := Lib.hid (HB.out.trans (hb5.mono HB.out.size))
          clear hb5 hmg
          go_wp2
          go_ret
          exact ⟨ret_bool (by first | rfl | (simp; done)), HB5.out⟩
        · have dm : decide (m < 100) = false := decide_eq_false hmg
          go_wp2_with fail
          refine (linkWords_yes 1 0 5 _ [7] (100) 0 m _ HJ.out (by decide) ⟨by decide, by decide⟩ ⟨by decide, by decide⟩ hm CJ.out (by omega)).mono ?_
          rintro e5 w5 ⟨v5, rfl, hown5, hb5⟩
          have HI5 := Lib.hid (own_ints' (xs := [7]) hown5)
          have HB5 := Lib.hid (HB.out.trans (hb5.mono HB.out.size))
          clear hb5 hown5 hmg
          go_wp2_with fail
          refine (equal_i32 [7] [7] _ _ _ (by exact HI5.out.later ((Below.refl w5.heap.size w5).alloc (Nat.le_refl _) _) (Nat.le_refl _)) (.inr ⟨by decide, w5.heap.size, 0, 1, rfl, by decide, by decide, fun i hi => ?_⟩) (by decide) (by decide)).mono ?_
          · obtain rfl : i = 0 := by simp at hi; omega
            show World.cell? _ _ = some (.int .i32 7); go_simp
          rintro e6 w6 ⟨m6, he6, hw6⟩
          rw [show decide (([7] : List Int) = [7]) = true from by decide] at he6
          subst he6
          have HB6 : Hid (Below w.heap.size w w6) := (by rw [hw6]; exact below_drewN (HB5.out.alloc HB5.out.size _) m6 : Below w.heap.size w w6)
          clear hw6
          go_wp2
          go_ret
          exact ⟨ret_bool (by first | rfl | (simp; done)), HB6.out⟩
      · subst h2
        by_cases hmg : m < 100
        · have dm : decide (m < 100) = true := decide_eq_true hmg
          go_wp2_with fail
          refine (linkWords_bad 1 0 5 _ [7] true (100) 0 m 6 _ HJ.out (by decide) ⟨by decide, by decide⟩ ⟨by decide, by decide⟩ hm (.inr (.inr ⟨CJ.out, rfl, hmg, rfl⟩))).mono ?_
          rintro e5 w5 ⟨rfl, hb5⟩
          have HB5 := Lib.hid (HB.out.trans (hb5.mono HB.out.size))
          clear hb5 hmg
          go_wp2
          go_ret
          exact ⟨ret_bool (by first | rfl | (simp; done)), HB5.out⟩
        · have dm : decide (m < 100) = false := decide_eq_false hmg
          go_wp2_with fail
          refine (linkWords_yes 1 0 5 _ [7] (100) 0 m _ HJ.out (by decide) ⟨by decide, by decide⟩ ⟨by decide, by decide⟩ hm CJ.out (by omega)).mono ?_
          rintro e5 w5 ⟨v5, rfl, hown5, hb5⟩
          have HI5 := Lib.hid (own_ints' (xs := [7]) hown5)
          have HB5 := Lib.hid (HB.out.trans (hb5.mono HB.out.size))
          clear hb5 hown5 hmg
          go_wp2_with fail
          refine (equal_i32 [7] [7] _ _ _ (by exact HI5.out.later ((Below.refl w5.heap.size w5).alloc (Nat.le_refl _) _) (Nat.le_refl _)) (.inr ⟨by decide, w5.heap.size, 0, 1, rfl, by decide, by decide, fun i hi => ?_⟩) (by decide) (by decide)).mono ?_
          · obtain rfl : i = 0 := by simp at hi; omega
            show World.cell? _ _ = some (.int .i32 7); go_simp
          rintro e6 w6 ⟨m6, he6, hw6⟩
          rw [show decide (([7] : List Int) = [7]) = true from by decide] at he6
          subst he6
          have HB6 : Hid (Below w.heap.size w w6) := (by rw [hw6]; exact below_drewN (HB5.out.alloc HB5.out.size _) m6 : Below w.heap.size w w6)
          clear hw6
          go_wp2
          go_ret
          exact ⟨ret_bool (by first | rfl | (simp; done)), HB6.out⟩
set_option maxRecDepth 100000 in
theorem lifted (os : Os) (started : os.Started) (H : Type) (enc : TypeId × Value → H) :
    ReturnsInHanded {} Try.checked os 9 .any (Rows.linkAgesSpec.pre6 enc Try.prog Try.f9 Rows.linkAgesRow.domain false) (Rows.linkAgesSpec.post enc Try.prog Try.f9 false true false false) := by
  refine returnsInHanded_of_change (C := Try.checked) own started (by kernel_rfl) Try.func9
    (ChangeSpec.witness6 (enc := enc) (C := Try.checked) false ⟨#[], #[.int .i64 0, .int .i64 0], []⟩ 8 (by kernel_rfl) (by kernel_rfl) (by kernel_rfl) (by kernel_rfl)) ?_
  intro W base args ds gs before hval0 hW hcnd _
  have hval : ∀ (j : Nat) t v, Try.f9.params[j]? = some t → args[j]? = some v → Value.okWide Try.prog W .any base t v := hval0
  have hW' := hW
  obtain ⟨p, q, hA0, hV, rfl, hfz, hnd⟩ := hW
  have hA : DataW.TrodAll enc Try.prog W 0 (fun _ => true) true Try.f9.params.toList args.toList ds p := hA0
  rw [Try.params9] at hA hval
  obtain ⟨v0, vs0, d0, ds0, p0, q0, hargs, rfl, rfl, h0, r0⟩ := trodAll_cons hA
  obtain ⟨v1, vs1, d1, ds1, p1, q1, rfl, rfl, rfl, h1, r1⟩ := trodAll_cons r0
  obtain ⟨rfl, rfl, rfl⟩ := trodAll_nil r1
  obtain rfl : args = #[v0, v1] := by cases args; simp_all
  obtain ⟨rfl, rfl⟩ := trodVars_none hV
  have k0 := h0
  have lt0 : ∀ x ∈ p0, x.block < W.heap.size := by obtain ⟨m, hm⟩ := k0; exact DataW.trod_lt m _ _ _ hm
  have k1 := h1
  have lt1 : ∀ x ∈ p1, x.block < W.heap.size := by obtain ⟨m, hm⟩ := k1; exact DataW.trod_lt m _ _ _ hm
  obtain ⟨a0, rfl, rfl, rfl, w0⟩ := open_int Try.underlying3 (hval 0 3 v0 rfl rfl) h0
  obtain ⟨a1, rfl, rfl, rfl, w1⟩ := open_int Try.underlying3 (hval 1 3 v1 rfl rfl) h1
  clear hA0 hval0
  refine (law a0 a1 W (bounds_i64 w0) (bounds_i64 w1)).mono fun e W' ⟨he, bel⟩ => ?_
  subst he
  exact ⟨_, rfl, _, _, _, [], _, [], hW', trodAll_mk1 (shut_bool Try.underlying4 _), (trodAll_cons_mk (Below.trod laidOut (by kernel_rfl) (of_decide_eq_true (by kernel_rfl)) k0 bel lt0) (trodAll_cons_mk (Below.trod laidOut (by kernel_rfl) (of_decide_eq_true (by kernel_rfl)) k1 bel lt1) trodAll_mk0)), rfl, bel.frame _, fun h => by cases h⟩
theorem over : Rows.linkAgesRow.holds Try.pinned (OpenSpec.ofChange Rows.linkAgesSpec) :=
  OpenClaim.holds_of_wide 9 Try.f9 rfl rfl rfl rfl rfl rfl rfl ⟨rfl, rfl, rfl, rfl, rfl⟩ rfl rfl rfl rfl rfl (by kernel_rfl) Try.func9 (by kernel_rfl)
    (of_decide_eq_true (by kernel_rfl)) (by unfold Func.isWrapper; first | (rw [if_pos (by decide +kernel)]; kernel_rfl) | (rw [if_neg (by decide +kernel)]; exact ⟨rfl, rfl⟩))
    (fun os started H enc _ => lifted os started H enc)
theorem proved : Rows.LinkAgesSaid := over
#print axioms proved

end Go.Proofs.Ytdmagoimfblopaa.linkAges
