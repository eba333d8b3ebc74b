/- CrcFew: whatever the text and the places that are turned over are, the law answers true and leaves memory as it was. -/
import Derived.Test.YtijoalaijkobpaaFewNum
import Derived.Test.YtijoalaijkobpaaSat
import Derived.Test.YtijoalaijkobpaaSlc
import Derived.Maps.OwnOps
import Derived.Maps.RangeWalk
namespace Go.Proofs.Ytijoalaijkobpaa.crcFew
open Go.ChangeShapes Go.WideShapes Go.ChangeAt Go.RowKit Go.Proofs.Ytijoalaijkobpaa Go.Proofs.Ytijoalaijkobpaa.Open
set_option linter.unusedVariables false
abbrev Dt := Go.DataW Unit
abbrev ky (k : Nat) : Go.Lit := .int .i64 (k : Int)
abbrev el (k : Nat) : Dt := .lit (.int .i64 (k : Int))
/-- what the map says of a list of places -/
structure Says (D : Dt) (ks : List Nat) : Prop where
  m : Go.Maps.IsMap D
  at_ : ∀ j : Nat, D.atKey (ky j) (el 0) = el (ks.count j)
  came : ∀ kl, Go.Maps.has D kl = true → ∃ j, j ∈ ks ∧ kl = ky j
  has_ : ∀ j, j ∈ ks → Go.Maps.has D (ky j) = true
theorem ky_ne {i j : Nat} (h : i ≠ j) : ky i ≠ ky j := by intro e; injection e with _ e; omega
theorem ky_key (j : Nat) : Go.WideAt.IsKeyLit (ky j) := trivial
theorem says_none : Says (.map []) [] :=
  ⟨Go.Maps.isMap_empty, fun j => rfl, fun kl h => by simp [Go.Maps.has] at h, fun j h => by simp at h⟩
theorem Says.step {D : Dt} {ks : List Nat} (h : Says D ks) (k : Nat) : Says (D.put (ky k) (el (ks.count k + 1))) (ks ++ [k]) := by
  refine ⟨h.m.put _ _, fun j => ?_, fun kl hk => ?_, fun j hj => ?_⟩
  · rw [List.count_append]
    by_cases e : j = k
    · subst e
      rw [Go.Maps.atKey_put_same h.m (ky_key _)]; simp
    · rw [Go.Maps.atKey_put_other (ky_ne e), h.at_ j]
      have : List.count j [k] = 0 := by rw [List.count_eq_zero]; simpa using e
      rw [this, Nat.add_zero]
  · by_cases e : kl = ky k
    · exact ⟨k, by simp, e⟩
    · rw [Go.Maps.has_put_other e] at hk
      obtain ⟨j, h1, h2⟩ := h.came kl hk
      exact ⟨j, by simp [h1], h2⟩
  · by_cases e : j = k
    · subst e; exact Go.Maps.has_put_same h.m (ky_key _) _
    · rw [Go.Maps.has_put_other (ky_ne e)]
      exact h.has_ j (by simpa [e] using hj)
theorem law3 : Go.Maps.Keyed Try.prog 3 := Go.Maps.int_keyed Try.underlying3
theorem zero3 (w : World) : (zeroValue 3).run Try.prog w = .ok (.int .i64 0) w := by kernel_rfl
abbrev Own (w : World) (b n : Nat) (D : Dt) : Prop := w.ownsMap Try.prog 3 (plainElem Try.prog 3) b n D
theorem own_call {w w' : World} {b n : Nat} {D : Dt} (h : Own w b n D) (hb : Below w.heap.size w w') : Own w' b n D := by
  have hl := h.lt
  obtain ⟨es, clock, h1, h2⟩ := h
  exact ⟨es, clock, (hb.block _ hl).trans h1, h2⟩
theorem wf64 (k : Nat) (h : k ≤ 9223372036854775807) : (Go.Lit.int .i64 (k : Int)).wf = true := by
  refine WalkArith.wf_i64 ?_; omega
theorem flipped_at (s : ByteArray) (k : Nat) (hk : k < 8 * s.size) (hs : s.size ≤ 4095) (w : World) :
    Calls Try.prog 16 #[.string s, .int .i64 (k : Int)] w fun e w' => e = .returned (.string (strN (flipN (bytesN s) (k / 8) (k % 8)))) ∧ Below w.heap.size w w' := by
  have h := flipped_any s (k / 8) (k % 8) (by omega) (by omega) hs w
  rwa [show 8 * (k / 8) + k % 8 = k by omega] at h
def abc : ByteArray := ⟨#[97, 98, 99]⟩
theorem abc_bad : ¬ sumFits abc := by
  rw [fits_iff abc (by decide)]
  decide +kernel
def ksOf (N : Nat) (xs : List Int) : List Nat := xs.map fun x => (restI x N).toNat
theorem ksOf_len (N : Nat) (xs : List Int) : (ksOf N xs).length = xs.length := by simp [ksOf]
theorem ksOf_lt (N : Nat) (hN : 0 < N) (xs : List Int) : ∀ k ∈ ksOf N xs, k < N := by
  intro k hk
  obtain ⟨x, _, rfl⟩ := List.mem_map.1 hk
  have := restI_bd x N (by omega)
  omega
theorem ksOf_at (N : Nat) (hN : 0 < N) (xs : List Int) (j : Nat) (hj : j < xs.length) (x : Int) (hx : xs.getD j 0 = x) : ∃ k : Nat, k < N ∧ restI x N = (k : Int) ∧ (ksOf N xs).take (j + 1) = (ksOf N xs).take j ++ [k] := by
  have hb := restI_bd x N (by omega)
  refine ⟨(restI x N).toNat, by omega, by omega, ?_⟩
  rw [List.take_succ_eq_append_getElem (by rw [ksOf_len]; exact hj)]
  congr 2
  simp only [ksOf, List.getElem_map]
  rw [← hx, List.getD_eq_getElem?_getD, List.getElem?_eq_getElem hj]; rfl
theorem doneN_le (N : Nat) (f l : Nat → Bool) : doneN N f l ≤ N := by
  unfold doneN; exact Nat.le_trans List.countP_le_length (by simp)
set_option maxHeartbeats 8000000 in
set_option maxRecDepth 100000 in
theorem yes (s : ByteArray) (v : Value) (xs : List Int) (w : World) (hs : s.size ≤ 4093) (hv : IntsAt .i64 w v xs) (hx : xs.length ≤ 140737488351232) :
    Calls Try.prog 5 #[.string s, v] w fun e w' => e = .returned (.bool true) ∧ Below w.heap.size w w' := by
  have hmm := @run_makeMap Try.prog
  have z1 := put_size s
  have HV := Lib.hid hv
  obtain ⟨av, cv, rfl⟩ := HV.out.len
  have GOOD := Lib.hid (fun ks => few_good s ks hs)
  have BAD := Lib.hid (fun ks => few_bad s ks hs)
  have hlen : (bytesN (putS s)).length = s.size + 2 := by rw [bytesN_length, put_size]
  have HLEN := Lib.hid hlen
  have HB := Lib.hid (strN_bytesN (putS s))
  have HLT := Lib.hid (bytesN_lt (putS s))
  obtain ⟨t, T⟩ : ∃ t, t = putS s := ⟨_, rfl⟩
  rw [← T] at z1 HLEN HB GOOD BAD HLT
  have HT := Lib.hid T
  clear T hlen hv
  go_enter Try.func5, Try.ntmps5
  go_wp2_with fail
  refine (get_bad abc (by decide) (by decide) abc_bad _).mono ?_
  rintro e1 w1 ⟨rfl, rfl⟩
  go_wp2_with fail
  refine (put_yes s hs _).mono ?_
  rw [← HT.out]
  rintro e2 w2 ⟨rfl, hb2⟩
  have zb2 := hb2.size
  have HB2 := Lib.hid hb2
  clear hb2
  obtain ⟨N, hN⟩ : ∃ N, N = 8 * (s.size + 2) := ⟨_, rfl⟩
  have hN0 : 0 < N := by omega
  have hNe : 8 * ((s.size : Int) + 2) = (N : Int) := by omega
  have KLT := Lib.hid (ksOf_lt N hN0 xs)
  have KAT := Lib.hid (ksOf_at N hN0 xs)
  have KLN := Lib.hid (ksOf_len N xs)
  rw [← hN] at GOOD BAD
  have HN := Lib.hid hN; have HNE := Lib.hid hNe
  have hN2 : N ≤ 32760 := by omega
  clear hN hNe
  generalize ksOf N xs = KS at *
  have hbt : strN (turnN (bytesN t) (KS.take 0)) = t := by rw [List.take_zero]; exact HB.out
  have HBT := Lib.hid hbt
  clear hbt
  go_wp2
  go_loopw [10, 36] (fun u i wr => ∃ (j : Nat) (D : Dt), j ≤ xs.length ∧ i = .int .i64 j ∧ u = .string (strN (turnN (bytesN t) (KS.take j))) ∧ Own wr w2.heap.size j D ∧ Says D (KS.take j) ∧ Below w.heap.size w wr ∧ w2.heap.size < wr.heap.size) (fun _ i _ => xs.length - (intOf i).toNat)
  case atStart => exact ⟨0, .map [], by omega, rfl, by rw [HBT.out], World.ownsMap_made _ _ _ _, says_none, HB2.out.alloc zb2 _, by simp⟩
  case round =>
    obtain ⟨j, D, hj, rfl, rfl, hown, hsay, hB, hsz⟩ := hrel
    have HSAY := Lib.hid hsay
    have HBL := Lib.hid hB
    have HOWN := Lib.hid hown
    clear hsay hB hown HB2
    by_cases hlt : j < xs.length
    · rcases HV.out with ⟨h0, -⟩ | ⟨-, b, off, cp, he, hl1, hm1, hc⟩
      · rw [h0] at hlt; simp at hlt
      simp only [Value.slice.injEq, true_and] at he
      obtain ⟨rfl, rfl⟩ := he
      have x1 := cell_later HBL.out (hc j hlt)
      obtain ⟨x, hxe⟩ : ∃ x, xs.getD j 0 = x := ⟨_, rfl⟩
      rw [hxe] at x1
      obtain ⟨k, hkN, hkr, hks⟩ := KAT.out j hlt x hxe
      have HKR := Lib.hid hkr; have HKS := Lib.hid hks
      have d1 : (j : Int) < (xs.length : Int) := by omega
      clear hc hxe hkr hks
      go_wp2_with fail
      rw [HNE.out]
      refine (rest_any _ _ (by omega) _).mono ?_
      rw [HKR.out]
      rintro e4 w4 ⟨rfl, rfl⟩
      have hul : (turnN (bytesN t) (KS.take j)).length = s.size + 2 := by rw [turnN_length, HLEN.out]
      have hult := turnN_lt (bytesN t) (KS.take j) HLT.out
      have hun := turnN_snoc (bytesN t) (KS.take j) k
      rw [← HKS.out] at hun
      have HUL := Lib.hid hul; have HULT := Lib.hid hult; have HUN := Lib.hid hun
      clear hul hult hun x1
      generalize turnN (bytesN t) (KS.take j) = u at *
      obtain ⟨u', hu'⟩ : ∃ u', turnN (bytesN t) (KS.take (j + 1)) = u' := ⟨_, rfl⟩
      rw [hu'] at HUN
      have HU' := Lib.hid hu'
      clear hu'
      go_wp2_with fail
      refine (flipped_at (strN u) k (by rw [strN_size, HUL.out]; have := HN.out; omega) (by rw [strN_size, HUL.out]; omega) _).mono ?_
      rw [bytesN_strN u HULT.out, ← HUN.out]
      rintro e5 w5 ⟨rfl, hb5⟩
      have zb5 := hb5.size
      have HB5 := Lib.hid (HBL.out.trans (hb5.mono (by omega)))
      have hown : Own w5 w2.heap.size j D := own_call HOWN.out hb5
      have hstep := HSAY.out.step k
      have hat0 := HSAY.out.at_ k
      have hcn : (KS.take j).count k ≤ j := Nat.le_trans List.count_le_length (List.length_take_le _ _)
      rw [← HKS.out] at hstep
      obtain ⟨m, hm⟩ : ∃ m, (KS.take j).count k = m := ⟨_, rfl⟩
      rw [hm] at hstep hat0 hcn
      have HST := Lib.hid hstep; have HAT := Lib.hid hat0
      have hkey : keyOf Try.prog 3 (.int .i64 (k : Int)) = some (ky k) := Go.Maps.keyOf_int_mk Try.underlying3 (wf64 k (by omega))
      have hmx : j < maxLen := by unfold maxLen; omega
      clear hb5 hstep hat0 hm HBL HOWN HSAY
      go_wp2_with (first
        | (at_lookup; refine wpList_lookup_own_int _ rfl _ _ 47 rfl 3 3 .i64 law3 Try.underlying47 Try.underlying3 (zero3 _) w2.heap.size j D rfl hown _ (ky k) rfl hkey ?_; intro c hat hwc; (obtain rfl : c = (m : Int) := by { have e := HAT.out.symm.trans hat; injection e with e; injection e with _ e; exact e.symm }); clear hat hwc)
        | (at_mapUpdate; refine wpList_mapUpdate_own _ rfl _ _ _ 47 rfl 3 3 law3 Try.underlying47 _ w2.heap.size j D rfl hown hmx _ _ (ky k) rfl rfl hkey (el (m + 1)) [] (plainElem_int Try.underlying3 (wf64 (m + 1) (by omega))) ?_; intro w1 hown1 hgrow1))
      go_roundw
      case rel => exact ⟨j + 1, _, by omega, by go_num, by rw [HU'.out], hown1, HST.out, HB5.out.grown hgrow1 HB5.out.size (fun i hi => by cases hi; omega), by have := hgrow1.size; omega⟩
      case measure => simp [intOf]; omega
    · obtain rfl : j = xs.length := by omega
      have hall : KS.take xs.length = KS := List.take_of_length_le (by rw [KLN.out]; exact Nat.le_refl _)
      rw [hall] at HSAY
      have HOD := Lib.hid (doneN_start N (oddAt KS) (fun i => Go.Maps.has D (ky i)) (fun i _ h => HSAY.out.has_ i (by
        rcases Nat.eq_zero_or_pos (KS.count i) with e | e
        · simp [oddAt, e] at h
        · exact List.count_pos_iff.1 e)))
      obtain ⟨u, hu⟩ : ∃ u, turnN (bytesN t) (KS.take xs.length) = u := ⟨_, rfl⟩
      rw [hu]
      rw [hall] at hu
      have HU := Lib.hid hu
      clear hu hall
      have hown := HOWN.out
      go_wp2_with (first
        | (at_range; refine wpList_range_own _ rfl _ 47 rfl 3 3 law3 Try.underlying47 _ w2.heap.size xs.length D rfl hown ?_; intro w0 hrg0 hg0 hs0))
      go_frame
      have HBN := Lib.hid (HBL.out.grown hg0 HBL.out.size (fun i hi => by cases hi))
      have hr0 : w.heap.size ≤ wr.heap.size := HBL.out.size
      obtain ⟨r, hr⟩ : ∃ r, wr.heap.size = r := ⟨_, rfl⟩
      rw [hr] at hrg0 hs0 hsz hr0 ⊢
      clear HBL hown HOWN hr
      go_loopw [14] (fun n wx => ∃ (left : Go.Lit → Bool) (cnt : Nat), wx.ranges Try.prog 3 (plainElem Try.prog 3) w2.heap.size r xs.length D left cnt ∧ Below w.heap.size w wx ∧ w.heap.size ≤ wx.heap.size ∧ n = .int .i64 ((doneN N (oddAt KS) (fun i => left (ky i)) : Nat) : Int) ∧ ∀ kl, left kl = true → Go.Maps.has D kl = true) (fun _ wx => wx.rangeLeft w2.heap.size r)
      case atStart => exact ⟨_, _, hrg0, HBN.out, by omega, by rw [HOD.out]; rfl, fun _ h => h⟩
      case round =>
        obtain ⟨left, cnt, hrg, hB, hsw, rfl, hleft⟩ := hrel
        have HB0 := Lib.hid hB; have HLF := Lib.hid hleft
        have hdn := doneN_le N (oddAt KS) (fun i => left (ky i))
        obtain ⟨M, hM⟩ : ∃ M, doneN N (oddAt KS) (fun i => left (ky i)) = M := ⟨_, rfl⟩
        rw [hM] at hdn
        rw [hM]
        have HM := Lib.hid hM
        clear hB hleft hM
        go_wp2_with (first
          | (at_next; refine wpList_next_ranges_ii _ rfl _ rfl 3 3 .i64 .i64 law3 Try.underlying3 Try.underlying3 w2.heap.size r xs.length D left cnt rfl hrg ?_ ?_))
        · intro _ hl0
          have hend := doneN_end N KS (fun i => left (ky i)) (fun i => hl0 _)
          rw [HM.out] at hend
          have HE := Lib.hid hend
          clear hend hl0
          have hus : (strN u).size = s.size + 2 := by rw [strN_size, ← HU.out, turnN_length, HLEN.out]
          have hkall : ∀ k ∈ KS, k < N := KLT.out
          have FIN : (M = 0 ∧ sumFits (strN u)) ∨ (M = 2 ∧ ¬ sumFits (strN u)) ∨ (M % 2 = 1 ∧ ¬ sumFits (strN u)) ∨ (M ≠ 0 ∧ M ≠ 2 ∧ M % 2 = 0) := by
            by_cases m0 : M = 0
            · refine .inl ⟨m0, ?_⟩
              have := GOOD.out KS hkall (by rw [← HE.out]; exact m0)
              rwa [HU.out] at this
            · by_cases m1 : M = 2 ∨ M % 2 = 1
              · have := BAD.out KS hkall (by rw [← HE.out]; exact m1)
                rw [HU.out] at this
                rcases m1 with m1 | m1
                · exact .inr (.inl ⟨m1, this⟩)
                · exact .inr (.inr (.inl ⟨m1, this⟩))
              · exact .inr (.inr (.inr ⟨m0, fun h => m1 (.inl h), by omega⟩))
          have HUS := Lib.hid hus
          clear hus hkall hs0 hrg
          generalize strN u = su at *
          rcases FIN with ⟨m0, hf⟩ | ⟨m0, hf⟩ | ⟨m0, hf⟩ | ⟨m0, m1, m2⟩
          · have q1 : ((M : Int) == 0) = true := by simp; omega
            have HM0 := Lib.hid m0
            clear m0
            go_wp2_with fail
            refine (get_ok su (by rw [HUS.out]; omega) (by rw [HUS.out]; omega) hf _).mono ?_
            rintro e6 w6 ⟨rfl, rfl⟩
            go_wp2
            go_ret
            exact ⟨ret_bool (by first | rfl | (simp; done)), HB0.out⟩
          · have q1 : ((M : Int) == 0) = false := by simp; omega
            have q2 : ((M : Int) != 2) = false := by simp; omega
            have HM0 := Lib.hid m0
            clear m0
            go_wp2_with fail
            refine (get_bad su (by rw [HUS.out]; omega) (by rw [HUS.out]; omega) hf _).mono ?_
            rintro e6 w6 ⟨rfl, rfl⟩
            go_wp2
            go_ret
            exact ⟨ret_bool (by first | rfl | (simp; done)), HB0.out⟩
          · have q1 : ((M : Int) == 0) = false := by simp; omega
            have q2 : ((M : Int) != 2) = true := by simp; omega
            have q3 : ((M : Int) % 2 == 0) = false := by simp; omega
            have HM0 := Lib.hid m0
            clear m0
            go_wp2_with fail
            refine (get_bad su (by rw [HUS.out]; omega) (by rw [HUS.out]; omega) hf _).mono ?_
            rintro e6 w6 ⟨rfl, rfl⟩
            go_wp2
            go_ret
            exact ⟨ret_bool (by first | rfl | (simp; done)), HB0.out⟩
          · have q1 : ((M : Int) == 0) = false := by simp; omega
            have q2 : ((M : Int) != 2) = true := by simp; omega
            have q3 : ((M : Int) % 2 == 0) = true := by simp; omega
            have HM0 := Lib.hid m2
            clear m0 m1 m2
            by_cases hf : sumFits su
            · go_wp2_with fail
              refine (get_ok su (by rw [HUS.out]; omega) (by rw [HUS.out]; omega) hf _).mono ?_
              rintro e6 w6 ⟨rfl, rfl⟩
              go_wp2
              go_ret
              exact ⟨ret_bool (by first | rfl | (simp; done)), HB0.out⟩
            · go_wp2_with fail
              refine (get_bad su (by rw [HUS.out]; omega) (by rw [HUS.out]; omega) hf _).mono ?_
              rintro e6 w6 ⟨rfl, rfl⟩
              go_wp2
              go_ret
              exact ⟨ret_bool (by first | rfl | (simp; done)), HB0.out⟩
        · intro x c w1 cnt1 hwx hwc hlx hat hrg1 hlt1 hg1 hs1 hen
          obtain ⟨k, hkm, hxk⟩ := HSAY.out.came _ (HLF.out _ hlx)
          obtain rfl : x = (k : Int) := by injection hxk
          have hkN := KLT.out k hkm
          obtain rfl : c = ((KS.count k : Nat) : Int) := by
            have e := (HSAY.out.at_ k).symm.trans (hat (el 0))
            injection e with e; injection e with _ e; exact e.symm
          have hcn : KS.count k ≤ KS.length := List.count_le_length
          rw [KLN.out] at hcn
          have hst := doneN_step N (oddAt KS) (fun i => left (ky i)) (fun i => left (ky i) && !(ky i).sameKey (ky k)) k hkN hlx (by simp [Go.WideAt.sameKey_self (ky_key k)]) (fun i hi => by simp [Go.Maps.sameKey_ne (ky_ne hi)])
          rw [HM.out] at hst
          have hif : (if oddAt KS k = true then 1 else 0) = KS.count k % 2 := by
            unfold oddAt; simp only [decide_eq_true_eq]; split <;> omega
          rw [hif] at hst
          have HST := Lib.hid hst
          have HRG := Lib.hid hrg1
          have HG := Lib.hid (HB0.out.grown hg1 hsw (fun i hi => by cases hi; omega))
          have HL1 := Lib.hid hlt1
          have HL2 := Lib.hid (hrg1.left_eq)
          have HL3 := Lib.hid (hrg.left_eq)
          have hs2 : w.heap.size ≤ w1.heap.size := by omega
          obtain ⟨m, hm⟩ : ∃ m, KS.count k = m := ⟨_, rfl⟩
          rw [hm] at hcn HST hen
          rw [hm]
          clear hst hif hrg1 hg1 hlx hat hwx hwc hxk hrg hlt1 hm
          go_wp2
          go_roundw
          case rel => exact ⟨_, cnt1, HRG.out, HG.out, hs2, by rw [HST.out]; go_num, fun kl h => HLF.out kl (by simp at h; exact h.1)⟩
          case measure => rw [HL2.out, HL3.out]; exact HL1.out
set_option maxHeartbeats 4000000 in
set_option maxRecDepth 100000 in
theorem no (s : ByteArray) (v : Value) (w : World) (hs : 4093 < s.size) (hm : s.size ≤ 140737488351232) :
    Calls Try.prog 5 #[.string s, v] w fun e w' => e = .returned (.bool true) ∧ Below w.heap.size w w' := by
  go_enter Try.func5, Try.ntmps5
  go_wp2_with fail
  refine (get_bad abc (by decide) (by decide) abc_bad _).mono ?_
  rintro e1 w1 ⟨rfl, rfl⟩
  go_wp2_with fail
  refine (put_no s hs hm _).mono ?_
  rintro e2 w2 ⟨rfl, rfl⟩
  go_wp2
  go_ret
  exact ⟨rfl, Below.refl _ _⟩
theorem law (s : ByteArray) (a : Option Addr) (n cap : Nat) (zs : List Int) (w : World) (hs0 : s.size ≤ maxLen) (hs : s.size ≤ 140737488351232) (hz : IsRow .i64 w a n cap zs) (hr : n ≤ cap ∧ cap * 8 ≤ 140737488351232) :
    Calls Try.prog 5 #[.string s, .slice a n cap] w fun e w' => e = .returned (.bool true) ∧ Below w.heap.size w w' := by
  obtain ⟨h5, h6⟩ := isRow_ints hz
  by_cases h : s.size ≤ 4093
  · exact yes s _ (zs.take n) w h h5 (by omega)
  · exact no s _ w (by omega) hs
set_option maxRecDepth 100000 in
theorem lifted (os : Os) (started : os.Started) (H : Type) (enc : TypeId × Value → H) :
    ReturnsInHanded {} Try.checked os 5 .any (Rows.crcFewSpec.pre6 enc Try.prog Try.f5 Rows.crcFewRow.domain false) (Rows.crcFewSpec.post enc Try.prog Try.f5 false true false false) := by
  refine returnsInHanded_of_change_sized (C := Try.checked) own started (by kernel_rfl) Try.func5
    (ChangeSpec.witness6 (enc := enc) (C := Try.checked) false ⟨#[], #[.string ByteArray.empty, .slice none 0 0], []⟩ 8 (by kernel_rfl) (by kernel_rfl) (by kernel_rfl) (by kernel_rfl)) ?_
  intro W base args ds gs before hval0 hW hcnd hsz0 _
  have hsz : (DataW.weightsEach Try.prog (Try.f5.params.toList ++ Rows.crcFewSpec.plain.varTypes Try.prog) (ds ++ gs)).all (· ≤ reachBytes) = true := hsz0
  have hval : ∀ (j : Nat) t v, Try.f5.params[j]? = some t → args[j]? = some v → Value.okWide Try.prog W .any base t v := hval0
  have hW' := hW
  obtain ⟨p, q, hA0, hV, rfl, hfz, hnd⟩ := hW
  have hA : DataW.TrodAll enc Try.prog W 0 (fun _ => true) true Try.f5.params.toList args.toList ds p := hA0
  rw [Try.params5] at hA hval hsz
  obtain ⟨v0, vs0, d0, ds0, p0, q0, hargs, rfl, rfl, h0, r0⟩ := trodAll_cons hA
  obtain ⟨v1, vs1, d1, ds1, p1, q1, rfl, rfl, rfl, h1, r1⟩ := trodAll_cons r0
  obtain ⟨rfl, rfl, rfl⟩ := trodAll_nil r1
  obtain rfl : args = #[v0, v1] := by cases args; simp_all
  obtain ⟨rfl, rfl⟩ := trodVars_none hV
  have k0 := h0
  have lt0 : ∀ x ∈ p0, x.block < W.heap.size := by obtain ⟨m, hm⟩ := k0; exact DataW.trod_lt m _ _ _ hm
  have k1 := h1
  have lt1 : ∀ x ∈ p1, x.block < W.heap.size := by obtain ⟨m, hm⟩ := k1; exact DataW.trod_lt m _ _ _ hm
  obtain ⟨a0, rfl, rfl, rfl, w0⟩ := Go.ChangeMaps.open_string Try.underlying9 (hval 0 9 v0 rfl rfl) h0
  have R0 : a0.size ≤ 140737488351232 := by have := sized_string hsz (j := 0) (t := 9) (bytes := a0.data.toList) rfl rfl; simpa [reachBytes] using this
  obtain ⟨sa1, sl1, sc1, rfl⟩ := okWide_slice Try.underlying44 (hval 1 44 v1 rfl rfl)
  obtain ⟨a1, len1, cap1, z1, e1, w1⟩ := leaf_ints (Try.underlying44) (Try.underlying3) (by kernel_rfl) (by obtain ⟨fuel, hf⟩ := h1; exact ⟨fuel, _, by simpa [Value.cells] using hf⟩)
  simp only [Value.slice.injEq] at e1
  obtain ⟨rfl, rfl, rfl⟩ := e1
  have R1 := cap_le (B := 8) Try.underlying44 k1 (fun elems spare hd => by have := sized_slice hsz (j := 1) (t := 44) (e := 3) (elems := elems) (spare := spare) rfl (by rw [← hd]; rfl) Try.underlying44; exact this)
  clear hA0 hval0
  refine (law a0 sa1 sl1 sc1 z1 W w0 R0 w1 R1).mono fun e W' ⟨he, bel⟩ => ?_
  subst he
  exact ⟨_, rfl, _, _, _, [], _, [], hW', trodAll_mk1 (shut_bool Try.underlying4 _), (trodAll_cons_mk (Below.trod laidOut (by kernel_rfl) (of_decide_eq_true (by kernel_rfl)) k0 bel lt0) (trodAll_cons_mk (Below.trod laidOut (by kernel_rfl) (of_decide_eq_true (by kernel_rfl)) k1 bel lt1) trodAll_mk0)), rfl, bel.frame _, fun h => by cases h⟩
theorem over : Rows.crcFewRow.holds Try.pinned (OpenSpec.ofChange Rows.crcFewSpec) :=
  OpenClaim.holds_of_wide 5 Try.f5 rfl rfl rfl rfl rfl rfl rfl ⟨rfl, rfl, rfl, rfl, rfl⟩ rfl rfl rfl rfl rfl (by kernel_rfl) Try.func5 (by kernel_rfl)
    (of_decide_eq_true (by kernel_rfl)) (by unfold Func.isWrapper; first | (rw [if_pos (by decide +kernel)]; kernel_rfl) | (rw [if_neg (by decide +kernel)]; exact ⟨rfl, rfl⟩))
    (fun os started H enc _ => lifted os started H enc)
theorem proved : Rows.CrcFewSaid := over
#print axioms proved

end Go.Proofs.Ytijoalaijkobpaa.crcFew
