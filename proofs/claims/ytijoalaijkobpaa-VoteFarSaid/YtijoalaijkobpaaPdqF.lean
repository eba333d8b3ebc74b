/- slices.Sort at []int32. -/
import Derived.Test.YtijoalaijkobpaaPdqE
namespace Go.Proofs.Ytijoalaijkobpaa
open Go.ChangeShapes Go.WideShapes Go.ChangeAt Go.RowKit
set_option linter.unusedVariables false

namespace S32
/-- all but what lies in the range [a, e) is in order -/
structure Out (lo hi a e : Nat) (M : List Int) : Prop where
  la : lo ≤ a
  ae : a ≤ e
  eh : e ≤ hi
  ord : ∀ i j, lo ≤ i → i < j → j < hi → (i < a ∨ e ≤ j) → M.getD i 0 ≤ M.getD j 0
theorem Out.start {lo hi : Nat} {M : List Int} (h : lo ≤ hi) : Out lo hi lo hi M := ⟨Nat.le_refl _, h, Nat.le_refl _, fun i j h1 h2 h3 h4 => by omega⟩
theorem Out.fin {lo hi a e : Nat} {M : List Int} (h : Out lo hi a e M) (s : SortedOn M a e) : SortedOn M lo hi := by
  intro i j h1 h2 h3
  by_cases c : i < a ∨ e ≤ j
  · exact h.ord i j h1 h2 h3 c
  · exact s i j (by omega) h2 (by omega)
theorem Out.sw {lo hi a e : Nat} {M N : List Int} (h : Out lo hi a e M) (hs : Sw a e M N) (hl : e ≤ M.length) : Out lo hi a e N := by
  refine ⟨h.la, h.ae, h.eh, fun i j h1 h2 h3 h4 => ?_⟩
  by_cases ia : i < a
  · rw [hs.offD i (.inl ia)]
    by_cases ja : a ≤ j ∧ j < e
    · exact hs.all hl (fun x => M.getD i 0 ≤ x) (fun k k1 k2 => h.ord i k h1 (by omega) (by have := h.eh; omega) (.inl ia)) j ja.1 ja.2
    · rw [hs.offD j (by omega)]; exact h.ord i j h1 h2 h3 h4
  · have je : e ≤ j := by omega
    rw [hs.offD j (.inr je)]
    by_cases ie : i < e
    · exact hs.all hl (fun x => x ≤ M.getD j 0) (fun k k1 k2 => h.ord k j (by have := h.la; omega) (by omega) h3 (.inr je)) i (by omega) ie
    · rw [hs.offD i (.inr (by omega))]; exact h.ord i j h1 h2 h3 h4
theorem Parted.left {a e m : Nat} {L M N : List Int} (p : Parted a e m L M) (hs : Sw a m M N) (he : e ≤ M.length) : Parted a e m L N := by
  have := p.me
  refine ⟨p.sw.trans (hs.mono (Nat.le_refl _) (by omega)), p.am, p.me, fun k k1 k2 => ?_, fun k k1 k2 => ?_⟩
  · rw [hs.offD m (.inr (Nat.le_refl _))]
    exact hs.all (by omega) (fun x => x ≤ M.getD m 0) p.lo k k1 k2
  · rw [hs.offD m (.inr (Nat.le_refl _)), hs.offD k (.inr (by omega))]
    exact p.hi k k1 k2
theorem Parted.right {a e m : Nat} {L M N : List Int} (p : Parted a e m L M) (hs : Sw (m + 1) e M N) (he : e ≤ M.length) : Parted a e m L N := by
  have := p.me; have := p.am
  refine ⟨p.sw.trans (hs.mono (by omega) (Nat.le_refl _)), p.am, p.me, fun k k1 k2 => ?_, fun k k1 k2 => ?_⟩
  · rw [hs.offD m (.inl (by omega)), hs.offD k (.inl (by omega))]
    exact p.lo k k1 k2
  · rw [hs.offD m (.inl (by omega))]
    exact hs.all he (fun x => M.getD m 0 ≤ x) (fun k k1 k2 => p.hi k (by omega) k2) k (by omega) k2
theorem Out.left {lo hi a e m : Nat} {L M : List Int} (h : Out lo hi a e M) (p : Parted a e m L M) (s : SortedOn M a m) : Out lo hi (m + 1) e M := by
  have := p.me; have := p.am
  refine ⟨by have := h.la; omega, by omega, h.eh, fun i j h1 h2 h3 h4 => ?_⟩
  by_cases c : i < a ∨ e ≤ j
  · exact h.ord i j h1 h2 h3 c
  · by_cases jm : j < m
    · exact s i j (by omega) h2 jm
    · by_cases jm2 : j = m
      · subst jm2; exact p.lo i (by omega) h2
      · have h5 := p.hi j (by omega) (by omega)
        by_cases im : i = m
        · subst im; exact h5
        · exact Int.le_trans (p.lo i (by omega) (by omega)) h5
theorem Out.right {lo hi a e m : Nat} {L M : List Int} (h : Out lo hi a e M) (p : Parted a e m L M) (s : SortedOn M (m + 1) e) : Out lo hi a m M := by
  have := p.me; have := p.am; have := h.eh
  refine ⟨h.la, by omega, by omega, fun i j h1 h2 h3 h4 => ?_⟩
  by_cases c : i < a ∨ e ≤ j
  · exact h.ord i j h1 h2 h3 c
  · by_cases im : m < i
    · exact s i j (by omega) h2 (by omega)
    · by_cases im2 : i = m
      · subst im2; exact p.hi j h2 (by omega)
      · have h5 := p.lo i (by omega) (by omega)
        by_cases jm : j = m
        · subst jm; exact h5
        · exact Int.le_trans h5 (p.hi j (by omega) (by omega))
theorem Low.left {a e m : Nat} {L M : List Int} (p : Parted a e m L M) : Low M (m + 1) e := .inr (fun k k1 k2 => by rw [Nat.add_sub_cancel]; exact p.hi k (by omega) k2)
theorem Low.part {a e m : Nat} {M : List Int} (h : Low M a e) (hm : m ≤ e) : Low M a m := by
  rcases h with h | h
  · exact .inl h
  · exact .inr (fun k k1 k2 => h k k1 (by omega))
theorem Out.equal {lo hi a e m : Nat} {p : Int} {L M : List Int} (h : Out lo hi a e L) (q : PartedE a e m p L M) (hl : e ≤ L.length) (hw : Low L a e) (ha : 0 < a) (hp : p ≤ L.getD (a - 1) 0) : Out lo hi m e M ∧ Low M m e := by
  have hO := h.sw q.sw hl
  have hW := hw.sw q.sw hl
  have hp' : p ≤ M.getD (a - 1) 0 := by rw [q.sw.offD _ (.inl (by omega))]; exact hp
  have am := q.am; have me := q.me
  have hW2 : ∀ k, a ≤ k → k < e → p ≤ M.getD k 0 := by
    rcases hW with h0 | h0
    · omega
    · exact fun k k1 k2 => Int.le_trans hp' (h0 k k1 k2)
  refine ⟨⟨by have := h.la; omega, me, h.eh, fun i j h1 h2 h3 h4 => ?_⟩, .inr (fun k k1 k2 => ?_)⟩
  · by_cases c : i < a ∨ e ≤ j
    · exact hO.ord i j h1 h2 h3 c
    · exact Int.le_trans (q.lo i (by omega) (by omega)) (hW2 j (by omega) (by omega))
  · have := q.hi k k1 k2
    have := q.lo (m - 1) (by omega) (by omega)
    omega
def PdRel (w0 : World) (b lo hi : Nat) (L : List Int) (sa se sl s8 s9 : Value) (w : World) : Prop := ∃ (a e : Nat) (lim : Int) (wb wp : Bool) (M : List Int), sa = .int .i64 a ∧ se = .int .i64 e ∧ sl = .int .i64 lim ∧ s8 = .bool wb ∧ s9 = .bool wp ∧ Row w0 w b M ∧ Sw lo hi L M ∧ Out lo hi a e M ∧ Low M a e
/-- a range's numbers are moved within it -/
structure St (w0 : World) (b lo hi a e : Nat) (L M : List Int) (w : World) : Prop where
  row : Row w0 w b M
  sw : Sw lo hi L M
  out : Out lo hi a e M
  low : Low M a e
theorem St.step {w0 w w' : World} {b lo hi a e : Nat} {L M N : List Int} (h : St w0 b lo hi a e L M w) (hl : hi ≤ L.length) (r : Row w w' b N) (s : Sw a e M N) : St w0 b lo hi a e L N w' := by
  have he : e ≤ M.length := by rw [h.sw.len]; exact Nat.le_trans h.out.eh hl
  exact ⟨h.row.trans r, h.sw.trans (s.mono h.out.la h.out.eh), h.out.sw s he, h.low.sw s he⟩
def PdCut (w0 : World) (b lo hi a e : Nat) (L : List Int) (w : World) : Prop := ∃ M, St w0 b lo hi a e L M w
set_option maxHeartbeats 8000000 in
set_option maxRecDepth 100000 in
theorem pdq_is (n : Nat) : ∀ (b cap lo hi : Nat) (lim : Int) (L : List Int) (w : World), hi - lo ≤ n → L.length ≤ 64 → CellsAt w b (vals L) → lo ≤ hi → hi ≤ L.length → Low L lo hi →
    Calls Try.prog 40 #[.slice (some ⟨b, 0, none⟩) L.length cap, .int .i64 lo, .int .i64 hi, .int .i64 lim] w (InsPost w b lo hi L) := by
  induction n with
  | zero => exact fun b cap lo hi lim L w hn hL h hlh hhi _ => pdq12 b cap lo hi lim L w hL h hlh hhi (by omega)
  | succ n ih =>
  intro b cap lo hi lim L w hn hL h hlh hhi hlow
  have HS : Hid (St w b lo hi lo hi L L w) := ⟨Row.start h, .refl, .start hlh, hlow⟩
  have IH := Lib.hid ih
  clear h hlow ih
  go_enter Try.func40, Try.ntmps40
  go_wp2_with fail
  go_loopw [1, 2, 3, 8, 9] (fun sa se sl s8 s9 wr => PdRel w b lo hi L sa se sl s8 s9 wr) (fun sa se _ _ _ _ => (intOf se).toNat - (intOf sa).toNat)
  case atStart => exact ⟨lo, hi, lim, true, true, L, rfl, rfl, rfl, rfl, rfl, HS.out.row, HS.out.sw, HS.out.out, HS.out.low⟩
  case round =>
    obtain ⟨a, e, lim, wb, wp, M, rfl, rfl, rfl, rfl, rfl, hR, hS, hO, hW⟩ := hrel
    clear HS
    have HT : Hid (St w b lo hi a e L M wr) := ⟨hR, hS, hO, hW⟩
    have hla := hO.la; have hae := hO.ae; have heh := hO.eh
    have hml := hS.len
    have HML := Lib.hid hml
    clear hR hS hO hW hml
    by_cases h12 : e - a ≤ 12
    · have d12 : (e : Int) - (a : Int) ≤ 12 := by omega
      go_wp2_with fail
      rw [← HML.out]
      refine (insertion b cap a e M _ (by have := HML.out; omega) HT.out.row.c hae (by have := HML.out; omega)).mono ?_
      rintro e1 w1 ⟨rfl, N, hR1, hS1, hO1⟩
      rw [HML.out]
      have HT1 := Lib.hid (HT.out.step hhi hR1 hS1)
      have HO1 := Lib.hid hO1
      clear hR1 hS1 hO1 HT HML
      go_wp2
      go_end0
      exact ⟨rfl, N, HT1.out.row, HT1.out.sw, HT1.out.out.fin HO1.out⟩
    · have d12 : decide ((e : Int) - (a : Int) ≤ 12) = false := decide_eq_false (by omega)
      obtain ⟨l, hl⟩ : ∃ l, e = a + l := ⟨e - a, by omega⟩
      have HLE := Lib.hid hl
      have hli : (e : Int) - (a : Int) = (l : Int) := by omega
      have HLI := Lib.hid hli
      clear hl hli
      go_upto_region 3 with (fail)
      rw [HLI.out]
      have l12 : 12 < l := by have := HLE.out; omega
      have l64 : l ≤ 64 := by have := HLE.out; omega
      have HAE := Lib.hid (show a + 12 < e by omega)
      clear d12 h12 hae
      by_cases lim0 : lim = 0
      · subst lim0
        go_wp2_with fail
        rw [← HML.out]
        refine (heapSort_is b cap a e M _ (by have := HML.out; omega) HT.out.row.c (by have := HAE.out; omega) (by have := HML.out; omega)).mono ?_
        rintro e1 w1 ⟨rfl, N, hR1, hS1, hO1⟩
        rw [HML.out]
        have HT1 := Lib.hid (HT.out.step hhi hR1 hS1)
        have HO1 := Lib.hid hO1
        clear hR1 hS1 hO1 HT HML
        go_wp2
        go_end0
        exact ⟨rfl, N, HT1.out.row, HT1.out.sw, HT1.out.out.fin HO1.out⟩
      · have hlim : (lim == 0) = false := by simpa using lim0
        go_upto_if 35 with (fail)
        go_cut [3] (fun sl wx => ∃ lim' : Int, sl = .int .i64 lim' ∧ PdCut w b lo hi a e L wx)
        case first =>
          cases wb with
          | false =>
            go_wp2_with fail
            rw [← HML.out]
            refine (break_is b cap a e M _ (by have := HML.out; omega) HT.out.row.c HAE.out (by have := HML.out; omega)).mono ?_
            rintro e1 w1 ⟨rfl, N, hR1, hS1⟩
            rw [HML.out]
            have HT1 := Lib.hid (HT.out.step hhi hR1 hS1)
            clear hR1 hS1 HT HML
            go_wp2
            go_meet
            exact ⟨_, rfl, N, HT1.out⟩
          | true =>
            go_wp2
            go_meet
            exact ⟨_, rfl, M, HT.out⟩
        case rest =>
          obtain ⟨lim', rfl, M1, hT⟩ := hcut
          clear HT HML hlim lim0
          have HT := Lib.hid hT
          have HML := Lib.hid hT.sw.len
          clear hT
          go_wp2_with fail
          rw [← HML.out]
          refine (choose_is b cap a e M1 _ (by have := HML.out; omega) HT.out.row.c HAE.out (by have := HML.out; omega)).mono ?_
          rintro e1 w1 ⟨r, t, rfl, hr1, hr2, hR1⟩
          rw [HML.out]
          have HT1 := Lib.hid (HT.out.step hhi hR1 .refl)
          clear hR1 HT
          go_upto_if 50 with (fail)
          go_cut [11, 12] (fun s11 s12 wx => ∃ (r : Nat) (t : Int), s11 = .int .i64 r ∧ s12 = .int .i64 t ∧ (a ≤ r ∧ r < e) ∧ PdCut w b lo hi a e L wx)
          case first =>
            by_cases t2 : t = 2
            · subst t2
              go_wp2_with fail
              rw [← HML.out]
              refine (reverse_is b cap a e M1 _ (by have := HML.out; omega) HT1.out.row.c (by have := HAE.out; omega) (by have := HML.out; omega)).mono ?_
              rintro e2 w2 ⟨rfl, N, hR1, hS1⟩
              rw [HML.out]
              have HT2 := Lib.hid (HT1.out.step hhi hR1 hS1)
              clear hR1 hS1 HT1 HML
              go_wp2
              go_meet
              exact ⟨e - 1 - (r - a), 1, by congr 1; omega, rfl, ⟨by omega, by omega⟩, N, HT2.out⟩
            · have hm2 : (t == 2) = false := by simpa using t2
              go_wp2
              go_meet
              exact ⟨r, t, rfl, rfl, ⟨hr1, hr2⟩, M1, HT1.out⟩
          case rest =>
            obtain ⟨r, t, rfl, rfl, ⟨hr1, hr2⟩, M2, hT⟩ := hcut
            clear HT1 HML
            have HT := Lib.hid hT
            clear hT
            go_upto_region 15 with (fail)
            go_cut [68] (fun s wx => ∃ f : Bool, s = .bool f ∧ PdCut w b lo hi a e L wx)
            case first =>
              by_cases t1 : t = 1
              · subst t1
                cases wb <;> cases wp <;> (go_wp2; go_meet; exact ⟨_, rfl, M2, HT.out⟩)
              · have hm1 : (t == 1) = false := by simpa using t1
                cases wb <;> cases wp <;> (go_wp2; go_meet; exact ⟨false, rfl, M2, HT.out⟩)
            case rest =>
              obtain ⟨f, rfl, M3, hT⟩ := hcut
              clear HT
              have HT := Lib.hid hT
              have HML := Lib.hid hT.sw.len
              clear hT
              go_upto_if 68 with (fail)
              go_cut [] (fun wx => PdCut w b lo hi a e L wx)
              case first =>
                cases f with
                | true =>
                  go_wp2_with fail
                  rw [← HML.out]
                  refine (partial_is b cap a e M3 _ (by have := HML.out; omega) HT.out.row.c HAE.out (by have := HML.out; omega) HT.out.low).mono ?_
                  rintro e2 w2 ⟨f2, N, rfl, hR1, hS1, hO1⟩
                  rw [HML.out]
                  have HT2 := Lib.hid (HT.out.step hhi hR1 hS1)
                  have HO2 := Lib.hid hO1
                  clear hR1 hS1 hO1 HT HML
                  cases f2 with
                  | true =>
                    go_wp2
                    go_end0
                    exact ⟨rfl, N, HT2.out.row, HT2.out.sw, HT2.out.out.fin (by first | exact HO2.out rfl | exact HO2.out trivial | exact HO2.out)⟩
                  | false =>
                    go_wp2
                    go_meet
                    exact ⟨N, HT2.out⟩
                | false =>
                  go_wp2
                  go_meet
                  exact ⟨M3, HT.out⟩
              case rest =>
                obtain ⟨M4, hT⟩ := hcut
                clear HT HML
                have HT := Lib.hid hT
                have HML := Lib.hid hT.sw.len
                clear hT
                go_upto_region 17 with (fail)
                go_cut [87] (fun s wx => ∃ (f : Bool) (M : List Int), s = .bool f ∧ St w b lo hi a e L M wx ∧ (f = true → 0 < a ∧ M.getD r 0 ≤ M.getD (a - 1) 0))
                case first =>
                  by_cases a0 : a = 0
                  · subst a0
                    go_wp2
                    go_region
                    go_wp2
                    go_meet
                    have HTD : Hid (St w b lo hi 0 e L M4 wc.drew) := ⟨HT.out.row.drew, HT.out.sw, HT.out.out, HT.out.low⟩
                    first | exact ⟨false, M4, rfl, HT.out, fun h => by cases h⟩ | exact ⟨false, M4, rfl, HTD.out, fun h => by cases h⟩
                  · have HLR := Lib.hid (show a - 1 < L.length ∧ r < L.length by have := HAE.out; omega)
                    have c1 := val_cell HT.out.row.c (a - 1) (by have := HML.out; have := HLR.out; omega)
                    have c2 := val_cell HT.out.row.c r (by have := HML.out; have := HLR.out; omega)
                    obtain ⟨x, hx⟩ : ∃ x, M4.getD (a - 1) 0 = x := ⟨_, rfl⟩
                    obtain ⟨y, hy⟩ : ∃ y, M4.getD r 0 = y := ⟨_, rfl⟩
                    rw [hx] at c1
                    rw [hy] at c2
                    have HX := Lib.hid hx; have HY := Lib.hid hy
                    have g0 : 0 < a := by omega
                    have g1 : IntKind.i64.wrap ((a : Int) - 1) = (a : Int) - 1 := IntWalk.i64_in _ (by omega)
                    have g3 : ((a : Int) - 1).toNat = a - 1 := by omega
                    have g4 : (a : Int) - 1 < (L.length : Int) := by have := HLR.out; omega
                    have g5 : (r : Int) < (L.length : Int) := by have := HLR.out; omega
                    have g6 : (0 : Int) ≤ (a : Int) - 1 := by omega
                    have HTD : ∀ k, St w b lo hi a e L M4 (wc.drewN k) := fun k => ⟨HT.out.row.drewN k, HT.out.sw, HT.out.out, HT.out.low⟩
                    have HTD' := Lib.hid HTD
                    clear hx hy HTD
                    by_cases hxy : x < y
                    · have hd : decide (x < y) = true := decide_eq_true hxy
                      go_wp2_with fail
                      go_quiet ((go_at_call 49; exact quietL (less x y _)))
                      go_wp2
                      go_meet
                      exact ⟨false, M4, rfl, HTD'.out _, fun h => by cases h⟩
                    · have hd : decide (x < y) = false := decide_eq_false hxy
                      go_wp2_with fail
                      go_quiet ((go_at_call 49; exact quietL (less x y _)))
                      go_wp2
                      go_meet
                      exact ⟨true, M4, rfl, HTD'.out _, fun _ => ⟨by omega, by rw [HX.out, HY.out]; omega⟩⟩
                case rest =>
                  obtain ⟨f, M5, rfl, hT, hF⟩ := hcut
                  clear HT HML
                  have HT := Lib.hid hT
                  have HML := Lib.hid hT.sw.len
                  cases f with
                  | true =>
                    have HF := Lib.hid (hF rfl)
                    clear hT hF
                    go_wp2_with fail
                    rw [← HML.out]
                    refine (partitionEq_is b cap a e r M5 _ (by have := HML.out; omega) HT.out.row.c (by have := HAE.out; omega) (by have := HML.out; omega) hr1 hr2).mono ?_
                    rintro e2 w2 ⟨m, N, rfl, hR1, hP⟩
                    rw [HML.out]
                    have HT2 := Lib.hid (HT.out.step hhi hR1 hP.sw)
                    have HO2 := Lib.hid (HT.out.out.equal hP (by have := HML.out; omega) HT.out.low HF.out.1 HF.out.2)
                    have HP := Lib.hid (And.intro hP.am hP.me)
                    clear hR1 hP HT HML HF
                    go_wp2
                    go_roundw
                    case rel => exact ⟨m, e, lim', wb, wp, N, rfl, rfl, rfl, rfl, rfl, HT2.out.row, HT2.out.sw, HO2.out.1, HO2.out.2⟩
                    case measure => have := HP.out; have := HAE.out; simp only [intOf, Int.toNat_natCast]; omega
                  | false =>
                    clear hT hF
                    go_wp2_with fail
                    rw [← HML.out]
                    refine (partition_is b cap a e r M5 _ (by have := HML.out; omega) HT.out.row.c (by have := HAE.out; omega) (by have := HML.out; omega) hr1 hr2).mono ?_
                    rintro e2 w2 ⟨m, f2, N, rfl, hR1, hP⟩
                    rw [HML.out]
                    have HT2 := Lib.hid (HT.out.step hhi hR1 hP.sw)
                    have HP := Lib.hid hP
                    have ham := hP.am; have hme := hP.me
                    clear hR1 hP HT HML
                    have HML := Lib.hid HT2.out.sw.len
                    have HME := Lib.hid (show m ≤ e ∧ e ≤ L.length by omega)
                    by_cases hlr : m - a < e - m
                    · have hlr' : (m : Int) - (a : Int) < (e : Int) - (m : Int) := by omega
                      go_wp2_with fail
                      rw [← HML.out]
                      refine (IH.out b cap a m lim' N _ (by have := HAE.out; omega) (by have := HML.out; omega) HT2.out.row.c ham (by have := HML.out; have := HME.out; omega) (HT2.out.low.part HME.out.1)).mono ?_
                      rintro e3 w3 ⟨rfl, O, hR3, hS3, hO3⟩
                      rw [HML.out]
                      have HT3 := Lib.hid (HT2.out.step hhi hR3 (hS3.mono (Nat.le_refl _) HME.out.1))
                      have HP3 := Lib.hid (HP.out.left hS3 (by have := HML.out; have := HME.out; omega))
                      have HO3 := Lib.hid hO3
                      clear hR3 hS3 hO3 HT2 HP HML
                      go_wp2
                      go_roundw
                      case rel => exact ⟨m + 1, e, lim', _, f2, O, by go_num, rfl, rfl, rfl, rfl, HT3.out.row, HT3.out.sw, HT3.out.out.left HP3.out HO3.out, Low.left HP3.out⟩
                      case measure => have := HAE.out; first | (simp only [intOf, Int.toNat_natCast]; omega) | (simp [intOf]; omega)
                    · have hlr' : (e : Int) - (m : Int) ≤ (m : Int) - (a : Int) := by omega
                      obtain ⟨m1, hm1⟩ : ∃ m1, m1 = m + 1 := ⟨_, rfl⟩
                      have HM1 := Lib.hid hm1
                      have HM2 := Lib.hid (show (m : Int) + 1 = (m1 : Int) by omega)
                      have HM3 := Lib.hid (show m1 ≤ e by omega)
                      clear hm1
                      go_wp2_with fail
                      rw [← HML.out, HM2.out]
                      refine (IH.out b cap m1 e lim' N _ (by have := HAE.out; have := HM1.out; omega) (by have := HML.out; omega) HT2.out.row.c HM3.out (by have := HML.out; have := HME.out; omega) (by rw [HM1.out]; exact Low.left HP.out)).mono ?_
                      rintro e3 w3 ⟨rfl, O, hR3, hS3, hO3⟩
                      rw [HML.out]
                      have HT3 := Lib.hid (HT2.out.step hhi hR3 (hS3.mono (by have := HM1.out; omega) (Nat.le_refl _)))
                      have HP3 := Lib.hid (HP.out.right (by rw [← HM1.out]; exact hS3) (by have := HML.out; have := HME.out; omega))
                      have HO3 : Hid (SortedOn O (m + 1) e) := by rw [← HM1.out]; exact hO3
                      clear hR3 hS3 hO3 HT2 HP HML
                      go_wp2
                      go_roundw
                      case rel => exact ⟨a, m, lim', _, f2, O, rfl, rfl, rfl, rfl, rfl, HT3.out.row, HT3.out.sw, HT3.out.out.right HP3.out HO3.out, HT3.out.low.part HME.out.1⟩
                      case measure => have := HAE.out; first | (simp only [intOf, Int.toNat_natCast]; omega) | (simp [intOf]; omega)
theorem sort_is (b cap : Nat) (L : List Int) (w : World) (hL : L.length ≤ 64) (h : CellsAt w b (vals L)) :
    Calls Try.prog 32 #[.slice (some ⟨b, 0, none⟩) L.length cap] w (InsPost w b 0 L.length L) := by
  have HC := Lib.hid h
  have l64 : (L.length : Int) ≤ 64 := by omega
  clear h
  go_enter Try.func32, Try.ntmps32
  go_wp2_with fail
  refine (len L.length _ (by omega)).mono ?_
  rintro e1 w1 ⟨rfl, rfl⟩
  go_wp2_with fail
  refine (pdq_is _ b cap 0 L.length _ L _ (Nat.le_refl _) (by omega) HC.out (by omega) (Nat.le_refl _) (.inl rfl)).mono ?_
  rintro e1 w1 ⟨rfl, hM⟩
  go_wp2
  go_end0
  exact ⟨rfl, hM⟩
end S32

end Go.Proofs.Ytijoalaijkobpaa
