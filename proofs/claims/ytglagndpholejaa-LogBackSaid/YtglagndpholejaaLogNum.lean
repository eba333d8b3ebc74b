/- A number at the front of a text: the plain law of digits, and what log.number computes. -/
import Derived.Test.YtglagndpholejaaLogText
import Derived.Lib.ConvBytes
import Derived.OwnWalk
namespace Go.Proofs.Ytglagndpholejaa
open Go.ChangeShapes Go.WideShapes Go.ChangeAt Go.RowKit
set_option linter.unusedVariables false

abbrev isDg (b : UInt8) : Prop := 48 ≤ b.toNat ∧ b.toNat ≤ 57
theorem digB_nat {k : Nat} (h : k < 10) : (digB k).toNat = 48 + k := by
  unfold digB
  rw [UInt8.toNat_ofNat']
  omega
theorem digB_of {b : UInt8} (h : isDg b) : b = digB (b.toNat - 48) := by
  apply UInt8.toNat_inj.1
  rw [digB_nat (by omega)]
  omega
theorem digL_dg (n : Nat) : ∀ b ∈ digL n, isDg b := by
  induction n using Nat.strongRecOn with
  | _ n ih =>
    intro b hb
    by_cases h : n < 10
    · rw [digL_lt h] at hb
      obtain rfl := List.mem_singleton.1 hb
      have := digB_nat h
      unfold isDg; omega
    · rw [digL_ge h] at hb
      rcases List.mem_append.1 hb with hb | hb
      · exact ih _ (by omega) b hb
      · obtain rfl := List.mem_singleton.1 hb
        have := digB_nat (show n % 10 < 10 by omega)
        unfold isDg; omega
theorem digL_pos (n : Nat) : 0 < (digL n).length := by
  by_cases h : n < 10
  · rw [digL_lt h]; exact Nat.one_pos
  · rw [digL_ge h, List.length_append]; show 0 < _ + 1; omega
/-- no zero ahead -/
theorem digL_head (n : Nat) : n ≠ 0 → (digL n).getD 0 0 ≠ 48 := by
  induction n using Nat.strongRecOn with
  | _ n ih =>
    intro h0
    by_cases h : n < 10
    · rw [digL_lt h]
      intro e
      have e' : digB n = 48 := e
      have := digB_nat h
      rw [e'] at this
      have : (48 : UInt8).toNat = 48 := rfl
      omega
    · rw [digL_ge h]
      have h1 := ih (n / 10) (by omega) (by omega)
      have h2 := digL_pos (n / 10)
      intro e
      apply h1
      rw [← e, List.getD_eq_getElem?_getD, List.getD_eq_getElem?_getD, List.getElem?_append_left h2]
/-- the value of a text of digits -/
def valL (l : List UInt8) : Nat := l.foldl (fun a b => 10 * a + (b.toNat - 48)) 0
theorem valL_snoc (l : List UInt8) (b : UInt8) : valL (l ++ [b]) = 10 * valL l + (b.toNat - 48) := by
  unfold valL; rw [List.foldl_append]; rfl
theorem valL_dig (n : Nat) : valL (digL n) = n := by
  induction n using Nat.strongRecOn with
  | _ n ih =>
    by_cases h : n < 10
    · rw [digL_lt h]
      have e : valL [digB n] = 10 * 0 + ((digB n).toNat - 48) := rfl
      rw [e, digB_nat h]; omega
    · rw [digL_ge h, valL_snoc, ih _ (by omega), digB_nat (by omega)]; omega
theorem valL_lt (l : List UInt8) (h : ∀ b ∈ l, isDg b) : ∀ k, k ≤ l.length → valL (l.take k) < 10 ^ k := by
  intro k
  induction k with
  | zero => intro _; simp [valL]
  | succ k ih =>
    intro hk
    rw [List.take_succ_eq_append_getElem (by omega), valL_snoc, Nat.pow_succ]
    have := ih (by omega)
    have h2 : isDg l[k] := h _ (List.getElem_mem _)
    have h3 := h2.2
    omega
theorem canon : ∀ (m : Nat) (l : List UInt8), l.length = m → 0 < l.length → (∀ b ∈ l, isDg b) → (1 < l.length → l.getD 0 0 ≠ 48) → l = digL (valL l) := by
  intro m
  induction m with
  | zero => intro l h1 h2; omega
  | succ m ih =>
    intro l h1 h2 h3 h4
    obtain ⟨q, b, rfl⟩ : ∃ q b, l = q ++ [b] := ⟨l.dropLast, l.getLast (List.ne_nil_of_length_pos h2), (List.dropLast_concat_getLast _).symm⟩
    have hb : isDg b := h3 b (by simp)
    rw [valL_snoc]
    rcases Nat.eq_zero_or_pos q.length with h0 | h0
    · obtain rfl := List.eq_nil_of_length_eq_zero h0
      have e : 10 * valL ([] : List UInt8) + (b.toNat - 48) = b.toNat - 48 := by simp [valL]
      rw [e, digL_lt (by have := hb.2; omega), ← digB_of hb]; rfl
    · have hq0 : (q ++ [b]).getD 0 0 = q.getD 0 0 := by
        rw [List.getD_eq_getElem?_getD, List.getD_eq_getElem?_getD, List.getElem?_append_left h0]
      have h5 : q.getD 0 0 ≠ 48 := by rw [← hq0]; exact h4 (by simp; omega)
      have e := ih q (by simp at h1; omega) h0 (fun x hx => h3 x (by simp [hx])) (fun _ => h5)
      have hv : valL q ≠ 0 := by
        intro hv
        rw [hv, digL_lt (by decide)] at e
        apply h5
        rw [e]; rfl
      have hb2 := hb.2
      have hb1 := hb.1
      rw [digL_ge (by omega), show (10 * valL q + (b.toNat - 48)) / 10 = valL q by omega, show (10 * valL q + (b.toNat - 48)) % 10 = b.toNat - 48 by omega, ← e, ← digB_of hb]
/-- the first of a mark that is no digit -/
theorem idx_at (c : UInt8) (r : List UInt8) : ∀ p : List UInt8, c ∉ p → Lib.indexByte (p ++ c :: r) c = (p.length : Int) := by
  intro p
  induction p with
  | nil => intro _; simp [Lib.indexByte]
  | cons b p ih =>
    intro h
    have h1 : (b == c) = false := by
      rw [beq_eq_false_iff_ne]; intro e; exact h (by rw [e]; exact List.mem_cons_self ..)
    have h2 := ih (fun hm => h (List.mem_cons_of_mem _ hm))
    show Lib.indexByte (b :: (p ++ c :: r)) c = _
    unfold Lib.indexByte
    rw [h1, h2]
    have h3 : ((p.length : Int) == -1) = false := by rw [beq_eq_false_iff_ne]; omega
    rw [h3]
    simp
theorem idx_no (c : UInt8) : ∀ l : List UInt8, c ∉ l → Lib.indexByte l c = -1 := by
  intro l
  induction l with
  | nil => intro _; rfl
  | cons b p ih =>
    intro h
    have h1 : (b == c) = false := by
      rw [beq_eq_false_iff_ne]; intro e; exact h (by rw [e]; exact List.mem_cons_self ..)
    have h2 := ih (fun hm => h (List.mem_cons_of_mem _ hm))
    unfold Lib.indexByte
    rw [h1, h2]
    rfl
theorem split_at {c : UInt8} : ∀ {p q a b : List UInt8}, c ∉ p → c ∉ q → p ++ c :: a = q ++ c :: b → p = q ∧ a = b := by
  intro p
  induction p with
  | nil =>
    intro q a b _ hq e
    cases q with
    | nil => exact ⟨rfl, by simpa using e⟩
    | cons x q => simp only [List.nil_append, List.cons_append, List.cons.injEq] at e; exact absurd (by rw [e.1]; exact List.mem_cons_self ..) hq
  | cons y p ih =>
    intro q a b hp hq e
    cases q with
    | nil => simp only [List.nil_append, List.cons_append, List.cons.injEq] at e; exact absurd (by rw [← e.1]; exact List.mem_cons_self ..) hp
    | cons x q =>
      simp only [List.cons_append, List.cons.injEq] at e
      obtain ⟨h1, h2⟩ := ih (fun h => hp (List.mem_cons_of_mem _ h)) (fun h => hq (List.mem_cons_of_mem _ h)) e.2
      exact ⟨by rw [e.1, h1], h2⟩
theorem dig_not {c : UInt8} (hc : ¬ isDg c) (n : Nat) : c ∉ digL n := fun h => hc (digL_dg n c h)
theorem dig_inj {c : UInt8} (hc : ¬ isDg c) {n m : Nat} {a b : List UInt8} (e : digL n ++ c :: a = digL m ++ c :: b) : n = m ∧ a = b := by
  obtain ⟨h1, h2⟩ := split_at (dig_not hc n) (dig_not hc m) e
  exact ⟨by rw [← valL_dig n, h1, valL_dig], h2⟩
/-- a number with a mark behind it, and the rest -/
def NumAt (L : List UInt8) (c : UInt8) (n : Nat) (r : List UInt8) : Prop := L = digL n ++ c :: r ∧ n < 10000000000
theorem num_no {c : UInt8} (hc : ¬ isDg c) {p r : List UInt8} (hp : c ∉ p) (h : p.length < 1 ∨ 10 < p.length ∨ (1 < p.length ∧ p.getD 0 0 = 48) ∨ ∃ b ∈ p, ¬ isDg b) : ∀ n r', ¬ NumAt (p ++ c :: r) c n r' := by
  rintro n r' ⟨e, hn⟩
  obtain ⟨rfl, -⟩ := split_at hp (dig_not hc n) e
  have h1 := digL_pos n
  have h2 := digL_len 10 n (by omega) (by decide)
  rcases h with h | h | ⟨h, h'⟩ | ⟨b, h, h'⟩
  · omega
  · omega
  · by_cases h0 : n = 0
    · subst h0; rw [digL_lt (by decide)] at h; exact absurd h (by decide)
    · exact digL_head n h0 h'
  · exact h' (digL_dg n b h)
theorem num_none {c : UInt8} {L : List UInt8} (h : c ∉ L) : ∀ n r', ¬ NumAt L c n r' := by
  rintro n r' ⟨e, -⟩
  exact h (by rw [e]; simp)
theorem num_yes {c : UInt8} {p r : List UInt8} (h0 : 0 < p.length) (h1 : p.length ≤ 10) (h2 : 1 < p.length → p.getD 0 0 ≠ 48) (h3 : ∀ b ∈ p, isDg b) : NumAt (p ++ c :: r) c (valL p) r := by
  refine ⟨by rw [← canon _ p rfl h0 h3 h2], ?_⟩
  have := valL_lt p h3 p.length (Nat.le_refl _)
  rw [List.take_length] at this
  exact Nat.lt_of_lt_of_le this (Nat.pow_le_pow_right (by decide) h1)
def NumPost (L : List UInt8) (cb : UInt8) (w : World) (e : Ending) (w' : World) : Prop :=
  ((∃ n r, NumAt L cb n r ∧ e = .returned (.tuple #[.int .i64 (n : Int), .string ⟨r.toArray⟩, .bool true])) ∨ ((∀ n r, ¬ NumAt L cb n r) ∧ e = .returned (.tuple #[.int .i64 0, .string ⟨#[]⟩, .bool false]))) ∧ Below w.heap.size w w'
theorem take_bd {p : List UInt8} {k : Nat} (h : ∀ b ∈ p.take k, isDg b) (h10 : k ≤ 10) : valL (p.take k) < 10000000000 := by
  have h1 := valL_lt (p.take k) h (p.take k).length (Nat.le_refl _)
  rw [List.take_length] at h1
  have h2 : (p.take k).length ≤ 10 := by simp; omega
  have h3 : 10 ^ (p.take k).length ≤ 10 ^ 10 := Nat.pow_le_pow_right (by decide) h2
  omega
theorem bytes_split {s : ByteArray} {p r : List UInt8} {c : UInt8} (h : s.data.toList = p ++ c :: r) : s.size = p.length + 1 + r.length ∧ (s.extract 0 p.length).data.toList = p ∧ s.extract (p.length + 1) s.size = ⟨r.toArray⟩ := by
  have h0 : s.size = p.length + 1 + r.length := by
    have : s.size = s.data.toList.length := rfl
    rw [this, h]; simp; omega
  refine ⟨h0, ?_, ?_⟩
  · simp [ByteArray.data_extract, h]
  · apply ByteArray.ext
    apply Array.toList_inj.1
    simp [ByteArray.data_extract, h0, h]
theorem head_is {s : ByteArray} {p r : List UInt8} {c : UInt8} (h : s.data.toList = p ++ c :: r) (h0 : 0 < p.length) (hs : 0 < s.size) : s[0] = p.getD 0 0 := by
  have e : s[0] = s.data.toList[0]'(by simpa using hs) := rfl
  rw [e, List.getD_eq_getElem?_getD]
  simp only [h]
  rw [List.getElem_append_left h0, List.getElem?_eq_getElem h0]; rfl
def NLRel (p : List UInt8) (W : World) (i n : Value) (wr : World) : Prop := ∃ k : Nat, k ≤ p.length ∧ i = .int .i64 k ∧ n = .int .i64 (valL (p.take k) : Int) ∧ (∀ b ∈ p.take k, isDg b) ∧ wr = W
set_option maxHeartbeats 4000000 in
set_option maxRecDepth 100000 in
theorem number_is (s : ByteArray) (c : Int) (cb : UInt8) (hc : c = (cb.toNat : Int)) (hd : ¬ isDg cb) (hs : s.size ≤ 4095) (w : World) :
    Calls Try.prog 54 #[.string s, .int .u8 c] w (NumPost s.data.toList cb w) := by
  have hcb : c.toNat.toUInt8 = cb := by
    rw [hc]; apply UInt8.toNat_inj.1; simp
  have HC := Lib.hid hc
  clear hc
  by_cases hm : cb ∈ s.data.toList
  · obtain ⟨p, r, hL, hp⟩ := List.eq_append_cons_of_mem hm
    have hidx := idx_at cb r p hp
    rw [← hL] at hidx
    obtain ⟨hsz, hq, hr⟩ := bytes_split hL
    have HL := Lib.hid hL; have HP := Lib.hid hp; have HD := Lib.hid hd
    have HI : Hid (∀ W : World, Calls Try.prog 68 #[.string s, .int .u8 c] W fun e w' => e = .returned (.int .i64 (p.length : Int)) ∧ w' = W) := fun W => (Try.strings_IndexByte s c W).mono (fun e w' h => by rw [hcb, hidx] at h; exact h)
    have hp0 : 0 < s.size := by omega
    have hh : 0 < p.length → s[0] = p.getD 0 0 := fun h => head_is hL h hp0
    have HR := Lib.hid hr
    clear hL hp hd hm hidx hr
    by_cases h1 : p.length < 1
    · have d1 : decide ((p.length : Int) < 1) = true := decide_eq_true (by omega)
      go_enter Try.func54, Try.ntmps54
      go_wp2_with fail
      refine (HI.out _).mono ?_
      rintro e w1 ⟨rfl, rfl⟩
      go_wp2
      go_ret3
      exact ⟨.inr ⟨by rw [HL.out]; exact num_no HD.out HP.out (.inl h1), rfl⟩, by repeat (first | with_reducible exact Below.refl _ _ | ((with_reducible refine Below.setCell ?_ ?_ _); rotate_left; (· first | (simp; done) | omega | (simp; omega))) | with_reducible refine below_drewN ?_ _ | with_reducible refine Below.drew ?_ | ((with_reducible refine Below.alloc ?_ ?_ _); rotate_left; (· first | (simp; done) | omega | (simp; omega))) | exact Below.refl _ _ | refine Below.setCell ?_ (by first | (simp; done) | omega | (simp; omega)) _ | refine below_drewN ?_ _ | refine Below.drew ?_ | refine Below.alloc ?_ (by first | (simp; done) | omega | (simp; omega)) _)⟩
    · have d1 : decide ((p.length : Int) < 1) = false := decide_eq_false (by omega)
      by_cases h2 : 10 < p.length
      · have d2 : decide (10 < (p.length : Int)) = true := decide_eq_true (by omega)
        go_enter Try.func54, Try.ntmps54
        go_wp2_with fail
        refine (HI.out _).mono ?_
        rintro e w1 ⟨rfl, rfl⟩
        go_wp2
        go_ret3
        exact ⟨.inr ⟨by rw [HL.out]; exact num_no HD.out HP.out (.inr (.inl h2)), rfl⟩, by repeat (first | with_reducible exact Below.refl _ _ | ((with_reducible refine Below.setCell ?_ ?_ _); rotate_left; (· first | (simp; done) | omega | (simp; omega))) | with_reducible refine below_drewN ?_ _ | with_reducible refine Below.drew ?_ | ((with_reducible refine Below.alloc ?_ ?_ _); rotate_left; (· first | (simp; done) | omega | (simp; omega))) | exact Below.refl _ _ | refine Below.setCell ?_ (by first | (simp; done) | omega | (simp; omega)) _ | refine below_drewN ?_ _ | refine Below.drew ?_ | refine Below.alloc ?_ (by first | (simp; done) | omega | (simp; omega)) _)⟩
      · have d2 : decide (10 < (p.length : Int)) = false := decide_eq_false (by omega)
        by_cases h3 : 1 < p.length ∧ p.getD 0 0 = 48
        · have d3 : decide (1 < (p.length : Int)) = true := decide_eq_true (by omega)
          have d4 : ((s[0].toNat : Int) == 48) = true := by rw [hh (by omega), h3.2]; rfl
          clear hh
          go_enter Try.func54, Try.ntmps54
          go_wp2_with fail
          refine (HI.out _).mono ?_
          rintro e w1 ⟨rfl, rfl⟩
          go_wp2
          go_ret3
          exact ⟨.inr ⟨by rw [HL.out]; exact num_no HD.out HP.out (.inr (.inr (.inl h3))), rfl⟩, by repeat (first | with_reducible exact Below.refl _ _ | ((with_reducible refine Below.setCell ?_ ?_ _); rotate_left; (· first | (simp; done) | omega | (simp; omega))) | with_reducible refine below_drewN ?_ _ | with_reducible refine Below.drew ?_ | ((with_reducible refine Below.alloc ?_ ?_ _); rotate_left; (· first | (simp; done) | omega | (simp; omega))) | exact Below.refl _ _ | refine Below.setCell ?_ (by first | (simp; done) | omega | (simp; omega)) _ | refine below_drewN ?_ _ | refine Below.drew ?_ | refine Below.alloc ?_ (by first | (simp; done) | omega | (simp; omega)) _)⟩
        · have H3 : Hid (1 < p.length → p.getD 0 0 ≠ 48) := fun h h' => h3 ⟨h, h'⟩
          obtain ⟨q, hq'⟩ : ∃ q, s.extract 0 p.length = q := ⟨_, rfl⟩
          rw [hq'] at hq
          have hqs : q.size = p.length := by rw [← hq]; rfl
          have hcv : ∀ W : World, (convert 9 56 (.string q)).run Try.prog W = .ok (.slice (some ⟨W.heap.size, 0, none⟩) p.length (grownCap W q.size 0 5)) (Lib.bytesWorld W 5 q) := fun W => by
            have := Lib.run_convert_string_bytes (P := Try.prog) W 9 56 5 q Try.underlying9 Try.underlying56 Try.underlying5
            rw [hqs] at this ⊢
            exact this
          have hb1 : Below w.heap.size w (Lib.bytesWorld w 5 q) := ⟨rfl, by simp [Lib.bytesWorld, World.freeze, World.alloc, World.drew, -World.alloc_eq, -World.drew_eq], rfl, by rw [Lib.bytesWorld_size]; omega, fun k hk => Lib.bytesWorld_at_old _ _ _ _ hk⟩
          have hc1 : ∀ j, j < p.length → (Lib.bytesWorld w 5 q).cell? ⟨w.heap.size, j, none⟩ = some (.int .u8 ((p.getD j 0).toNat : Int)) := fun j hj => by
            have := Lib.bytesWorld_cell w 5 q j (by omega)
            rw [hq] at this
            exact this
          have hz1 := Lib.bytesWorld_size w 5 q
          have HB1 := Lib.hid hb1; have HC1 := Lib.hid hc1
          have h48 : 1 < p.length → ((s[0].toNat : Int) == 48) = false := fun h => by
            rw [hh (by omega), beq_eq_false_iff_ne]
            intro e
            apply H3.out h
            apply UInt8.toNat_inj.1
            show _ = 48
            omega
          have H48 := Lib.hid h48
          have hl10 : p.length ≤ 10 := by omega
          have hl1 : 1 ≤ p.length := by omega
          have e8' : (p.length : Int) + 1 ≤ (s.size : Int) := by omega
          have e8'' : (p.length : Int) ≤ (s.size : Int) := by omega
          clear hh h3 hq hqs hb1 hc1 h48 hsz
          by_cases h3 : 1 < p.length
          · have d3 : decide (1 < (p.length : Int)) = true := decide_eq_true (by omega)
            have d4 := H48.out h3
            go_enter Try.func54, Try.ntmps54
            go_wp2_with fail
            refine (HI.out _).mono ?_
            rintro e w1 ⟨rfl, rfl⟩
            go_wp2_with fail
            generalize Lib.bytesWorld w1 5 q = W1 at *
            go_loopw [34, 8] (fun i n wr => NLRel p W1 i n wr) (fun i _ _ => p.length - (intOf i).toNat)
            case atStart => exact ⟨0, Nat.zero_le _, rfl, rfl, by simp, rfl⟩
            case round =>
              obtain ⟨k, hk, rfl, rfl, hdk, rfl⟩ := hrel
              by_cases hlt : k < p.length
              · have hx := HC1.out k hlt
                obtain ⟨b, hb⟩ : ∃ b, p[k]? = some b := ⟨_, List.getElem?_eq_getElem hlt⟩
                have hbd : p.getD k 0 = b := by rw [List.getD_eq_getElem?_getD, hb]; rfl
                have hbm : b ∈ p := List.mem_of_getElem? hb
                rw [hbd] at hx
                have e5 : (k : Int) < (p.length : Int) := by omega
                by_cases hdg : isDg b
                · have t1 : decide ((b.toNat : Int) < 48) = false := decide_eq_false (by have := hdg.1; omega)
                  have t2 : decide (57 < (b.toNat : Int)) = false := decide_eq_false (by have := hdg.2; omega)
                  have hst : valL (p.take (k + 1)) = 10 * valL (p.take k) + (b.toNat - 48) := by
                    rw [List.take_succ_eq_append_getElem hlt, valL_snoc]
                    rw [List.getElem?_eq_getElem hlt] at hb
                    cases hb; rfl
                  have hdk' : ∀ b ∈ p.take (k + 1), isDg b := by
                    rw [List.take_succ_eq_append_getElem hlt]
                    intro y hy
                    have hbe : p[k] = b := by rw [List.getElem?_eq_getElem hlt] at hb; exact Option.some.inj hb
                    rcases List.mem_append.1 hy with hy | hy
                    · exact hdk y hy
                    · obtain rfl := List.mem_singleton.1 hy; rw [hbe]; exact hdg
                  have hv : valL (p.take k) < 10000000000 := take_bd hdk (by omega)
                  obtain ⟨v, hve⟩ : ∃ v, valL (p.take k) = v := ⟨_, rfl⟩
                  rw [hve] at hst hv ⊢
                  have b1 := hdg.1; have b2 := hdg.2
                  have f1 : IntKind.i64.wrap (10 * (v : Int)) = 10 * (v : Int) := IntWalk.i64_in _ (by omega)
                  have f2 : IntKind.u8.wrap ((b.toNat : Int) - 48) = (b.toNat : Int) - 48 := IntWalk.u8_in _ (by omega)
                  have f3 : IntKind.i64.wrap ((b.toNat : Int) - 48) = (b.toNat : Int) - 48 := IntWalk.i64_in _ (by omega)
                  have f4 : IntKind.i64.wrap (10 * (v : Int) + ((b.toNat : Int) - 48)) = 10 * (v : Int) + ((b.toNat : Int) - 48) := IntWalk.i64_in _ (by omega)
                  have HST := Lib.hid hst; have HDK := Lib.hid hdk'
                  clear hst hdk hdk' hb hbd hbm hve hdg
                  go_wp2
                  go_roundw
                  case rel => exact ⟨k + 1, by omega, by go_num, by rw [HST.out]; congr 1; omega, HDK.out, rfl⟩
                  case measure => simp [intOf]; omega
                · by_cases hlo : b.toNat < 48
                  · have t1 : decide ((b.toNat : Int) < 48) = true := decide_eq_true (by omega)
                    clear hb hbd
                    go_wp2
                    go_ret3
                    exact ⟨.inr ⟨by rw [HL.out]; exact num_no HD.out HP.out (.inr (.inr (.inr ⟨b, hbm, hdg⟩))), rfl⟩, HB1.out⟩
                  · have t1 : decide ((b.toNat : Int) < 48) = false := decide_eq_false (by omega)
                    have t2 : decide (57 < (b.toNat : Int)) = true := decide_eq_true (by unfold isDg at hdg; omega)
                    clear hb hbd
                    go_wp2
                    go_ret3
                    exact ⟨.inr ⟨by rw [HL.out]; exact num_no HD.out HP.out (.inr (.inr (.inr ⟨b, hbm, hdg⟩))), rfl⟩, HB1.out⟩
              · obtain rfl : k = p.length := by omega
                rw [List.take_length] at hdk ⊢
                have e6 : IntKind.i64.wrap ((p.length : Int) + 1) = (p.length : Int) + 1 := IntWalk.i64_in _ (by omega)
                have e7 : s.extract (p.length + 1) s.size = ⟨r.toArray⟩ := HR.out
                have e9 : ((p.length : Int) + 1).toNat = p.length + 1 := by omega
                go_wp2
                go_region
                all_goals
                  go_wp2
                  go_ret3
                  exact ⟨.inl ⟨valL p, r, by rw [HL.out]; exact num_yes hl1 hl10 H3.out hdk, rfl⟩, by have := HB1.out; repeat (first | with_reducible exact Below.refl _ _ | with_reducible exact this | ((with_reducible refine Below.setCell ?_ ?_ _); rotate_left; (· first | (simp; done) | omega | (simp; omega))) | with_reducible refine below_drewN ?_ _ | with_reducible refine Below.drew ?_ | ((with_reducible refine Below.alloc ?_ ?_ _); rotate_left; (· first | (simp; done) | omega | (simp; omega))) | exact Below.refl _ _ | exact this | refine Below.setCell ?_ (by first | (simp; done) | omega | (simp; omega)) _ | refine below_drewN ?_ _ | refine Below.drew ?_ | refine Below.alloc ?_ (by first | (simp; done) | omega | (simp; omega)) _)⟩
          · have d3 : decide (1 < (p.length : Int)) = false := decide_eq_false (by omega)
            go_enter Try.func54, Try.ntmps54
            go_wp2_with fail
            refine (HI.out _).mono ?_
            rintro e w1 ⟨rfl, rfl⟩
            go_wp2_with fail
            generalize Lib.bytesWorld w1 5 q = W1 at *
            go_loopw [34, 8] (fun i n wr => NLRel p W1 i n wr) (fun i _ _ => p.length - (intOf i).toNat)
            case atStart => exact ⟨0, Nat.zero_le _, rfl, rfl, by simp, rfl⟩
            case round =>
              obtain ⟨k, hk, rfl, rfl, hdk, rfl⟩ := hrel
              by_cases hlt : k < p.length
              · have hx := HC1.out k hlt
                obtain ⟨b, hb⟩ : ∃ b, p[k]? = some b := ⟨_, List.getElem?_eq_getElem hlt⟩
                have hbd : p.getD k 0 = b := by rw [List.getD_eq_getElem?_getD, hb]; rfl
                have hbm : b ∈ p := List.mem_of_getElem? hb
                rw [hbd] at hx
                have e5 : (k : Int) < (p.length : Int) := by omega
                by_cases hdg : isDg b
                · have t1 : decide ((b.toNat : Int) < 48) = false := decide_eq_false (by have := hdg.1; omega)
                  have t2 : decide (57 < (b.toNat : Int)) = false := decide_eq_false (by have := hdg.2; omega)
                  have hst : valL (p.take (k + 1)) = 10 * valL (p.take k) + (b.toNat - 48) := by
                    rw [List.take_succ_eq_append_getElem hlt, valL_snoc]
                    rw [List.getElem?_eq_getElem hlt] at hb
                    cases hb; rfl
                  have hdk' : ∀ b ∈ p.take (k + 1), isDg b := by
                    rw [List.take_succ_eq_append_getElem hlt]
                    intro y hy
                    have hbe : p[k] = b := by rw [List.getElem?_eq_getElem hlt] at hb; exact Option.some.inj hb
                    rcases List.mem_append.1 hy with hy | hy
                    · exact hdk y hy
                    · obtain rfl := List.mem_singleton.1 hy; rw [hbe]; exact hdg
                  have hv : valL (p.take k) < 10000000000 := take_bd hdk (by omega)
                  obtain ⟨v, hve⟩ : ∃ v, valL (p.take k) = v := ⟨_, rfl⟩
                  rw [hve] at hst hv ⊢
                  have b1 := hdg.1; have b2 := hdg.2
                  have f1 : IntKind.i64.wrap (10 * (v : Int)) = 10 * (v : Int) := IntWalk.i64_in _ (by omega)
                  have f2 : IntKind.u8.wrap ((b.toNat : Int) - 48) = (b.toNat : Int) - 48 := IntWalk.u8_in _ (by omega)
                  have f3 : IntKind.i64.wrap ((b.toNat : Int) - 48) = (b.toNat : Int) - 48 := IntWalk.i64_in _ (by omega)
                  have f4 : IntKind.i64.wrap (10 * (v : Int) + ((b.toNat : Int) - 48)) = 10 * (v : Int) + ((b.toNat : Int) - 48) := IntWalk.i64_in _ (by omega)
                  have HST := Lib.hid hst; have HDK := Lib.hid hdk'
                  clear hst hdk hdk' hb hbd hbm hve hdg
                  go_wp2
                  go_roundw
                  case rel => exact ⟨k + 1, by omega, by go_num, by rw [HST.out]; congr 1; omega, HDK.out, rfl⟩
                  case measure => simp [intOf]; omega
                · by_cases hlo : b.toNat < 48
                  · have t1 : decide ((b.toNat : Int) < 48) = true := decide_eq_true (by omega)
                    clear hb hbd
                    go_wp2
                    go_ret3
                    exact ⟨.inr ⟨by rw [HL.out]; exact num_no HD.out HP.out (.inr (.inr (.inr ⟨b, hbm, hdg⟩))), rfl⟩, HB1.out⟩
                  · have t1 : decide ((b.toNat : Int) < 48) = false := decide_eq_false (by omega)
                    have t2 : decide (57 < (b.toNat : Int)) = true := decide_eq_true (by unfold isDg at hdg; omega)
                    clear hb hbd
                    go_wp2
                    go_ret3
                    exact ⟨.inr ⟨by rw [HL.out]; exact num_no HD.out HP.out (.inr (.inr (.inr ⟨b, hbm, hdg⟩))), rfl⟩, HB1.out⟩
              · obtain rfl : k = p.length := by omega
                rw [List.take_length] at hdk ⊢
                have e6 : IntKind.i64.wrap ((p.length : Int) + 1) = (p.length : Int) + 1 := IntWalk.i64_in _ (by omega)
                have e7 : s.extract (p.length + 1) s.size = ⟨r.toArray⟩ := HR.out
                have e9 : ((p.length : Int) + 1).toNat = p.length + 1 := by omega
                go_wp2
                go_region
                all_goals
                  go_wp2
                  go_ret3
                  exact ⟨.inl ⟨valL p, r, by rw [HL.out]; exact num_yes hl1 hl10 H3.out hdk, rfl⟩, by have := HB1.out; repeat (first | with_reducible exact Below.refl _ _ | with_reducible exact this | ((with_reducible refine Below.setCell ?_ ?_ _); rotate_left; (· first | (simp; done) | omega | (simp; omega))) | with_reducible refine below_drewN ?_ _ | with_reducible refine Below.drew ?_ | ((with_reducible refine Below.alloc ?_ ?_ _); rotate_left; (· first | (simp; done) | omega | (simp; omega))) | exact Below.refl _ _ | exact this | refine Below.setCell ?_ (by first | (simp; done) | omega | (simp; omega)) _ | refine below_drewN ?_ _ | refine Below.drew ?_ | refine Below.alloc ?_ (by first | (simp; done) | omega | (simp; omega)) _)⟩
  · have hidx := idx_no cb _ hm
    have HI : Hid (∀ W : World, Calls Try.prog 68 #[.string s, .int .u8 c] W fun e w' => e = .returned (.int .i64 (-1)) ∧ w' = W) := fun W => (Try.strings_IndexByte s c W).mono (fun e w' h => by rw [hcb, hidx] at h; exact h)
    have HM := Lib.hid hm
    clear hm hidx
    go_enter Try.func54, Try.ntmps54
    go_wp2_with fail
    refine (HI.out _).mono ?_
    rintro e w1 ⟨rfl, rfl⟩
    go_wp2
    go_ret3
    exact ⟨.inr ⟨num_none HM.out, rfl⟩, by repeat (first | with_reducible exact Below.refl _ _ | ((with_reducible refine Below.setCell ?_ ?_ _); rotate_left; (· first | (simp; done) | omega | (simp; omega))) | with_reducible refine below_drewN ?_ _ | with_reducible refine Below.drew ?_ | ((with_reducible refine Below.alloc ?_ ?_ _); rotate_left; (· first | (simp; done) | omega | (simp; omega))) | exact Below.refl _ _ | refine Below.setCell ?_ (by first | (simp; done) | omega | (simp; omega)) _ | refine below_drewN ?_ _ | refine Below.drew ?_ | refine Below.alloc ?_ (by first | (simp; done) | omega | (simp; omega)) _)⟩

end Go.Proofs.Ytglagndpholejaa
