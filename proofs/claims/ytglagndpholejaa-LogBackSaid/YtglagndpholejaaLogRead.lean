/- What log.Read computes: the log whose text the argument is, if there is one. -/
import Derived.Test.YtglagndpholejaaLogNum
import Derived.Test.YtglagndpholejaaLogPut
import Derived.Test.YtglagndpholejaaAmple
namespace Go.Proofs.Ytglagndpholejaa
open Go.ChangeShapes Go.WideShapes Go.ChangeAt Go.RowKit
set_option linter.unusedVariables false

/-- no number below 0 -/
abbrev NnE (x : EntR) : Prop := 0 ≤ x.1 ∧ 0 ≤ x.2.1 ∧ 0 ≤ x.2.2.1 ∧ 0 ≤ x.2.2.2
def endL : List UInt8 := [58, 58, 120, 10]
def pseg (ns : List Nat) : List UInt8 := (ns.zip endL).flatMap fun p => digL p.1 ++ [p.2]
theorem nd58 : ¬ isDg 58 := by decide
theorem nd120 : ¬ isDg 120 := by decide
theorem nd10 : ¬ isDg 10 := by decide
theorem pseg_snoc {ns : List Nat} (h : ns.length < 4) (n : Nat) : pseg (ns ++ [n]) = pseg ns ++ (digL n ++ [endL.getD ns.length 0]) := by
  match ns, h with
  | [], _ => simp [pseg, endL]
  | [a], _ => simp [pseg, endL]
  | [a, b], _ => simp [pseg, endL]
  | [a, b, c], _ => simp [pseg, endL]
theorem pseg_four (a b c d : Nat) : pseg [a, b, c, d] = entS ((a : Int), (b : Int), (c : Int), (d : Int)) := by
  simp [pseg, endL, entS]
theorem entS_app (x : EntR) (A : List UInt8) : entS x ++ A = digL x.1.toNat ++ 58 :: (digL x.2.1.toNat ++ 58 :: (digL x.2.2.1.toNat ++ 120 :: (digL x.2.2.2.toNat ++ 10 :: A))) := by
  simp [entS]
theorem ent_inj {x y : EntR} (hx : NnE x) (hy : NnE y) {A B : List UInt8} (h : entS x ++ A = entS y ++ B) : x = y ∧ A = B := by
  rw [entS_app, entS_app] at h
  obtain ⟨e1, h1⟩ := dig_inj nd58 h
  obtain ⟨e2, h2⟩ := dig_inj nd58 h1
  obtain ⟨e3, h3⟩ := dig_inj nd120 h2
  obtain ⟨e4, h4⟩ := dig_inj nd10 h3
  clear h h1 h2 h3
  obtain ⟨x1, x2, x3, x4⟩ := x
  obtain ⟨y1, y2, y3, y4⟩ := y
  obtain ⟨a1, a2, a3, a4⟩ := hx
  obtain ⟨b1, b2, b3, b4⟩ := hy
  simp only at *
  obtain rfl : x1 = y1 := by omega
  obtain rfl : x2 = y2 := by omega
  obtain rfl : x3 = y3 := by omega
  obtain rfl : x4 = y4 := by omega
  exact ⟨rfl, h4⟩
theorem entS_pos (x : EntR) : 0 < (entS x).length := by
  simp only [entS, List.length_append, List.length_cons, List.length_nil]; omega
theorem textL_cons (x : EntR) (xs : List EntR) : textL (x :: xs) = entS x ++ textL xs := rfl
theorem textL_snoc (xs : List EntR) (x : EntR) : textL (xs ++ [x]) = textL xs ++ entS x := by simp [textL]
theorem textL_many (xs : List EntR) : xs.length ≤ (textL xs).length := by
  induction xs with
  | nil => exact Nat.le_refl _
  | cons x xs ih => rw [textL_cons, List.length_append, List.length_cons]; have := entS_pos x; omega
theorem text_pre : ∀ {ys xs : List EntR} {R : List UInt8}, (∀ x ∈ ys, NnE x) → (∀ x ∈ xs, NnE x) → textL xs = textL ys ++ R → ∃ zs, xs = ys ++ zs ∧ R = textL zs := by
  intro ys
  induction ys with
  | nil => intro xs R _ _ h; exact ⟨xs, rfl, h.symm⟩
  | cons y ys ih =>
    intro xs R hy hx h
    cases xs with
    | nil =>
      have := congrArg List.length h
      rw [textL_cons, List.append_assoc, List.length_append] at this
      have h2 := entS_pos y
      simp [textL] at this
      omega
    | cons x xs =>
      rw [textL_cons, textL_cons, List.append_assoc] at h
      obtain ⟨rfl, h'⟩ := ent_inj (hx x (List.mem_cons_self ..)) (hy y (List.mem_cons_self ..)) h
      obtain ⟨zs, rfl, e⟩ := ih (fun z hz => hy z (List.mem_cons_of_mem _ hz)) (fun z hz => hx z (List.mem_cons_of_mem _ hz)) h'
      exact ⟨zs, rfl, e⟩
theorem ok_mem {xs : List EntR} (h : LogOk xs) : ∀ x ∈ xs, entOk x := fun x hx => by
  obtain ⟨i, hi⟩ := List.getElem?_of_mem hx
  have hl : i < xs.length := (List.getElem?_eq_some_iff.1 hi).1
  have := (h.2 i hl).1
  rw [List.getD_eq_getElem?_getD, hi] at this
  exact this
theorem ok_nn {xs : List EntR} (h : LogOk xs) : ∀ x ∈ xs, NnE x := fun x hx => by
  have h1 : entOk x := ok_mem h x hx
  unfold entOk at h1
  unfold NnE
  omega
theorem ok_len {xs : List EntR} (h : LogOk xs) : (textL xs).length ≤ 3200 := by
  have := textL_len h.2 xs.length (Nat.le_refl _)
  rw [List.take_length] at this
  have := h.1
  omega
/-- the text ends ahead of a mark: no log has it -/
theorem read_fail {S r : List UInt8} {ys : List EntR} {ns : List Nat} (hS : S = textL ys ++ (pseg ns ++ r)) (hy : ∀ x ∈ ys, NnE x) (hn : ns.length < 4) (h0 : ns.length = 0 → r ≠ []) (hno : ∀ n r', ¬ NumAt r (endL.getD ns.length 0) n r') :
    ∀ xs, LogOk xs → textL xs ≠ S := by
  intro xs hx e
  rw [hS] at e
  obtain ⟨zs, hzs, e⟩ := text_pre hy (ok_nn hx) e
  have hz : ∀ z ∈ zs, entOk z := fun z hz => ok_mem hx z (by rw [hzs]; exact List.mem_append_right _ hz)
  clear hzs hx hS hy
  cases zs with
  | nil =>
    match ns, hn, h0, e with
    | [], _, h0, e => exact h0 rfl (show r = [] from e)
    | a :: l, _, _, e =>
      have h1 := congrArg List.length e
      have h2 := digL_pos a
      simp [pseg, endL, textL] at h1
  | cons z zs =>
    obtain ⟨⟨q1, q2⟩, ⟨q3, q4⟩, ⟨q5, q6⟩, q7, q8⟩ := hz z (List.mem_cons_self ..)
    rw [textL_cons, entS_app] at e
    match ns, hn, e, hno with
    | [], _, e, hno => exact hno _ _ ⟨show r = _ from e, by omega⟩
    | [a], _, e, hno =>
      obtain ⟨-, e⟩ := dig_inj nd58 (show digL a ++ 58 :: r = _ by simpa [pseg, endL] using e)
      exact hno _ _ ⟨e, by omega⟩
    | [a, b], _, e, hno =>
      obtain ⟨-, e⟩ := dig_inj nd58 (show digL a ++ 58 :: (digL b ++ 58 :: r) = _ by simpa [pseg, endL] using e)
      obtain ⟨-, e⟩ := dig_inj nd58 e
      exact hno _ _ ⟨e, by omega⟩
    | [a, b, c], _, e, hno =>
      obtain ⟨-, e⟩ := dig_inj nd58 (show digL a ++ 58 :: (digL b ++ 58 :: (digL c ++ 120 :: r)) = _ by simpa [pseg, endL] using e)
      obtain ⟨-, e⟩ := dig_inj nd58 e
      obtain ⟨-, e⟩ := dig_inj nd120 e
      exact hno _ _ ⟨e, by omega⟩
def ReadPost (S : List UInt8) (T : TypeId) (w : World) (e : Ending) (w' : World) : Prop :=
  ((∃ v ys, LogOk ys ∧ textL ys = S ∧ e = .returned (.tuple #[v, .int .i64 0]) ∧ w'.ownsRow w.heap.size T 4 v ys.length (ys.flatMap entLay)) ∨
    ((∀ ys, LogOk ys → textL ys ≠ S) ∧ ∃ c : Int, c ≠ 0 ∧ e = .returned (.tuple #[.slice none 0 0, .int .i64 c]))) ∧ Below w.heap.size w w'
theorem read_end {S : List UInt8} {ys : List EntR} (hS : S = textL ys) (hy : ∀ x ∈ ys, NnE x) (hno : ¬ LogOk ys) : ∀ xs, LogOk xs → textL xs ≠ S := by
  intro xs hx e
  rw [hS, ← List.append_nil (textL ys)] at e
  obtain ⟨zs, hzs, e⟩ := text_pre hy (ok_nn hx) e
  cases zs with
  | nil => rw [List.append_nil] at hzs; exact hno (hzs ▸ hx)
  | cons z zs =>
    have h1 := congrArg List.length e
    have h2 := entS_pos z
    rw [textL_cons, List.length_append] at h1
    simp at h1
    omega
theorem num_det {L : List UInt8} {c : UInt8} (hc : ¬ isDg c) {n m : Nat} {r r' : List UInt8} (h : NumAt L c n r) (h' : NumAt L c m r') : n = m ∧ r = r' := dig_inj hc (h.1.symm.trans h'.1)
theorem number_yes {r r' : List UInt8} {n : Nat} (c : Int) (cb : UInt8) (hc : c = (cb.toNat : Int)) (hd : ¬ isDg cb) (hs : r.length ≤ 4095) (h : NumAt r cb n r') (w : World) :
    Calls Try.prog 54 #[.string ⟨r.toArray⟩, .int .u8 c] w fun e w' => e = .returned (.tuple #[.int .i64 (n : Int), .string ⟨r'.toArray⟩, .bool true]) ∧ Below w.heap.size w w' := by
  refine (number_is ⟨r.toArray⟩ c cb hc hd (by simpa [ByteArray.size] using hs) w).mono ?_
  rintro e w' ⟨⟨m, q, h2, rfl⟩ | ⟨h2, -⟩, hb⟩
  · obtain ⟨rfl, rfl⟩ := num_det hd h (by simpa using h2)
    exact ⟨rfl, hb⟩
  · exact absurd h (by simpa using h2 n r')
theorem number_no {r : List UInt8} (c : Int) (cb : UInt8) (hc : c = (cb.toNat : Int)) (hd : ¬ isDg cb) (hs : r.length ≤ 4095) (h : ∀ n r', ¬ NumAt r cb n r') (w : World) :
    Calls Try.prog 54 #[.string ⟨r.toArray⟩, .int .u8 c] w fun e w' => e = .returned (.tuple #[.int .i64 0, .string ⟨#[]⟩, .bool false]) ∧ Below w.heap.size w w' := by
  refine (number_is ⟨r.toArray⟩ c cb hc hd (by simpa [ByteArray.size] using hs) w).mono ?_
  rintro e w' ⟨⟨m, q, h2, -⟩ | ⟨-, rfl⟩, hb⟩
  · exact absurd (by simpa using h2) (h m q)
  · exact ⟨rfl, hb⟩
/-- the bytes of a string value, by number -/
def lenV : Value → Nat
  | .string s => s.size
  | _ => 0
theorem lenV_str (r : List UInt8) : lenV (.string ⟨r.toArray⟩) = r.length := by simp [lenV, ByteArray.size]
abbrev TEnt : TypeId := 42
/-- between two entries -/
def RdRel (S : List UInt8) (w : World) (s out : Value) (wr : World) : Prop :=
  ∃ (ys : List EntR) (r : List UInt8), S = textL ys ++ r ∧ (∀ x ∈ ys, NnE x) ∧ s = .string ⟨r.toArray⟩ ∧ wr.ownsRow w.heap.size TEnt 4 out ys.length (ys.flatMap entLay) ∧ Below w.heap.size w wr
def xCells (ns : List Nat) : List Value := ns.map (fun n => .int .i64 (n : Int)) ++ List.replicate (4 - ns.length) (.int .i64 0)
def gCells (p : Nat) : List Value := [.pointer (some ⟨p, 0, none⟩), .int .u8 58, .pointer (some ⟨p, 1, none⟩), .int .u8 58, .pointer (some ⟨p, 2, none⟩), .int .u8 120, .pointer (some ⟨p, 3, none⟩), .int .u8 10]
theorem xCells_set {ns : List Nat} (h : ns.length < 4) (n : Nat) : (xCells ns).set ns.length (.int .i64 (n : Int)) = xCells (ns ++ [n]) := by
  match ns, h with
  | [], _ => rfl
  | [a], _ => rfl
  | [a, b], _ => rfl
  | [a, b, c], _ => rfl
theorem xCells_len {ns : List Nat} (h : ns.length ≤ 4) : (xCells ns).length = 4 := by simp [xCells]; omega
theorem xCells_zero {ns : List Nat} {j : Nat} (h : ns.length = j) (hj : j < 4) : (xCells ns)[j]? = some (.int .i64 0) := by
  subst h
  match ns, hj with
  | [], _ => rfl
  | [a], _ => rfl
  | [a, b], _ => rfl
  | [a, b, c], _ => rfl
theorem CellsAt.src {w : World} {b : Nat} {vs : List Value} (h : CellsAt w b vs) : ∀ j u, vs[j]? = some u → w.cell? ((⟨b, 0, none⟩ : Addr).add j) = some u := fun j u hj => by
  have := h.1 j u hj
  cases j <;> simpa [Addr.add] using this
/-- what a round of the marks knows -/
structure RdSt (W w : World) (p g : Nat) (ns : List Nat) (out : Value) (ys : List EntR) : Prop where
  X : CellsAt W p (xCells ns)
  G : CellsAt W g (gCells p)
  O : W.ownsRow w.heap.size TEnt 4 out ys.length (ys.flatMap entLay)
  far : ∀ k, out.ownBlock = some k → k < p
  B : Below w.heap.size w W
  ne : p < g
  le : w.heap.size ≤ p
theorem RdSt.call {W W' w : World} {p g : Nat} {ns : List Nat} {out : Value} {ys : List EntR} (h : RdSt W w p g ns out ys) (hb : Below W.heap.size W W') : RdSt W' w p g ns out ys :=
  ⟨h.X.call hb, h.G.call hb, own_later h.O hb (Nat.le_refl _), h.far, h.B.trans (hb.mono h.B.size), h.ne, h.le⟩
theorem RdSt.alloc {W w : World} {p g : Nat} {ns : List Nat} {out : Value} {ys : List EntR} (h : RdSt W w p g ns out ys) (o : Obj) : RdSt (W.alloc o) w p g ns out ys := h.call ((Below.refl _ _).alloc (Nat.le_refl _) o)
theorem RdSt.drew {W w : World} {p g : Nat} {ns : List Nat} {out : Value} {ys : List EntR} (h : RdSt W w p g ns out ys) : RdSt W.drew w p g ns out ys := h.call (Below.refl _ _).drew
theorem RdSt.put {W w : World} {p g : Nat} {ns : List Nat} {out : Value} {ys : List EntR} (h : RdSt W w p g ns out ys) (hn : ns.length < 4) (n : Nat) : RdSt (W.setCell ⟨p, ns.length, none⟩ (.int .i64 (n : Int))) w p g (ns ++ [n]) out ys :=
  ⟨xCells_set hn n ▸ h.X.set_ ns.length (by rw [xCells_len (by omega)]; omega) _, h.G.other (by have := h.ne; omega) _ _, own_far h.O (grown_setB W p _ _) (fun e => by have := h.far _ e; omega), h.far, h.B.setCell (p := ⟨p, ns.length, none⟩) h.le _, h.ne, h.le⟩
theorem read_large (s : ByteArray) (hs : ¬ s.size ≤ 4095) (w : World) :
    Calls Try.prog 27 #[.string s] w (ReadPost s.data.toList 42 w) := by
  have d1 : decide (4095 < (s.size : Int)) = true := decide_eq_true (by omega)
  go_enter Try.func27, Try.ntmps27
  go_wp2
  go_ret2
  refine ⟨.inr ⟨fun ys h e => ?_, 2, by decide, rfl⟩, by repeat (first | with_reducible exact Below.refl _ _ | ((with_reducible refine Below.setCell ?_ ?_ _); rotate_left; (· first | (simp; done) | omega | (simp; omega))) | with_reducible refine below_drewN ?_ _ | with_reducible refine Below.drew ?_ | ((with_reducible refine Below.alloc ?_ ?_ _); rotate_left; (· first | (simp; done) | omega | (simp; omega))) | exact Below.refl _ _ | refine Below.setCell ?_ (by first | (simp; done) | omega | (simp; omega)) _ | refine below_drewN ?_ _ | refine Below.drew ?_ | refine Below.alloc ?_ (by first | (simp; done) | omega | (simp; omega)) _)⟩
  have h1 := ok_len h
  have h2 : s.size = s.data.toList.length := rfl
  rw [e] at h1
  omega
theorem endL_nd {j : Nat} (h : j < 4) : ¬ isDg (endL.getD j 0) := by
  match j, h with
  | 0, _ => decide
  | 1, _ => decide
  | 2, _ => decide
  | 3, _ => decide
theorem gCells_ptr {w : World} {p g j : Nat} (h : CellsAt w g (gCells p)) (hj : j < 4) : w.cell? ⟨g, j * 2, none⟩ = some (.pointer (some ⟨p, j, none⟩)) ∧ w.cell? ⟨g, j * 2 + 1, none⟩ = some (.int .u8 ((endL.getD j 0).toNat : Int)) := by
  match j, hj with
  | 0, _ => exact ⟨h.at_ 0 rfl, h.at_ 1 rfl⟩
  | 1, _ => exact ⟨h.at_ 2 rfl, h.at_ 3 rfl⟩
  | 2, _ => exact ⟨h.at_ 4 rfl, h.at_ 5 rfl⟩
  | 3, _ => exact ⟨h.at_ 6 rfl, h.at_ 7 rfl⟩
def RdIn (w : World) (p g : Nat) (out : Value) (ys : List EntR) (R : List UInt8) (i s : Value) (wr : World) : Prop :=
  ∃ (j : Nat) (ns : List Nat) (r : List UInt8), ns.length = j ∧ j ≤ 4 ∧ i = .int .i64 j ∧ s = .string ⟨r.toArray⟩ ∧ R = pseg ns ++ r ∧ RdSt wr w p g ns out ys
set_option maxHeartbeats 16000000 in
set_option maxRecDepth 100000 in
theorem read_is (s : ByteArray) (hs : s.size ≤ 4095) (w : World) :
    Calls Try.prog 27 #[.string s] w (ReadPost s.data.toList 42 w) := by
  obtain ⟨S, hS⟩ : ∃ S, s.data.toList = S := ⟨_, rfl⟩
  obtain rfl : s = ⟨S.toArray⟩ := by rw [← hS]
  have hl : S.length ≤ 4095 := by rw [← hS]; exact hs
  rw [hS]
  clear hS
  have d1 : decide (4095 < (S.length : Int)) = false := decide_eq_false (by omega)
  have dsz : (⟨S.toArray⟩ : ByteArray).size = S.length := by simp [ByteArray.size]
  obtain ⟨i0, hi, hz0, hz1, hz2⟩ := info_parts infoE
  go_enter Try.func27, Try.ntmps27
  go_wp2_with fail
  go_loopw [0, 4] (fun sv ov wr => RdRel S w sv ov wr) (fun sv _ _ => lenV sv)
  case atStart => exact ⟨[], S, rfl, by simp, rfl, World.ownsRow_nil _ _ _ _, Below.refl _ _⟩
  case round =>
    obtain ⟨ys, r, hS, hy, rfl, hO, hB⟩ := hrel
    have hm := textL_many ys
    have hle : ys.length + r.length ≤ 4095 := by
      have := congrArg List.length hS
      rw [List.length_append] at this
      omega
    have HS := Lib.hid hS; have HY := Lib.hid hy; have HO := Lib.hid hO; have HB := Lib.hid hB
    have zB := hB.size
    clear hS hy hO hB hm d1 dsz
    rcases r with _ | ⟨b0, r0⟩
    · have HR := Lib.hid (own_recs HO.out entLay_len)
      obtain ⟨ao, co, rfl⟩ := HR.out.len
      have hS' : S = textL ys := by rw [HS.out, List.append_nil]
      have HS' := Lib.hid hS'
      clear hS'
      by_cases hok : LogOk ys
      · have HOK := Lib.hid hok
        clear hok
        go_wp2_with fail
        refine (logCheck_is ys _ _ HR.out (by omega)).mono ?_
        rintro e w1 ⟨h1, -, hb⟩
        obtain rfl := h1 HOK.out
        have HB1 := Lib.hid (HB.out.trans (hb.mono zB))
        have HO1 := Lib.hid (own_later HO.out hb (Nat.le_refl _))
        clear h1 hb
        go_wp2
        go_ret2
        exact ⟨.inl ⟨_, ys, HOK.out, HS'.out.symm, rfl, HO1.out⟩, HB1.out⟩
      · have HOK := Lib.hid (read_end HS'.out HY.out hok)
        go_wp2_with fail
        refine (logCheck_is ys _ _ HR.out (by omega)).mono ?_
        rintro e w1 ⟨-, h1, hb⟩
        obtain ⟨c, hc, rfl⟩ := h1 hok
        have HB1 := Lib.hid (HB.out.trans (hb.mono zB))
        have hc' : (!(c == 0)) = true := by simpa using hc
        have hc2 : (c != 0) = true := by simpa using hc
        have HC := Lib.hid hc
        clear h1 hb hok hc
        go_wp2
        go_ret2
        exact ⟨.inr ⟨HOK.out, c, HC.out, rfl⟩, HB1.out⟩
    · go_upto_region 7 with (fail)
      obtain ⟨R, hR⟩ : ∃ R, b0 :: r0 = R := ⟨_, rfl⟩
      rw [hR] at HS hle ⊢
      have hRn : R ≠ [] := by rw [← hR]; exact List.cons_ne_nil _ _
      have HRN := Lib.hid hRn; have HRE := Lib.hid hR
      clear hR hRn
      have HST : Hid (RdSt ((wr.alloc (.cells #[.int .i64 0, .int .i64 0, .int .i64 0, .int .i64 0] TEnt)).alloc (.cells #[.pointer (some ⟨wr.heap.size, 0, none⟩), .int .u8 58, .pointer (some ⟨wr.heap.size, 1, none⟩), .int .u8 58, .pointer (some ⟨wr.heap.size, 2, none⟩), .int .u8 120, .pointer (some ⟨wr.heap.size, 3, none⟩), .int .u8 10] 105)) w wr.heap.size (wr.heap.size + 1) [] u4 ys) :=
        ⟨(CellsAt.new wr _ _ _ rfl).alloc _, CellsAt.new' (by simp) rfl, own_later (own_later HO.out ((Below.refl _ _).alloc (Nat.le_refl _) _) (Nat.le_refl _)) ((Below.refl _ _).alloc (Nat.le_refl _) _) (Nat.le_refl _), fun k e => (HO.out.lt k e).2, (HB.out.alloc zB _).alloc (by simp; omega) _, Nat.lt_succ_self _, zB⟩
      go_wp2_with fail
      generalize (wr.alloc (.cells #[.int .i64 0, .int .i64 0, .int .i64 0, .int .i64 0] TEnt)).alloc (.cells #[.pointer (some ⟨wr.heap.size, 0, none⟩), .int .u8 58, .pointer (some ⟨wr.heap.size, 1, none⟩), .int .u8 58, .pointer (some ⟨wr.heap.size, 2, none⟩), .int .u8 120, .pointer (some ⟨wr.heap.size, 3, none⟩), .int .u8 10] 105) = W0 at *
      clear HO HB
      generalize wr.heap.size = P at *
      go_loopw [25, 0] (fun i sv wx => RdIn w P (P + 1) u4 ys R i sv wx) (fun i _ _ => 4 - (intOf i).toNat)
      case atStart => exact ⟨0, [], R, rfl, by decide, rfl, rfl, rfl, HST.out⟩
      case round =>
        clear HST
        obtain ⟨j, ns, r, hn, hj, rfl, rfl, hR, hSt⟩ := hrel
        have HR := Lib.hid hR; have HN := Lib.hid hn
        have hrl : r.length ≤ 4095 := by
          have := congrArg List.length hR
          rw [List.length_append] at this
          omega
        clear hR hn
        have ZS := Lib.hid hSt
        by_cases hlt : j < 4
        · obtain ⟨c0, c1⟩ := gCells_ptr hSt.G hlt
          obtain ⟨cb, hcb⟩ : ∃ cb, endL.getD j 0 = cb := ⟨_, rfl⟩
          have HCB := Lib.hid hcb
          have HND : Hid (¬ isDg cb) := (hcb ▸ endL_nd hlt : ¬ isDg cb)
          rw [hcb] at c1
          have d1 : (j : Int) < 4 := by omega
          clear hSt hcb
          by_cases hnum : ∃ n r', NumAt r cb n r'
          · obtain ⟨n, r', hnum⟩ := hnum
            have HNU := Lib.hid hnum
            clear hnum
            go_upto_region 10 with (fail)
            have HZ := Lib.hid (ZS.out.alloc (.cells #[.pointer (some ⟨P, j, none⟩), .int .u8 (cb.toNat : Int)] 105))
            have HQ := Lib.hid (CellsAt.new wr [.pointer (some ⟨P, j, none⟩), .int .u8 (cb.toNat : Int)] #[.pointer (some ⟨P, j, none⟩), .int .u8 (cb.toNat : Int)] 105 rfl)
            have y0 := HQ.out.at_ 0 rfl; have y1 := HQ.out.at_ 1 rfl; have yz := HQ.out.lt
            clear c0 c1 ZS
            go_region_with (go_at_call 54; refine (number_yes (cb.toNat : Int) cb rfl HND.out hrl HNU.out _).mono ?_; rintro e w1 ⟨rfl, hb1⟩; have ZZ : RdSt w1 w P (P + 1) ns u4 ys := (by first | exact HZ.out.call hb1 | exact HZ.out.drew.call hb1); have QQ : CellsAt w1 wr.heap.size [.pointer (some ⟨P, j, none⟩), .int .u8 (cb.toNat : Int)] := (by first | exact HQ.out.call hb1 | exact HQ.out.drew.call hb1); have x0 := QQ.at_ 0 rfl; have x1 := QQ.at_ 1 rfl; have xz := QQ.lt; have xj : w1.cell? ⟨P, j, none⟩ = some (.int .i64 0) := ZZ.X.at_ j (xCells_zero HN.out hlt); have xf := ZZ.X.2.1 j; have xl := ZZ.X.lt)
            all_goals
              have ZF : Hid (RdSt (w1.setCell ⟨P, j, none⟩ (.int .i64 (n : Int))) w P (P + 1) (ns ++ [n]) u4 ys) := (by have h4 := hlt; have h5 := HN.out; subst h5; exact ZZ.put h4 n)
              clear ZZ QQ x0 x1 xz xj xf xl hb1 HZ HQ y0 y1 yz
              go_wp2
              go_roundw
              case rel => exact ⟨j + 1, ns ++ [n], r', by simp [HN.out], by omega, by go_num, rfl, by rw [HR.out, pseg_snoc (by rw [HN.out]; exact hlt), HN.out, HCB.out, HNU.out.1]; simp, by first | exact ZF.out | exact ZF.out.drew⟩
              case measure => simp [intOf]; omega
          · have HNO : Hid (∀ n r', ¬ NumAt r cb n r') := fun n r' h => hnum ⟨n, r', h⟩
            clear hnum
            have HFAIL : Hid (∀ xs, LogOk xs → textL xs ≠ S) := read_fail (HS.out.trans (by rw [HR.out])) HY.out (by rw [HN.out]; exact hlt) (fun h e => HRN.out (by
              rw [HR.out, e]
              have := List.eq_nil_of_length_eq_zero h
              rw [this]; rfl)) (by rw [HN.out, HCB.out]; exact HNO.out)
            go_upto_region 10 with (fail)
            have HZ := Lib.hid (ZS.out.alloc (.cells #[.pointer (some ⟨P, j, none⟩), .int .u8 (cb.toNat : Int)] 105))
            have HQ := Lib.hid (CellsAt.new wr [.pointer (some ⟨P, j, none⟩), .int .u8 (cb.toNat : Int)] #[.pointer (some ⟨P, j, none⟩), .int .u8 (cb.toNat : Int)] 105 rfl)
            have y0 := HQ.out.at_ 0 rfl; have y1 := HQ.out.at_ 1 rfl; have yz := HQ.out.lt
            clear c0 c1 ZS
            go_region_with (go_at_call 54; refine (number_no (cb.toNat : Int) cb rfl HND.out hrl HNO.out _).mono ?_; rintro e w1 ⟨rfl, hb1⟩; have ZZ : RdSt w1 w P (P + 1) ns u4 ys := (by first | exact HZ.out.call hb1 | exact HZ.out.drew.call hb1); have QQ : CellsAt w1 wr.heap.size [.pointer (some ⟨P, j, none⟩), .int .u8 (cb.toNat : Int)] := (by first | exact HQ.out.call hb1 | exact HQ.out.drew.call hb1); have x0 := QQ.at_ 0 rfl; have x1 := QQ.at_ 1 rfl; have xz := QQ.lt; have xj : w1.cell? ⟨P, j, none⟩ = some (.int .i64 0) := ZZ.X.at_ j (xCells_zero HN.out hlt); have xf := ZZ.X.2.1 j; have xl := ZZ.X.lt)
            all_goals
              have ZF : Hid (RdSt (w1.setCell ⟨P, j, none⟩ (.int .i64 (0 : Int))) w P (P + 1) (ns ++ [0]) u4 ys) := (by have h4 := hlt; have h5 := HN.out; subst h5; exact ZZ.put h4 0)
              clear ZZ QQ x0 x1 xz xj xf xl hb1 HZ HQ y0 y1 yz
              go_wp2
              go_ret2
              exact ⟨.inr ⟨HFAIL.out, 10, by decide, rfl⟩, by first | exact ZF.out.B | exact ZF.out.B.drew⟩
        · obtain rfl : j = 4 := by omega
          have hn4 := HN.out
          obtain ⟨n1, n2, n3, n4, rfl⟩ : ∃ a b c d, ns = [a, b, c, d] := by
            match ns, hn4 with
            | [a, b, c, d], _ => exact ⟨a, b, c, d, rfl⟩
          have hX := hSt.X
          have x0 := hX.at_ 0 rfl; have x1 := hX.at_ 1 rfl; have x2 := hX.at_ 2 rfl; have x3 := hX.at_ 3 rfl; have xz := hX.lt
          have hown := hSt.O
          have zr := hSt.B.size
          have hsz1 : w.heap.size ≤ (wr.alloc (.cells #[.int .i64 (n1 : Int), .int .i64 (n2 : Int), .int .i64 (n3 : Int), .int .i64 (n4 : Int)] TEnt)).heap.size := by simp; omega
          have hrR : r.length < R.length := by
            rw [HR.out, pseg_four, List.length_append]
            have := entS_pos ((n1 : Int), (n2 : Int), (n3 : Int), (n4 : Int))
            omega
          clear hn4 hX hSt HN
          go_wp2_with (at_builtin; refine wpList_append_own _ rfl _ _ 38 rfl w.heap.size 42 i0 (.agg #[.int .i64 0, .int .i64 0, .int .i64 0, .int .i64 0]) 4 32 Try.underlying38 hi hz0 hz1 hz2 rfl (by decide) _ _ _ rfl (hown.alloc _) ⟨wr.heap.size, 0, none⟩ 1 1 [.int .i64 (n1 : Int), .int .i64 (n2 : Int), .int .i64 (n3 : Int), .int .i64 (n4 : Int)] rfl rfl ((CellsAt.new wr _ _ _ rfl).src) (by simp [Value.oneCell']) (by unfold maxLen; omega) (by omega) hsz1 ?_; intro v' w1 hown' hgrow _)
          have BG : Below w.heap.size wr w1 := ((Below.refl _ _).alloc zr _).grown hgrow hsz1 (fun j e => (ZS.out.O.lt j e).1)
          have HB9 := Lib.hid (ZS.out.B.trans BG)
          have HO9 := Lib.hid (own_push hown' rfl)
          clear hown' hgrow hown BG
          go_roundw
          case rel => exact ⟨ys ++ [((n1 : Int), (n2 : Int), (n3 : Int), (n4 : Int))], r, by rw [HS.out, HR.out, pseg_four, textL_snoc, List.append_assoc], (by intro x hx; rcases List.mem_append.1 hx with hx | hx; exact HY.out x hx; obtain rfl := List.mem_singleton.1 hx; unfold NnE; simp), rfl, HO9.out, HB9.out⟩
          case measure => rw [← lenV_str, ← lenV_str] at hrR; rw [HRE.out]; simpa using hrR

end Go.Proofs.Ytglagndpholejaa
