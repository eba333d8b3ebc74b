/- LogOwn: whatever the log and the three numbers are, the law answers true and leaves memory as it was. -/
import Derived.Test.YtglagndpholejaaLogText
import Derived.Test.YtglagndpholejaaAmpleEnt
namespace Go.Proofs.Ytglagndpholejaa.logOwn
open Go.ChangeShapes Go.WideShapes Go.ChangeAt Go.RowKit Go.Proofs.Ytglagndpholejaa Go.Proofs.Ytglagndpholejaa.Open
set_option linter.unusedVariables false
abbrev TE : TypeId := 42
abbrev OwnE (w : World) (B : Nat) (v : Value) (l : List EntR) : Prop := w.ownsRow B TE 4 v l.length (l.flatMap entLay)
theorem recs_front {w : World} {B g : Nat} {E : TypeId} {xs : List EntR} {ex : List Value} (h : w.ownsRow B E 4 (.slice (some ⟨g, 0, none⟩) (xs.length + 2) (xs.length + 3)) (xs.length + 2) (xs.flatMap entLay ++ ex)) (hm : xs.length ≤ 281474976710656) : RecsAt 4 entLay w (.slice (some ⟨g, 0, none⟩) xs.length (xs.length + 3)) xs := by
  by_cases h0 : xs = []
  · subst h0; exact .inl ⟨rfl, .inr ⟨_, _, rfl⟩⟩
  · refine .inr ⟨List.length_pos_iff.2 h0, g, 0, _, rfl, by omega, by omega, fun i y hy j hj => ?_⟩
    have hi : i < xs.length := (List.getElem?_eq_some_iff.1 hy).1
    have e := flatMap_at entLay_len hy hj
    rw [Nat.zero_add, h.cellAt (i * 4 + j) (by omega), List.getElem?_append_left (by rw [ent_len]; omega), e]
def PutP (w : World) (e : Ending) (w' : World) : Prop := ∃ v l r, e = .returned (.tuple #[v, .int .i64 r]) ∧ l.length ≤ 33 ∧ OwnE w' w.heap.size v l ∧ Below w.heap.size w w'
theorem put_any (xs : List EntR) (f l c : Int) (v : Value) (w : World) (hv : RecsAt 4 entLay w v xs) (hm : xs.length ≤ 9223372036854775807) :
    Calls Try.prog 19 #[v, .int .i64 f, .int .i64 l, .int .i64 c] w (PutP w) := by
  refine (put_is xs f l c v w hv hm).mono ?_
  rintro e w' ⟨h1, h2, hb⟩
  by_cases hok : putOk xs f l c
  · obtain ⟨v', rfl, ho⟩ := h1 hok
    refine ⟨v', _, _, rfl, ?_, ho, hb⟩
    have h32 := hok.1.1
    unfold putL
    split
    · simp; omega
    · split <;> simp <;> omega
  · obtain ⟨r, -, rfl⟩ := h2 hok
    exact ⟨_, [], _, rfl, by decide, World.ownsRow_nil _ _ _ _, hb⟩
theorem put_lit (w : World) : Calls Try.prog 19 #[.slice none 0 0, .int .i64 5, .int .i64 0, .int .i64 2] w fun e w' => (∃ a c, e = .returned (.tuple #[.slice a 1 c, .int .i64 0])) ∧ Below w.heap.size w w' := by
  refine (put_is [] 5 0 2 _ w (.inl ⟨rfl, .inl rfl⟩) (by decide)).mono ?_
  rintro e w' ⟨h1, -, hb⟩
  have hok : putOk [] 5 0 2 := ⟨⟨by decide, fun i hi => absurd hi (Nat.not_lt_zero _)⟩, ⟨by decide, by decide, by decide, by decide⟩, fun h => absurd h (by decide)⟩
  obtain ⟨v', rfl, ho⟩ := h1 hok
  have hl : putL [] 5 0 2 = [((5 : Int), (0 : Int), (2 : Int), (1 : Int))] := by simp [putL]
  rw [hl] at ho
  have hr := own_recs ho entLay_len
  obtain ⟨a, c, rfl⟩ := hr.len
  exact ⟨⟨a, c, rfl⟩, hb⟩
theorem text_any (xs : List EntR) (v : Value) (w : World) (hv : RecsAt 4 entLay w v xs) (hm : xs.length ≤ 9223372036854775807) :
    Calls Try.prog 23 #[v] w fun e w' => (∃ s c, e = .returned (.tuple #[.string s, .int .i64 c])) ∧ Below w.heap.size w w' := by
  by_cases hok : LogOk xs
  · refine (text_ok xs v w hv hok).mono ?_
    rintro e w' ⟨rfl, hb⟩
    exact ⟨⟨_, _, rfl⟩, hb⟩
  · refine (text_no xs v w hv hm hok).mono ?_
    rintro e w' ⟨⟨c, -, rfl⟩, hb⟩
    exact ⟨⟨_, _, rfl⟩, hb⟩
theorem blk_off {w w' : World} {g p N : Nat} {E : TypeId} (h : BlkOf w g E N) (hg : w.grownBy w' (some p)) (hne : g ≠ p) : BlkOf w' g E N := by
  obtain ⟨cur, h1, h2⟩ := h
  exact ⟨cur, (hg.block g (Array.getElem?_eq_some_iff.1 h1).1 (by simpa using hne)).trans h1, h2⟩
/-- the row with spare cells -/
structure One (w : World) (B g : Nat) (xs : List EntR) : Prop where
  o : w.ownsRow B TE 4 (.slice (some ⟨g, 0, none⟩) (xs.length + 2) (xs.length + 3)) (xs.length + 2) (xs.flatMap entLay ++ [.int .i64 77, .int .i64 0, .int .i64 0, .int .i64 0, .int .i64 77, .int .i64 0, .int .i64 0, .int .i64 0])
theorem One.call {w w' : World} {B g : Nat} {xs : List EntR} (h : One w B g xs) (hb : Below w.heap.size w w') : One w' B g xs := ⟨own_later h.o hb (Nat.le_refl _)⟩
theorem One.c {w : World} {B g : Nat} {xs : List EntR} (h : One w B g xs) (j : Nat) (v : Value) (hj : ([.int .i64 77, .int .i64 0, .int .i64 0, .int .i64 0] : List Value)[j]? = some v) : w.cell? ⟨g, xs.length * 4 + j, none⟩ = some v := by
  have hl : j < 4 := (List.getElem?_eq_some_iff.1 hj).1
  rw [h.o.cellAt (xs.length * 4 + j) (by omega), List.getElem?_append_right (by rw [ent_len]; omega), ent_len, show xs.length * 4 + j - xs.length * 4 = j by omega]
  rcases (by omega : j = 0 ∨ j = 1 ∨ j = 2 ∨ j = 3) with rfl | rfl | rfl | rfl <;> exact hj
theorem One.d {w : World} {B g : Nat} {xs : List EntR} (h : One w B g xs) (j : Nat) (v : Value) (hj : ([.int .i64 77, .int .i64 0, .int .i64 0, .int .i64 0] : List Value)[j]? = some v) : w.cell? ⟨g, (xs.length + 1) * 4 + j, none⟩ = some v := by
  have hl : j < 4 := (List.getElem?_eq_some_iff.1 hj).1
  rw [h.o.cellAt ((xs.length + 1) * 4 + j) (by omega), List.getElem?_append_right (by rw [ent_len]; omega), ent_len, show (xs.length + 1) * 4 + j - xs.length * 4 = 4 + j by omega]
  rcases (by omega : j = 0 ∨ j = 1 ∨ j = 2 ∨ j = 3) with rfl | rfl | rfl | rfl <;> exact hj
set_option maxHeartbeats 8000000 in
set_option maxRecDepth 100000 in
theorem way (xs : List EntR) (n k code : Int) (v : Value) (w : World) (hv : RecsAt 4 entLay w v xs) (hx : xs.length * 32 ≤ 140737488351232) :
    Calls Try.prog 6 #[v, .int .i64 n, .int .i64 k, .int .i64 code] w fun e w' => e = .returned (.bool true) ∧ Below w.heap.size w w' := by
  obtain ⟨a, cap, rfl⟩ := hv.len
  have HV := Lib.hid hv
  clear hv
  go_enter Try.func6, Try.ntmps6
  go_wp2_with fail
  refine (put_lit _).mono ?_
  rintro e w1 ⟨⟨a1, c1, rfl⟩, hb1⟩
  have B1 := Lib.hid hb1
  have z1 := hb1.size
  clear hb1
  go_upto_region 5 with (fail)
  have HX : Hid (CellsAt (w1.alloc (.cells #[.int .i64 77, .int .i64 0, .int .i64 0, .int .i64 0] TE)) w1.heap.size [.int .i64 77, .int .i64 0, .int .i64 0, .int .i64 0]) := CellsAt.new w1 _ _ _ rfl
  have B2 : Hid (Below w.heap.size w (w1.alloc (.cells #[.int .i64 77, .int .i64 0, .int .i64 0, .int .i64 0] TE))) := B1.out.alloc z1 _
  have zx : w1.heap.size < (w1.alloc (.cells #[.int .i64 77, .int .i64 0, .int .i64 0, .int .i64 0] TE)).heap.size := by simp
  clear B1
  generalize w1.alloc (.cells #[.int .i64 77, .int .i64 0, .int .i64 0, .int .i64 0] TE) = w2 at *
  have y0 := HX.out.at_ 0 rfl; have y1 := HX.out.at_ 1 rfl; have y2 := HX.out.at_ 2 rfl; have y3 := HX.out.at_ 3 rfl; have yz := HX.out.lt
  go_wp2_with fail
  refine (ample_ent xs.length (xs.flatMap entLay) _ 77 0 0 0 _ (src_recs (HV.out.later entLay_len B2.out (Nat.le_refl _)) (by decide) entLay_len) (ent_one _) (by omega)).mono ?_
  rintro e w3 ⟨g, rfl, ho, hb3⟩
  have B3 := Lib.hid (B2.out.trans (hb3.mono B2.out.size))
  have q1 := own_blk ho
  have O3 : Hid (One w3 w2.heap.size g xs) := ⟨ho⟩
  have X3 := Lib.hid (HX.out.call hb3)
  have z3 := hb3.size
  have z2 := B2.out.size
  have q2 := q1.2
  clear ho hb3 HX y0 y1 y2 y3 yz q1 B2
  go_wp2_with fail
  refine (put_any xs n k code _ _ (recs_front O3.out.o (by omega)) (by omega)).mono ?_
  rintro e w4 ⟨va, la, r, rfl, hla, hA, hb4⟩
  have B4 := Lib.hid (B3.out.trans (hb4.mono B3.out.size))
  have O4 := Lib.hid (O3.out.call hb4)
  have X4 := Lib.hid (X3.out.call hb4)
  have A4 := Lib.hid hA
  have z4 := hb4.size
  clear hA hb4 O3 X3 B3
  go_wp2_with fail
  refine (text_any xs _ _ (recs_front O4.out.o (by omega)) (by omega)).mono ?_
  rintro e w5 ⟨⟨s5, c5, rfl⟩, hb5⟩
  have B5 := Lib.hid (B4.out.trans (hb5.mono B4.out.size))
  have O5 := Lib.hid (O4.out.call hb5)
  have X5 := Lib.hid (X4.out.call hb5)
  have A5 : Hid (OwnE w5 w3.heap.size va la) := own_later A4.out hb5 (Nat.le_refl _)
  have z5 := hb5.size
  have y0 := X5.out.at_ 0 rfl; have y1 := X5.out.at_ 1 rfl; have y2 := X5.out.at_ 2 rfl; have y3 := X5.out.at_ 3 rfl
  have yz := X5.out.lt
  clear hb5 O4 X4 A4 B4
  go_wp2_with fail
  refine (stays_ent xs g _ 77 0 0 0 _ (recs_front O5.out.o (by omega)) (HV.out.later entLay_len B5.out (Nat.le_refl _)) (by omega) O5.out.c O5.out.d).mono ?_
  rintro e w6 ⟨rfl, hb6⟩
  have B6 := Lib.hid (B5.out.trans (hb6.mono B5.out.size))
  have O6 := Lib.hid (O5.out.call hb6)
  have A6 : Hid (OwnE w6 w3.heap.size va la) := own_later A5.out hb6 (Nat.le_refl _)
  have z6 := hb6.size
  clear hb6 O5 X5 A5 B5 y0 y1 y2 y3 yz
  go_wp2_with fail
  refine (clone_ent la.length (la.flatMap entLay) va _ (src_recs (own_recs A6.out entLay_len) (by decide) entLay_len) (ent_one _) (by omega)).mono ?_
  rintro e w7 ⟨vx, rfl, hX, hb7⟩
  have B7 := Lib.hid (B6.out.trans (hb7.mono B6.out.size))
  have O7 := O6.out.call hb7
  have K7 := Lib.hid (own_blk O7.o).1
  have A7 : Hid (OwnE w7 w3.heap.size va la) := own_later A6.out hb7 (Nat.le_refl _)
  have Y7 : Hid (OwnE w7 w3.heap.size vx la) := own_monoA hX (by omega)
  have z7 := B7.out.size
  clear hb7 hX O6 A6 B6 O7
  go_wp2_with fail
  refine (spoil_ent g xs.length (xs.length + 3) 0 0 0 0 _ K7.out (by omega) (by omega)).mono ?_
  rintro e w8 ⟨rfl, hg8⟩
  have B8 := Lib.hid (B7.out.grown hg8 z7 (fun k e => by cases e; omega))
  have A8 : Hid (OwnE w8 w3.heap.size va la) := own_far A7.out hg8 (fun e => by have := (A7.out.lt g e).1; omega)
  have Y8 : Hid (OwnE w8 w3.heap.size vx la) := own_far Y7.out hg8 (fun e => by have := (Y7.out.lt g e).1; omega)
  clear hg8 A7 Y7 K7 B7
  go_wp2_with fail
  refine (equal_ent la va vx _ (own_recs A8.out entLay_len) (own_recs Y8.out entLay_len) (by omega)).mono ?_
  rintro e w9 ⟨rfl, n9, rfl⟩
  go_wp2
  go_ret
  exact ⟨rfl, by have := B8.out; repeat (first | with_reducible exact Below.refl _ _ | with_reducible exact this | ((with_reducible refine Below.setCell ?_ ?_ _); rotate_left; (· first | (simp; done) | omega | (simp; omega))) | with_reducible refine below_drewN ?_ _ | with_reducible refine Below.drew ?_ | ((with_reducible refine Below.alloc ?_ ?_ _); rotate_left; (· first | (simp; done) | omega | (simp; omega))) | exact Below.refl _ _ | exact this | refine Below.setCell ?_ (by first | (simp; done) | omega | (simp; omega)) _ | refine below_drewN ?_ _ | refine Below.drew ?_ | refine Below.alloc ?_ (by first | (simp; done) | omega | (simp; omega)) _)⟩
theorem law (a : Option Addr) (len cap : Nat) (xs : List EntR) (n k code : Int) (w : World)
    (h : IsRecs 4 entLay entFit w a len cap xs) (hr : len ≤ cap ∧ cap * 32 ≤ 140737488351232) (h1 : -9223372036854775808 ≤ n ∧ n ≤ 9223372036854775807) (h2 : -9223372036854775808 ≤ k ∧ k ≤ 9223372036854775807) (h3 : -9223372036854775808 ≤ code ∧ code ≤ 9223372036854775807) :
    Calls Try.prog 6 #[.slice a len cap, .int .i64 n, .int .i64 k, .int .i64 code] w fun e w' => e = .returned (.bool true) ∧ Below w.heap.size w w' := by
  obtain ⟨q3, q4, -⟩ := isRecs_recs h (by omega) entLay_len
  exact way (xs.take len) n k code _ w q3 (by omega)
set_option maxRecDepth 100000 in
theorem lifted (os : Os) (started : os.Started) (H : Type) (enc : TypeId × Value → H) :
    ReturnsInHanded {} Try.checked os 6 .any (Rows.logOwnSpec.pre6 enc Try.prog Try.f6 Rows.logOwnRow.domain false) (Rows.logOwnSpec.post enc Try.prog Try.f6 false true false false) := by
  refine returnsInHanded_of_change_sized (C := Try.checked) own started (by kernel_rfl) Try.func6
    (ChangeSpec.witness6 (enc := enc) (C := Try.checked) false ⟨#[], #[.slice none 0 0, .int .i64 0, .int .i64 0, .int .i64 0], []⟩ 8 (by kernel_rfl) (by kernel_rfl) (by kernel_rfl) (by kernel_rfl)) ?_
  intro W base args ds gs before hval0 hW hcnd hsz0 _
  have hsz : (DataW.weightsEach Try.prog (Try.f6.params.toList ++ Rows.logOwnSpec.plain.varTypes Try.prog) (ds ++ gs)).all (· ≤ reachBytes) = true := hsz0
  have hval : ∀ (j : Nat) t v, Try.f6.params[j]? = some t → args[j]? = some v → Value.okWide Try.prog W .any base t v := hval0
  have hW' := hW
  obtain ⟨p, q, hA0, hV, rfl, hfz, hnd⟩ := hW
  have hA : DataW.TrodAll enc Try.prog W 0 (fun _ => true) true Try.f6.params.toList args.toList ds p := hA0
  rw [Try.params6] at hA hval hsz
  obtain ⟨v0, vs0, d0, ds0, p0, q0, hargs, rfl, rfl, h0, r0⟩ := trodAll_cons hA
  obtain ⟨v1, vs1, d1, ds1, p1, q1, rfl, rfl, rfl, h1, r1⟩ := trodAll_cons r0
  obtain ⟨v2, vs2, d2, ds2, p2, q2, rfl, rfl, rfl, h2, r2⟩ := trodAll_cons r1
  obtain ⟨v3, vs3, d3, ds3, p3, q3, rfl, rfl, rfl, h3, r3⟩ := trodAll_cons r2
  obtain ⟨rfl, rfl, rfl⟩ := trodAll_nil r3
  obtain rfl : args = #[v0, v1, v2, v3] := by cases args; simp_all
  obtain ⟨rfl, rfl⟩ := trodVars_none hV
  have k0 := h0
  have lt0 : ∀ x ∈ p0, x.block < W.heap.size := by obtain ⟨m, hm⟩ := k0; exact DataW.trod_lt m _ _ _ hm
  have k1 := h1
  have lt1 : ∀ x ∈ p1, x.block < W.heap.size := by obtain ⟨m, hm⟩ := k1; exact DataW.trod_lt m _ _ _ hm
  have k2 := h2
  have lt2 : ∀ x ∈ p2, x.block < W.heap.size := by obtain ⟨m, hm⟩ := k2; exact DataW.trod_lt m _ _ _ hm
  have k3 := h3
  have lt3 : ∀ x ∈ p3, x.block < W.heap.size := by obtain ⟨m, hm⟩ := k3; exact DataW.trod_lt m _ _ _ hm
  obtain ⟨sa0, sl0, sc0, rfl⟩ := okWide_slice Try.underlying38 (hval 0 38 v0 rfl rfl)
  obtain ⟨a0, len0, cap0, z0, e0, w0⟩ := leaf_recs (ts := [3, 3, 3, 3]) 4 entLay entFit 12 (Try.underlying38) (by kernel_rfl) (by kernel_rfl) rfl ent_dec (by obtain ⟨fuel, hf⟩ := h0; exact ⟨fuel, _, by simpa [Value.cells] using hf⟩)
  simp only [Value.slice.injEq] at e0
  obtain ⟨rfl, rfl, rfl⟩ := e0
  have R0 := cap_le (B := 32) Try.underlying38 k0 (fun elems spare hd => by have := sized_slice hsz (j := 0) (t := 38) (e := 42) (elems := elems) (spare := spare) rfl (by rw [← hd]; rfl) Try.underlying38; exact this)
  obtain ⟨a1, rfl, rfl, rfl, w1⟩ := open_int Try.underlying3 (hval 1 3 v1 rfl rfl) h1
  obtain ⟨a2, rfl, rfl, rfl, w2⟩ := open_int Try.underlying3 (hval 2 3 v2 rfl rfl) h2
  obtain ⟨a3, rfl, rfl, rfl, w3⟩ := open_int Try.underlying3 (hval 3 3 v3 rfl rfl) h3
  clear hA0 hval0
  refine (law sa0 sl0 sc0 z0 a1 a2 a3 W w0 R0 (bounds_i64 w1) (bounds_i64 w2) (bounds_i64 w3)).mono fun e W' ⟨he, bel⟩ => ?_
  subst he
  exact ⟨_, rfl, _, _, _, [], _, [], hW', trodAll_mk1 (shut_bool Try.underlying4 _), (trodAll_cons_mk (Below.trod laidOut (by kernel_rfl) (of_decide_eq_true (by kernel_rfl)) k0 bel lt0) (trodAll_cons_mk (Below.trod laidOut (by kernel_rfl) (of_decide_eq_true (by kernel_rfl)) k1 bel lt1) (trodAll_cons_mk (Below.trod laidOut (by kernel_rfl) (of_decide_eq_true (by kernel_rfl)) k2 bel lt2) (trodAll_cons_mk (Below.trod laidOut (by kernel_rfl) (of_decide_eq_true (by kernel_rfl)) k3 bel lt3) trodAll_mk0)))), rfl, bel.frame _, fun h => by cases h⟩
theorem over : Rows.logOwnRow.holds Try.pinned (OpenSpec.ofChange Rows.logOwnSpec) :=
  OpenClaim.holds_of_wide 6 Try.f6 rfl rfl rfl rfl rfl rfl rfl ⟨rfl, rfl, rfl, rfl, rfl⟩ rfl rfl rfl rfl rfl (by kernel_rfl) Try.func6 (by kernel_rfl)
    (of_decide_eq_true (by kernel_rfl)) (by unfold Func.isWrapper; first | (rw [if_pos (by decide +kernel)]; kernel_rfl) | (rw [if_neg (by decide +kernel)]; exact ⟨rfl, rfl⟩))
    (fun os started H enc _ => lifted os started H enc)
theorem proved : Rows.LogOwnSaid := over
#print axioms proved

end Go.Proofs.Ytglagndpholejaa.logOwn
