/- Copies and comparisons of logs; what log.Put computes. -/
import Derived.Test.YtglagndpholejaaLogCheck
import Derived.Test.YtglagndpholejaaCut
import Derived.Deep.AppendLies
import Derived.Deep.RegionLaw
import Derived.Deep.DeepCutAuto
import Derived.Laws.StructEq
namespace Go.Proofs.Ytglagndpholejaa
open Go.ChangeShapes Go.WideShapes Go.ChangeAt Go.RowKit
set_option linter.unusedVariables false

theorem src_le {w : World} {v : Value} {k m : Nat} {news : List Value} (h : SrcAt w v k m news) : ∃ a c, v = .slice a m c ∧ (a = none → m = 0) := by
  rcases h with ⟨c, rfl, rfl, rfl, -⟩ | ⟨ad, c, rfl, -⟩
  · exact ⟨none, 0, rfl, fun _ => rfl⟩
  · exact ⟨some ad, c, rfl, fun h => by cases h⟩
/-- a row of the call's own, a cell set -/
theorem own_setK {w : World} {base g n cap j k : Nat} {e : TypeId} {xs : List Value} (h : w.ownsRow base e k (.slice (some ⟨g, 0, none⟩) n cap) n xs) (u : Value) : (w.setCell ⟨g, j, none⟩ u).ownsRow base e k (.slice (some ⟨g, 0, none⟩) n cap) n (xs.set j u) := by
  obtain ⟨h0, ⟨h1, -⟩ | ⟨g', cap', cur, e1, e2, e3, e4, e5, e6, e7⟩⟩ := h
  · cases h1
  · cases e1
    refine ⟨by simpa using h0, .inr ⟨g, cap, cur.setIfInBounds j u, rfl, e2, ?_, e4, e5, by simpa using e6, ?_⟩⟩
    · simp [World.setCell, Array.getElem?_modify, e3]
    · rw [Array.toList_setIfInBounds, List.take_set, e7]

theorem infoE : (Try.prog.info? 42).map (fun i => (i.zero, i.size, i.bytes)) = some (some (.agg #[.int .i64 0, .int .i64 0, .int .i64 0, .int .i64 0]), 4, 32) := by kernel_rfl
set_option maxHeartbeats 2000000 in
theorem clone_ent (m : Nat) (news : List Value) (v : Value) (w : World) (hv : SrcAt w v 4 m news) (ho : ∀ u ∈ news, u.oneCell' = true) (hx : m * 32 ≤ 140737488351232) :
    Calls Try.prog 25 #[v] w (CatPost w 42 4 m news) := by
  obtain ⟨i0, hi, hz0, hz1, hz2⟩ := info_parts infoE
  have hnil := @Lib.run_eql_slice_nil Try.prog
  have hw0 : w.heap.size ≤ (w.alloc (.cells #[] 42)).heap.size := by simp
  have how := own_empty w 42 4
  have HS := Lib.hid (hv.below ((Below.refl w.heap.size w).alloc (Nat.le_refl _) (.cells #[] 42)) (Nat.le_refl _))
  have HO := Lib.hid ho
  rcases hv with ⟨c, rfl, rfl, rfl, rfl⟩ | ⟨ad, c, rfl, -⟩
  · go_enter Try.func25, Try.ntmps25
    go_wp2
    go_ret
    exact ⟨_, rfl, World.ownsRow_nil _ _ _ _, Below.refl _ _⟩
  · clear ho
    go_enter Try.func25, Try.ntmps25
    go_wp2_with (at_builtin; refine wpList_append_src rfl _ _ 38 rfl w.heap.size 42 i0 (.agg #[.int .i64 0, .int .i64 0, .int .i64 0, .int .i64 0]) 4 32 Try.underlying38 hi hz0 hz1 hz2 rfl (by decide) _ _ _ rfl how _ m news rfl HS.out HO.out (by unfold maxLen; omega) (by omega) hw0 ?_; intro v' w1 hown' hgrow)
    go_ret
    rw [Nat.zero_add, List.nil_append] at hown'
    exact ⟨_, rfl, hown', ((Below.refl _ _).alloc (Nat.le_refl _) _).grown hgrow hw0 (fun k e => by cases e; exact Nat.le_refl _)⟩

theorem eqEnt (a b c d : Int) (w : World) : (Op.equalIn 10000 42 (entV (a, b, c, d)) (entV (a, b, c, d))).run Try.prog w = .ok true w := by
  have u3 := Try.underlying3
  have a3 := Try.isAgg3
  have z3 := Try.sizeOf3
  rw [show (10000 : Nat) = 9999 + 1 from rfl, run_equalIn_struct w 9999 _ _ _ (by kernel_rfl) (by kernel_rfl)]
  have hf := Try.underlying42
  simp only [Program.fieldsOf, hf]
  go_simp
set_option maxHeartbeats 4000000 in
set_option maxRecDepth 100000 in
theorem equal_ent (xs : List EntR) (v u : Value) (w : World) (hv : RecsAt 4 entLay w v xs) (hu : RecsAt 4 entLay w u xs) (hx : xs.length ≤ 9223372036854775807) :
    Calls Try.prog 20 #[v, u] w fun e w' => e = .returned (.bool true) ∧ ∃ n, w' = w.drewN n := by
  obtain ⟨a, cap, rfl⟩ := hv.len
  obtain ⟨a2, cap2, rfl⟩ := hu.len
  have HV := Lib.hid hv; have HU := Lib.hid hu
  have hne : ((xs.length : Int) != (xs.length : Int)) = false := by simp
  clear hv hu
  go_enter Try.func20, Try.ntmps20
  go_wp2
  go_loopw [13] (fun i wr => (∃ k : Nat, k ≤ xs.length ∧ i = .int .i64 k) ∧ ∃ m, wr = w.drewN m) (fun i _ => xs.length - (intOf i).toNat)
  case atStart => exact ⟨⟨0, by omega, rfl⟩, 0, rfl⟩
  case round =>
    obtain ⟨⟨k, hk, rfl⟩, m, rfl⟩ := hrel
    by_cases hlt : k < xs.length
    · obtain ⟨x, hx'⟩ : ∃ x, xs[k]? = some x := ⟨_, List.getElem?_eq_getElem hlt⟩
      obtain ⟨b, off, cap', hv', hl1, hl2, hc⟩ := HV.out.at_ hx'
      obtain ⟨b2, off2, cap2', hv2', hm1, hm2, hc2⟩ := HU.out.at_ hx'
      cases hv'
      cases hv2'
      obtain ⟨f, l, c, m'⟩ := x
      have c0 := hc 0 (by omega); have c1 := hc 1 (by omega); have c2 := hc 2 (by omega); have c3 := hc 3 (by omega)
      have e0 := hc2 0 (by omega); have e1 := hc2 1 (by omega); have e2 := hc2 2 (by omega); have e3 := hc2 3 (by omega)
      change w.cell? ⟨b, off + k * 4, none⟩ = some (.int .i64 f) at c0
      change w.cell? ⟨b, off + k * 4 + 1, none⟩ = some (.int .i64 l) at c1
      change w.cell? ⟨b, off + k * 4 + 2, none⟩ = some (.int .i64 c) at c2
      change w.cell? ⟨b, off + k * 4 + 3, none⟩ = some (.int .i64 m') at c3
      change w.cell? ⟨b2, off2 + k * 4, none⟩ = some (.int .i64 f) at e0
      change w.cell? ⟨b2, off2 + k * 4 + 1, none⟩ = some (.int .i64 l) at e1
      change w.cell? ⟨b2, off2 + k * 4 + 2, none⟩ = some (.int .i64 c) at e2
      change w.cell? ⟨b2, off2 + k * 4 + 3, none⟩ = some (.int .i64 m') at e3
      have d1 : (k : Int) < (xs.length : Int) := by omega
      have d2 : k + 1 ≤ cap := by omega
      have d3 : k + 1 ≤ cap2 := by omega
      have qq := eqEnt f l c m'
      clear hc hc2 hx'
      go_wp2
      go_quiet (fail)
      go_wp2
      go_roundw
      case rel => exact ⟨⟨k + 1, by omega, by go_num⟩, _, by first | rfl | exact World.drewN_drewN _ _ _⟩
      case measure => simp [intOf]; omega
    · obtain rfl : k = xs.length := by omega
      go_wp2
      go_ret
      exact ⟨rfl, m, rfl⟩

theorem ent_one (xs : List EntR) : ∀ u ∈ xs.flatMap entLay, u.oneCell' = true := by
  intro u hu
  obtain ⟨x, -, hx⟩ := List.mem_flatMap.1 hu
  simp only [entLay, List.mem_cons, List.not_mem_nil, or_false] at hx
  rcases hx with rfl | rfl | rfl | rfl <;> rfl
theorem ent_len (xs : List EntR) : (xs.flatMap entLay).length = xs.length * 4 := by
  induction xs with
  | nil => rfl
  | cons x xs ih => rw [List.flatMap_cons, List.length_append, ih, List.length_cons]; show 4 + _ = _; omega
def putOk (xs : List EntR) (f l c : Int) : Prop := LogOk xs ∧ entOk (f, l, c, 1) ∧ (0 < xs.length → (xs.getD (xs.length - 1) ent0).1 ≤ f)
abbrev sameAs (x : EntR) (l c : Int) : Prop := x.2.1 = l ∧ x.2.2.1 = c
/-- a log with one entry more -/
def putL (xs : List EntR) (f l c : Int) : List EntR :=
  if 0 < xs.length ∧ sameAs (xs.getD (xs.length - 1) ent0) l c then xs.take (xs.length - 1) ++ [((xs.getD (xs.length - 1) ent0).1, l, c, min 9999 ((xs.getD (xs.length - 1) ent0).2.2.2 + 1))]
  else (if xs.length = 32 then xs.drop 1 else xs) ++ [(f, l, c, 1)]
def PutPost (w : World) (T : TypeId) (xs : List EntR) (f l c : Int) (e : Ending) (w' : World) : Prop :=
  (putOk xs f l c → ∃ v, e = .returned (.tuple #[v, .int .i64 0]) ∧ w'.ownsRow w.heap.size T 4 v (putL xs f l c).length ((putL xs f l c).flatMap entLay)) ∧
  (¬ putOk xs f l c → ∃ r : Int, r ≠ 0 ∧ e = .returned (.tuple #[.slice none 0 0, .int .i64 r])) ∧ Below w.heap.size w w'
theorem set_last (ys : List EntR) (f l c m m' : Int) : ((ys ++ [(f, l, c, m)]).flatMap entLay).set (ys.length * 4 + 3) (.int .i64 m') = (ys ++ [(f, l, c, m')]).flatMap entLay := by
  rw [List.flatMap_append, List.flatMap_append, List.set_append_right _ _ (by rw [ent_len]; omega), ent_len]
  congr 1
  rw [show ys.length * 4 + 3 - ys.length * 4 = 3 by omega]
  rfl
theorem put_done {w w' : World} {T : TypeId} {xs L : List EntR} {f l c : Int} {v : Value} (hok : putOk xs f l c) (hL : putL xs f l c = L) (h : w'.ownsRow w.heap.size T 4 v L.length (L.flatMap entLay)) (hb : Below w.heap.size w w') : PutPost w T xs f l c (.returned (.tuple #[v, .int .i64 0])) w' :=
  ⟨fun _ => ⟨v, rfl, by rw [hL]; exact h⟩, fun h => absurd hok h, hb⟩
theorem put_fail {w w' : World} {T : TypeId} {xs : List EntR} {f l c r : Int} (hno : ¬ putOk xs f l c) (hr : r ≠ 0) (hb : Below w.heap.size w w') : PutPost w T xs f l c (.returned (.tuple #[.slice none 0 0, .int .i64 r])) w' :=
  ⟨fun h => absurd h hno, fun _ => ⟨r, hr, rfl⟩, hb⟩
theorem cells_src {w : World} {b : Nat} {vs : List Value} (h : CellsAt w b vs) : ∀ j u, vs[j]? = some u → w.cell? ((⟨b, 0, none⟩ : Addr).add j) = some u := by
  intro j u hj
  have := h.at_ j hj
  cases j <;> simpa [Addr.add] using this
theorem own_mono4 {w : World} {base base' : Nat} {e : TypeId} {size : Nat} {v : Value} {n : Nat} {xs : List Value} (h : w.ownsRow base e size v n xs) (hb : base' ≤ base) : w.ownsRow base' e size v n xs :=
  ⟨h.1, h.2.imp id fun ⟨g, cap, cur, e, h1, h2⟩ => ⟨g, cap, cur, e, Nat.le_trans hb h1, h2⟩⟩
theorem src_drop {w : World} {g c : Nat} {xs : List EntR} (h : SrcAt w (.slice (some ⟨g, 0, none⟩) xs.length c) 4 xs.length (xs.flatMap entLay)) (hn : 0 < xs.length) :
    SrcAt w (.slice (some ⟨g, 4, none⟩) (xs.length - 1) (c - 1)) 4 (xs.length - 1) ((xs.drop 1).flatMap entLay) := by
  rcases h with ⟨d, h, -⟩ | ⟨ad, d, h, hl, hc⟩
  · cases h
  · cases h
    refine .inr ⟨⟨g, 4, none⟩, c - 1, rfl, by rw [ent_len, List.length_drop], fun j u hj => ?_⟩
    cases xs with
    | nil => simp at hn
    | cons x xs =>
      have h2 := hc (4 + j) u (by
        rw [List.flatMap_cons, List.getElem?_append_right (by show 4 ≤ _; omega)]
        simpa [entLay] using hj)
      have e : (⟨g, 0, none⟩ : Addr).add (4 + j) = ⟨g, 4 + j, none⟩ := by simp [Addr.add]
      rw [e] at h2
      cases j <;> simpa [Addr.add] using h2
theorem own_push {w : World} {base : Nat} {T : TypeId} {v : Value} {xs : List EntR} {n : Nat} {f l c m : Int} (h : w.ownsRow base T 4 v (n + 1) (xs.flatMap entLay ++ [.int .i64 f, .int .i64 l, .int .i64 c, .int .i64 m])) (hn : n = xs.length) :
    w.ownsRow base T 4 v (xs ++ [(f, l, c, m)]).length ((xs ++ [(f, l, c, m)]).flatMap entLay) := by
  rw [List.flatMap_append, List.length_append]
  subst hn
  exact h
set_option maxHeartbeats 8000000 in
set_option maxRecDepth 100000 in
theorem put_is (xs : List EntR) (f l c : Int) (v : Value) (w : World) (hv : RecsAt 4 entLay w v xs) (hm : xs.length ≤ 9223372036854775807) :
    Calls Try.prog 19 #[v, .int .i64 f, .int .i64 l, .int .i64 c] w (PutPost w 42 xs f l c) := by
  obtain ⟨a, cap, rfl⟩ := hv.len
  have HV := Lib.hid hv
  clear hv
  by_cases hlo : LogOk xs
  · by_cases heo : entOk (f, l, c, 1)
    · have HLO := Lib.hid hlo; have HEO := Lib.hid heo
      have h32 := hlo.1
      clear hlo heo
      go_enter Try.func19, Try.ntmps19
      go_wp2_with fail
      refine (logCheck_is xs _ _ HV.out hm).mono ?_
      rintro e w1 ⟨h1, -, hb⟩
      obtain rfl := h1 HLO.out
      have HB1 := Lib.hid hb
      clear h1 hb
      go_wp2_with fail
      refine (right_is f l c 1 _).mono ?_
      rw [if_pos HEO.out]
      rintro e w2 ⟨rfl, hb⟩
      have HX := Lib.hid ((CellsAt.new w1 [.int .i64 f, .int .i64 l, .int .i64 c, .int .i64 1] #[.int .i64 f, .int .i64 l, .int .i64 c, .int .i64 1] 42 rfl).call hb)
      have hb' : Below w1.heap.size w1 w2 := by repeat (first | with_reducible exact Below.refl _ _ | ((with_reducible refine Below.setCell ?_ ?_ _); rotate_left; (· first | (simp; done) | omega | (simp; omega))) | with_reducible refine below_drewN ?_ _ | with_reducible refine Below.drew ?_ | ((with_reducible refine Below.trans ?_ (Below.mono hb ?_)); rotate_left; (· first | (simp; done) | omega | (simp; omega))) | ((with_reducible refine Below.alloc ?_ ?_ _); rotate_left; (· first | (simp; done) | omega | (simp; omega))) | exact Below.refl _ _ | refine Below.setCell ?_ (by first | (simp; done) | omega | (simp; omega)) _ | refine below_drewN ?_ _ | refine Below.drew ?_ | refine Below.trans ?_ (Below.mono hb (by first | (simp; done) | omega | (simp; omega))) | refine Below.alloc ?_ (by first | (simp; done) | omega | (simp; omega)) _)
      have HB2 := Lib.hid (HB1.out.trans (hb'.mono HB1.out.size))
      clear hb hb' HB1
      obtain ⟨i0, hi, hz0, hz1, hz2⟩ := info_parts infoE
      go_wp2_with fail
      refine (clone_ent xs.length (xs.flatMap entLay) _ _ (src_recs (HV.out.later entLay_len HB2.out (Nat.le_refl _)) (by decide) entLay_len) (ent_one _) (by omega)).mono ?_
      rintro e w3 ⟨v3, rfl, hown, hb⟩
      have HX3 := Lib.hid (HX.out.call hb)
      have HB3 := Lib.hid (HB2.out.trans (hb.mono HB2.out.size))
      have HO3 := Lib.hid hown
      have HS3 := Lib.hid (src_recs (own_recs hown entLay_len) (by decide) entLay_len)
      obtain ⟨a3, c3, rfl⟩ := (own_recs hown entLay_len).len
      have x0 := HX3.out.at_ 0 rfl
      have x1 := HX3.out.at_ 1 rfl
      have x2 := HX3.out.at_ 2 rfl
      have x3 := HX3.out.at_ 3 rfl
      have z3 := HX3.out.lt
      have HZ2 := Lib.hid HB2.out.size
      clear hown hb HX HB2
      by_cases h0 : xs.length = 0
      · have q1 : ((xs.length : Int) == 32) = false := by simp; omega
        have q2 : decide ((1 : Int) ≤ (xs.length : Int)) = false := decide_eq_false (by omega)
        have HH0 := Lib.hid h0
        clear h0
        go_wp2_with fail
        have HOK : Hid (putOk xs f l c) := ⟨HLO.out, HEO.out, fun h => absurd h (by have := HH0.out; omega)⟩
        have HPL : Hid (putL xs f l c = xs ++ [(f, l, c, 1)]) := (by unfold putL; rw [if_neg (by have := HH0.out; omega), if_neg (by have := HH0.out; omega)] : putL xs f l c = xs ++ [(f, l, c, 1)])
        have zw := HB3.out.size
        go_region_law (first | (go_simp; go_at_call 25; refine (clone_ent xs.length (xs.flatMap entLay) _ _ (HS3.out.below (by first | exact Below.refl _ _ | exact (Below.refl w3.heap.size w3).drew | exact ((Below.refl w3.heap.size w3).alloc (Nat.le_refl _) _).drew | exact ((Below.refl w3.heap.size w3).alloc (Nat.le_refl _) _)) (Nat.le_refl _)) (ent_one _) (by omega)).mono ?_; rintro e5 w5 ⟨v5, rfl, hown5, hb5⟩; have HX5 : CellsAt w5 w1.heap.size [.int .i64 f, .int .i64 l, .int .i64 c, .int .i64 1] := (by first | exact HX3.out.drew.call hb5 | exact (HX3.out.alloc _).drew.call hb5 | exact (HX3.out.drew.alloc _).call hb5); have y0 := HX5.at_ 0 rfl; have y1 := HX5.at_ 1 rfl; have y2 := HX5.at_ 2 rfl; have y3 := HX5.at_ 3 rfl; have yz := HX5.lt; have ys : w3.heap.size ≤ w5.heap.size := Nat.le_trans (by simp) hb5.size; have OWN5 : w5.ownsRow w.heap.size 42 4 v5 xs.length (xs.flatMap entLay) := own_mono4 hown5 (by first | exact zw | (simp; omega))) | (refine step_append_lies _ rfl (.tmp 72) (.tmp 74) 38 rfl w.heap.size 42 i0 (.agg #[.int .i64 0, .int .i64 0, .int .i64 0, .int .i64 0]) 4 32 Try.underlying38 hi hz0 hz1 hz2 rfl (by decide) v5 xs.length (xs.flatMap entLay) (by simp [Act.eval]) (by first | exact OWN5 | exact OWN5.alloc _) ⟨w5.heap.size, 0, none⟩ 1 1 [.int .i64 f, .int .i64 l, .int .i64 c, .int .i64 1] (by simp [Act.eval]) rfl (by exact cells_src (CellsAt.new _ _ _ _ rfl)) (by simp [Value.oneCell']) (by decide) (by unfold maxLen; omega) (by omega) (by first | omega | (simp; omega)) _ rfl ?_; intro g6 cap6 w6 hown6 hgrow6 hg6 hlt6) | (refine step_append_lies _ rfl (.tmp 72) (.tmp 74) 38 rfl w.heap.size 42 i0 (.agg #[.int .i64 0, .int .i64 0, .int .i64 0, .int .i64 0]) 4 32 Try.underlying38 hi hz0 hz1 hz2 rfl (by decide) v5 xs.length (xs.flatMap entLay) (by simp [Act.eval]) (by first | exact OWN5 | exact OWN5.alloc _) ⟨w3.heap.size, 0, none⟩ 1 1 [.int .i64 f, .int .i64 l, .int .i64 c, .int .i64 1] (by simp [Act.eval]) rfl (by exact cells_src ((CellsAt.new _ _ _ _ rfl).drew.call hb5)) (by simp [Value.oneCell']) (by decide) (by unfold maxLen; omega) (by omega) (by first | omega | (simp; omega)) _ rfl ?_; intro g6 cap6 w6 hown6 hgrow6 hg6 hlt6))
        all_goals
          have B5 : Below w3.heap.size w3 w5 := by repeat (first | with_reducible exact Below.refl _ _ | ((with_reducible refine Below.setCell ?_ ?_ _); rotate_left; (· first | (simp; done) | omega | (simp; omega))) | with_reducible refine below_drewN ?_ _ | with_reducible refine Below.drew ?_ | ((with_reducible refine Below.trans ?_ (Below.mono hb5 ?_)); rotate_left; (· first | (simp; done) | omega | (simp; omega))) | ((with_reducible refine Below.alloc ?_ ?_ _); rotate_left; (· first | (simp; done) | omega | (simp; omega))) | exact Below.refl _ _ | refine Below.setCell ?_ (by first | (simp; done) | omega | (simp; omega)) _ | refine below_drewN ?_ _ | refine Below.drew ?_ | refine Below.trans ?_ (Below.mono hb5 (by first | (simp; done) | omega | (simp; omega))) | refine Below.alloc ?_ (by first | (simp; done) | omega | (simp; omega)) _)
          have B6 : Below w.heap.size w w6 := (HB3.out.trans (B5.mono zw)).trans (by first | exact (Below.refl w.heap.size w5).grown hgrow6 (Nat.le_trans zw ys) (fun j e => (OWN5.lt j e).1) | exact ((Below.refl w.heap.size w5).alloc (Nat.le_trans zw ys) _).grown hgrow6 (by simp; omega) (fun j e => (OWN5.lt j e).1))
          have OW6 := Lib.hid (own_push hown6 rfl)
          have BB6 := Lib.hid B6
          clear y0 y1 y2 y3 yz ys hown5 hb5 HX5 OWN5 hown6 hgrow6 hg6 hlt6 B5 B6
          go_wp2
          go_ret2
          first | exact put_done HOK.out HPL.out OW6.out BB6.out | (have o6 := OW6.out; rw [Nat.sub_add_cancel hI1] at o6; exact put_done HOK.out HPL.out o6 BB6.out)
      · obtain ⟨m, hm1⟩ : ∃ m, xs.length = m + 1 := ⟨xs.length - 1, by omega⟩
        obtain ⟨last, hlast⟩ : ∃ x, xs[m]? = some x := ⟨_, List.getElem?_eq_getElem (by omega)⟩
        have hld : xs.getD (xs.length - 1) ent0 = last := by rw [hm1, Nat.add_sub_cancel, List.getD_eq_getElem?_getD, hlast]; rfl
        have hlok := (HLO.out.2 m (by omega)).1
        rw [List.getD_eq_getElem?_getD, hlast] at hlok
        obtain ⟨g, cg, hgv, hg1, hg2, hg3, hg4⟩ := (own_form HO3.out).resolve_left (by rintro ⟨-, h⟩; omega)
        cases hgv
        obtain ⟨b, off, cap', hv', hl1, hl2, hc⟩ := (HV.out.later entLay_len HB3.out (Nat.le_refl _)).at_ hlast
        cases hv'
        have hsplit : xs = xs.take m ++ [last] := by
          have := List.take_append_drop m xs
          rw [List.drop_eq_getElem_cons (by omega), List.drop_eq_nil_of_le (by omega)] at this
          rw [List.getElem?_eq_getElem (by omega)] at hlast
          injection hlast with hlast
          rw [← hlast]; exact this.symm
        have hgc := HO3.out.cellAt (m * 4 + 3) (by omega)
        obtain ⟨pf, pl, pc, pm⟩ := last
        have hfa := flatMap_at (k := 4) entLay_len hlast (show 3 < 4 by omega)
        rw [hfa] at hgc
        change w3.cell? ⟨g, m * 4 + 3, none⟩ = some (.int .i64 pm) at hgc
        have hgf : ∀ o, w3.frozen? ⟨g, o, none⟩ = false := fun o => HO3.out.frozenAt o
        have c0 := hc 0 (by omega)
        have c1 := hc 1 (by omega)
        have c2 := hc 2 (by omega)
        have c3' := hc 3 (by omega)
        change w3.cell? ⟨b, off + m * 4, none⟩ = some (.int .i64 pf) at c0
        change w3.cell? ⟨b, off + m * 4 + 1, none⟩ = some (.int .i64 pl) at c1
        change w3.cell? ⟨b, off + m * 4 + 2, none⟩ = some (.int .i64 pc) at c2
        change w3.cell? ⟨b, off + m * 4 + 3, none⟩ = some (.int .i64 pm) at c3'
        have hbs : b < w3.heap.size := World.block_lt_of_cell? _ _ c0
        have hpm : 1 ≤ pm ∧ pm ≤ 9999 := hlok.2.2.2
        have q1 : ∀ (h : xs.length = 32 → False), ((xs.length : Int) == 32) = false := fun h => by rw [beq_eq_false_iff_ne]; intro e; exact h (by omega)
        have q2 : decide ((1 : Int) ≤ (xs.length : Int)) = true := decide_eq_true (by omega)
        have HMI := Lib.hid (show (xs.length : Int) - 1 = (m : Int) by omega)
        have HM1 := Lib.hid hm1; have HLD := Lib.hid hld; have HSPL := Lib.hid hsplit; have HQ1 := Lib.hid q1
        have d1 : (m : Int) < (xs.length : Int) := by omega
        have d2 : m + 1 ≤ cap := by omega
        have d3 : m + 1 ≤ c3 := by omega
        have zw := HB3.out.size
        clear hc hlast hld hlok hfa h0 hm1 hsplit q1
        go_upto_region 10 with (fail)
        rw [HMI.out]
        by_cases hfp : f < pf
        · have HNO : Hid (¬ putOk xs f l c) := (fun h => by
            have := h.2.2 (by have := HM1.out; omega)
            rw [HLD.out] at this
            simp only at this; omega : ¬ putOk xs f l c)
          have t1 : decide (f < pf) = true := decide_eq_true hfp
          clear hfp
          go_wp2
          go_ret2
          exact put_fail HNO.out (by decide) (by have := HB3.out; repeat (first | with_reducible exact Below.refl _ _ | with_reducible exact this | ((with_reducible refine Below.setCell ?_ ?_ _); rotate_left; (· first | (simp; done) | omega | (simp; omega))) | with_reducible refine below_drewN ?_ _ | with_reducible refine Below.drew ?_ | ((with_reducible refine Below.alloc ?_ ?_ _); rotate_left; (· first | (simp; done) | omega | (simp; omega))) | exact Below.refl _ _ | exact this | refine Below.setCell ?_ (by first | (simp; done) | omega | (simp; omega)) _ | refine below_drewN ?_ _ | refine Below.drew ?_ | refine Below.alloc ?_ (by first | (simp; done) | omega | (simp; omega)) _))
        · have HOK : Hid (putOk xs f l c) := ⟨HLO.out, HEO.out, fun _ => by rw [HLD.out]; simp only; omega⟩
          have t1 : decide (f < pf) = false := decide_eq_false hfp
          clear hfp
          by_cases hsm : pl = l ∧ pc = c
          · obtain ⟨rfl, rfl⟩ := hsm
            have t2 : (pl == pl) = true := by simp
            have t3 : (pc == pc) = true := by simp
            have HPL : Hid (putL xs f pl pc = xs.take m ++ [(pf, pl, pc, min 9999 (pm + 1))]) := (by
              unfold putL
              rw [HLD.out, if_pos ⟨by have := HM1.out; omega, rfl, rfl⟩, HM1.out, Nat.add_sub_cancel] : putL xs f pl pc = xs.take m ++ [(pf, pl, pc, min 9999 (pm + 1))])
            obtain ⟨pm', hpm'⟩ : ∃ p, min 9999 (pm + 1) = p := ⟨_, rfl⟩
            rw [hpm'] at HPL
            have hOS : (w3.setCell ⟨g, m * 4 + 3, none⟩ (.int .i64 pm')).ownsRow w2.heap.size 42 4 (.slice (some ⟨g, 0, none⟩) xs.length c3) (xs.take m ++ [(pf, pl, pc, pm')]).length ((xs.take m ++ [(pf, pl, pc, pm')]).flatMap entLay) := by
              have h1 := own_setK (j := m * 4 + 3) HO3.out (.int .i64 pm')
              have h2 := set_last (xs.take m) pf pl pc pm pm'
              rw [List.length_take, Nat.min_eq_left (by have := HM1.out; omega), ← HSPL.out] at h2
              rw [h2] at h1
              have h3 : (xs.take m ++ [(pf, pl, pc, pm')]).length = xs.length := by
                rw [List.length_append, List.length_take, Nat.min_eq_left (by have := HM1.out; omega), HM1.out]; rfl
              rw [h3]; exact h1
            have HOS := Lib.hid (own_mono4 hOS HZ2.out)
            have hpc : (pm + 1 < 9999 ∧ pm' = pm + 1) ∨ (pm = 9998 ∧ pm' = 9999) ∨ (pm = 9999 ∧ pm' = 9999) := by omega
            have hgw : w.heap.size ≤ g := Nat.le_trans HZ2.out hg1
            have hb4 : Below w.heap.size w ((w3.setCell ⟨g, m * 4 + 3, none⟩ (.int .i64 pm')).alloc (.cells #[.int .i64 pf, .int .i64 pl, .int .i64 pc, .int .i64 pm] 42)) := by have := HB3.out; repeat (first | with_reducible exact Below.refl _ _ | with_reducible exact this | ((with_reducible refine Below.setCell ?_ ?_ _); rotate_left; (· first | (simp; done) | omega | (simp; omega))) | with_reducible refine below_drewN ?_ _ | with_reducible refine Below.drew ?_ | ((with_reducible refine Below.alloc ?_ ?_ _); rotate_left; (· first | (simp; done) | omega | (simp; omega))) | exact Below.refl _ _ | exact this | refine Below.setCell ?_ (by first | (simp; done) | omega | (simp; omega)) _ | refine below_drewN ?_ _ | refine Below.drew ?_ | refine Below.alloc ?_ (by first | (simp; done) | omega | (simp; omega)) _)
            have HB4 := Lib.hid hb4
            have hOS4 : ((w3.setCell ⟨g, m * 4 + 3, none⟩ (.int .i64 pm')).alloc (.cells #[.int .i64 pf, .int .i64 pl, .int .i64 pc, .int .i64 pm] 42)).ownsRow w.heap.size 42 4 (.slice (some ⟨g, 0, none⟩) xs.length c3) (xs.take m ++ [(pf, pl, pc, pm')]).length ((xs.take m ++ [(pf, pl, pc, pm')]).flatMap entLay) := by
              have h1 := (own_setK (j := m * 4 + 3) HO3.out (.int .i64 pm')).alloc (.cells #[.int .i64 pf, .int .i64 pl, .int .i64 pc, .int .i64 pm] 42)
              have h2 := set_last (xs.take m) pf pl pc pm pm'
              rw [List.length_take, Nat.min_eq_left (by have := HM1.out; omega), ← HSPL.out] at h2
              rw [h2] at h1
              have h3 : (xs.take m ++ [(pf, pl, pc, pm')]).length = xs.length := by
                rw [List.length_append, List.length_take, Nat.min_eq_left (by have := HM1.out; omega), HM1.out]; rfl
              rw [h3]; exact own_mono4 h1 HZ2.out
            have HOS4 := Lib.hid hOS4
            have hgs : g < w3.heap.size := hg2
            clear hOS hpm' HOS hb4 hOS4
            rcases hpc with ⟨p1, rfl⟩ | ⟨rfl, rfl⟩ | ⟨rfl, rfl⟩
            · go_wp2
              go_ret2
              first | exact put_done HOK.out HPL.out HOS4.out HB4.out | exact put_done HOK.out HPL.out HOS4.out.drew HB4.out.drew
            · go_wp2
              go_ret2
              first | exact put_done HOK.out HPL.out HOS4.out HB4.out | exact put_done HOK.out HPL.out HOS4.out.drew HB4.out.drew
            · go_wp2
              go_ret2
              first | exact put_done HOK.out HPL.out HOS4.out HB4.out | exact put_done HOK.out HPL.out HOS4.out.drew HB4.out.drew
          · have HPL : Hid (putL xs f l c = (if xs.length = 32 then xs.drop 1 else xs) ++ [(f, l, c, 1)]) := (by
              unfold putL
              rw [HLD.out, if_neg (fun h => hsm h.2)] : putL xs f l c = (if xs.length = 32 then xs.drop 1 else xs) ++ [(f, l, c, 1)])
            go_upto_region 14 with (fail)
            go_cut [46] (fun s wx => s = .bool false ∧ w3.alloc (.cells #[.int .i64 pf, .int .i64 pl, .int .i64 pc, .int .i64 pm] 42) = wx)
            case first =>
              by_cases hp1 : pl = l
              · have t2 : (pl == l) = true := by simpa using hp1
                have t3 : (pc == c) = false := by rw [beq_eq_false_iff_ne]; exact fun e => hsm ⟨hp1, e⟩
                clear hsm hp1
                go_wp2
                go_meet
                exact ⟨rfl, rfl⟩
              · have t2 : (pl == l) = false := by simpa using hp1
                clear hsm hp1
                go_wp2
                go_meet
                exact ⟨rfl, rfl⟩
            case rest =>
            obtain ⟨rfl, rfl⟩ := hcut
            go_upto_region 17 with (fail)
            have HX4 := Lib.hid (HX3.out.alloc (.cells #[.int .i64 pf, .int .i64 pl, .int .i64 pc, .int .i64 pm] 42))
            have HB4 : Hid (Below w.heap.size w (w3.alloc (.cells #[.int .i64 pf, .int .i64 pl, .int .i64 pc, .int .i64 pm] 42))) := by have := HB3.out; repeat (first | with_reducible exact Below.refl _ _ | with_reducible exact this | ((with_reducible refine Below.setCell ?_ ?_ _); rotate_left; (· first | (simp; done) | omega | (simp; omega))) | with_reducible refine below_drewN ?_ _ | with_reducible refine Below.drew ?_ | ((with_reducible refine Below.alloc ?_ ?_ _); rotate_left; (· first | (simp; done) | omega | (simp; omega))) | exact Below.refl _ _ | exact this | refine Below.setCell ?_ (by first | (simp; done) | omega | (simp; omega)) _ | refine below_drewN ?_ _ | refine Below.drew ?_ | refine Below.alloc ?_ (by first | (simp; done) | omega | (simp; omega)) _)
            have HS4 := Lib.hid (HS3.out.below ((Below.refl w3.heap.size w3).alloc (Nat.le_refl _) (.cells #[.int .i64 pf, .int .i64 pl, .int .i64 pc, .int .i64 pm] 42)) (Nat.le_refl _))
            generalize w3.alloc (.cells #[.int .i64 pf, .int .i64 pl, .int .i64 pc, .int .i64 pm] 42) = w4 at *
            have x0 := HX4.out.at_ 0 rfl
            have x1 := HX4.out.at_ 1 rfl
            have x2 := HX4.out.at_ 2 rfl
            have x3 := HX4.out.at_ 3 rfl
            have z3 := HX4.out.lt
            have zw := HB4.out.size
            clear HX3 HB3 HO3 HS3 hgc hgf c0 c1 c2 c3' hbs
            by_cases hfull : xs.length = 32
            · have q3 : ((xs.length : Int) == 32) = true := by rw [hfull]; rfl
              rw [if_pos hfull] at HPL
              have HS5 := Lib.hid (src_drop HS4.out (by omega))
              have hc31 : ¬ c3 = 1 := by omega
              have hx1 : (xs.drop 1).length = xs.length - 1 := by rw [List.length_drop]
              have HX1 := Lib.hid hx1
              have hI1 : 1 ≤ xs.length := by omega
              clear hfull hx1
              go_wp2_with fail
              go_region_law (first | (go_simp; go_at_call 25; refine (clone_ent (xs.length - 1) ((xs.drop 1).flatMap entLay) _ _ (HS5.out.below (by first | exact Below.refl _ _ | exact (Below.refl w4.heap.size w4).drew | exact ((Below.refl w4.heap.size w4).alloc (Nat.le_refl _) _).drew | exact ((Below.refl w4.heap.size w4).alloc (Nat.le_refl _) _)) (Nat.le_refl _)) (ent_one _) (by omega)).mono ?_; rintro e5 w5 ⟨v5, rfl, hown5, hb5⟩; have HX5 : CellsAt w5 w1.heap.size [.int .i64 f, .int .i64 l, .int .i64 c, .int .i64 1] := (by first | exact HX4.out.drew.call hb5 | exact (HX4.out.alloc _).drew.call hb5 | exact (HX4.out.drew.alloc _).call hb5); have y0 := HX5.at_ 0 rfl; have y1 := HX5.at_ 1 rfl; have y2 := HX5.at_ 2 rfl; have y3 := HX5.at_ 3 rfl; have yz := HX5.lt; have ys : w4.heap.size ≤ w5.heap.size := Nat.le_trans (by simp) hb5.size; have OWN5 : w5.ownsRow w.heap.size 42 4 v5 (xs.length - 1) ((xs.drop 1).flatMap entLay) := own_mono4 hown5 (by first | exact zw | (simp; omega))) | (refine step_append_lies _ rfl (.tmp 72) (.tmp 74) 38 rfl w.heap.size 42 i0 (.agg #[.int .i64 0, .int .i64 0, .int .i64 0, .int .i64 0]) 4 32 Try.underlying38 hi hz0 hz1 hz2 rfl (by decide) v5 (xs.length - 1) ((xs.drop 1).flatMap entLay) (by simp [Act.eval]) (by first | exact OWN5 | exact OWN5.alloc _) ⟨w5.heap.size, 0, none⟩ 1 1 [.int .i64 f, .int .i64 l, .int .i64 c, .int .i64 1] (by simp [Act.eval]) rfl (by exact cells_src (CellsAt.new _ _ _ _ rfl)) (by simp [Value.oneCell']) (by decide) (by unfold maxLen; omega) (by omega) (by first | omega | (simp; omega)) _ rfl ?_; intro g6 cap6 w6 hown6 hgrow6 hg6 hlt6) | (refine step_append_lies _ rfl (.tmp 72) (.tmp 74) 38 rfl w.heap.size 42 i0 (.agg #[.int .i64 0, .int .i64 0, .int .i64 0, .int .i64 0]) 4 32 Try.underlying38 hi hz0 hz1 hz2 rfl (by decide) v5 (xs.length - 1) ((xs.drop 1).flatMap entLay) (by simp [Act.eval]) (by first | exact OWN5 | exact OWN5.alloc _) ⟨w4.heap.size, 0, none⟩ 1 1 [.int .i64 f, .int .i64 l, .int .i64 c, .int .i64 1] (by simp [Act.eval]) rfl (by exact cells_src ((CellsAt.new _ _ _ _ rfl).drew.call hb5)) (by simp [Value.oneCell']) (by decide) (by unfold maxLen; omega) (by omega) (by first | omega | (simp; omega)) _ rfl ?_; intro g6 cap6 w6 hown6 hgrow6 hg6 hlt6))
              all_goals
                have B5 : Below w4.heap.size w4 w5 := by repeat (first | with_reducible exact Below.refl _ _ | ((with_reducible refine Below.setCell ?_ ?_ _); rotate_left; (· first | (simp; done) | omega | (simp; omega))) | with_reducible refine below_drewN ?_ _ | with_reducible refine Below.drew ?_ | ((with_reducible refine Below.trans ?_ (Below.mono hb5 ?_)); rotate_left; (· first | (simp; done) | omega | (simp; omega))) | ((with_reducible refine Below.alloc ?_ ?_ _); rotate_left; (· first | (simp; done) | omega | (simp; omega))) | exact Below.refl _ _ | refine Below.setCell ?_ (by first | (simp; done) | omega | (simp; omega)) _ | refine below_drewN ?_ _ | refine Below.drew ?_ | refine Below.trans ?_ (Below.mono hb5 (by first | (simp; done) | omega | (simp; omega))) | refine Below.alloc ?_ (by first | (simp; done) | omega | (simp; omega)) _)
                have B6 : Below w.heap.size w w6 := (HB4.out.trans (B5.mono zw)).trans (by first | exact (Below.refl w.heap.size w5).grown hgrow6 (Nat.le_trans zw ys) (fun j e => (OWN5.lt j e).1) | exact ((Below.refl w.heap.size w5).alloc (Nat.le_trans zw ys) _).grown hgrow6 (by simp; omega) (fun j e => (OWN5.lt j e).1))
                have OW6 := Lib.hid (own_push hown6 HX1.out.symm)
                have BB6 := Lib.hid B6
                clear y0 y1 y2 y3 yz ys hown5 hb5 HX5 OWN5 hown6 hgrow6 hg6 hlt6 B5 B6
                go_wp2
                go_ret2
                first | exact put_done HOK.out HPL.out OW6.out BB6.out | (have o6 := OW6.out; rw [Nat.sub_add_cancel hI1] at o6; exact put_done HOK.out HPL.out o6 BB6.out)
            · rw [if_neg hfull] at HPL
              have q3 := HQ1.out hfull
              clear hfull
              go_wp2_with fail
              go_region_law (first | (go_simp; go_at_call 25; refine (clone_ent xs.length (xs.flatMap entLay) _ _ (HS4.out.below (by first | exact Below.refl _ _ | exact (Below.refl w4.heap.size w4).drew | exact ((Below.refl w4.heap.size w4).alloc (Nat.le_refl _) _).drew | exact ((Below.refl w4.heap.size w4).alloc (Nat.le_refl _) _)) (Nat.le_refl _)) (ent_one _) (by omega)).mono ?_; rintro e5 w5 ⟨v5, rfl, hown5, hb5⟩; have HX5 : CellsAt w5 w1.heap.size [.int .i64 f, .int .i64 l, .int .i64 c, .int .i64 1] := (by first | exact HX4.out.drew.call hb5 | exact (HX4.out.alloc _).drew.call hb5 | exact (HX4.out.drew.alloc _).call hb5); have y0 := HX5.at_ 0 rfl; have y1 := HX5.at_ 1 rfl; have y2 := HX5.at_ 2 rfl; have y3 := HX5.at_ 3 rfl; have yz := HX5.lt; have ys : w4.heap.size ≤ w5.heap.size := Nat.le_trans (by simp) hb5.size; have OWN5 : w5.ownsRow w.heap.size 42 4 v5 xs.length (xs.flatMap entLay) := own_mono4 hown5 (by first | exact zw | (simp; omega))) | (refine step_append_lies _ rfl (.tmp 72) (.tmp 74) 38 rfl w.heap.size 42 i0 (.agg #[.int .i64 0, .int .i64 0, .int .i64 0, .int .i64 0]) 4 32 Try.underlying38 hi hz0 hz1 hz2 rfl (by decide) v5 xs.length (xs.flatMap entLay) (by simp [Act.eval]) (by first | exact OWN5 | exact OWN5.alloc _) ⟨w5.heap.size, 0, none⟩ 1 1 [.int .i64 f, .int .i64 l, .int .i64 c, .int .i64 1] (by simp [Act.eval]) rfl (by exact cells_src (CellsAt.new _ _ _ _ rfl)) (by simp [Value.oneCell']) (by decide) (by unfold maxLen; omega) (by omega) (by first | omega | (simp; omega)) _ rfl ?_; intro g6 cap6 w6 hown6 hgrow6 hg6 hlt6) | (refine step_append_lies _ rfl (.tmp 72) (.tmp 74) 38 rfl w.heap.size 42 i0 (.agg #[.int .i64 0, .int .i64 0, .int .i64 0, .int .i64 0]) 4 32 Try.underlying38 hi hz0 hz1 hz2 rfl (by decide) v5 xs.length (xs.flatMap entLay) (by simp [Act.eval]) (by first | exact OWN5 | exact OWN5.alloc _) ⟨w4.heap.size, 0, none⟩ 1 1 [.int .i64 f, .int .i64 l, .int .i64 c, .int .i64 1] (by simp [Act.eval]) rfl (by exact cells_src ((CellsAt.new _ _ _ _ rfl).drew.call hb5)) (by simp [Value.oneCell']) (by decide) (by unfold maxLen; omega) (by omega) (by first | omega | (simp; omega)) _ rfl ?_; intro g6 cap6 w6 hown6 hgrow6 hg6 hlt6))
              all_goals
                have B5 : Below w4.heap.size w4 w5 := by repeat (first | with_reducible exact Below.refl _ _ | ((with_reducible refine Below.setCell ?_ ?_ _); rotate_left; (· first | (simp; done) | omega | (simp; omega))) | with_reducible refine below_drewN ?_ _ | with_reducible refine Below.drew ?_ | ((with_reducible refine Below.trans ?_ (Below.mono hb5 ?_)); rotate_left; (· first | (simp; done) | omega | (simp; omega))) | ((with_reducible refine Below.alloc ?_ ?_ _); rotate_left; (· first | (simp; done) | omega | (simp; omega))) | exact Below.refl _ _ | refine Below.setCell ?_ (by first | (simp; done) | omega | (simp; omega)) _ | refine below_drewN ?_ _ | refine Below.drew ?_ | refine Below.trans ?_ (Below.mono hb5 (by first | (simp; done) | omega | (simp; omega))) | refine Below.alloc ?_ (by first | (simp; done) | omega | (simp; omega)) _)
                have B6 : Below w.heap.size w w6 := (HB4.out.trans (B5.mono zw)).trans (by first | exact (Below.refl w.heap.size w5).grown hgrow6 (Nat.le_trans zw ys) (fun j e => (OWN5.lt j e).1) | exact ((Below.refl w.heap.size w5).alloc (Nat.le_trans zw ys) _).grown hgrow6 (by simp; omega) (fun j e => (OWN5.lt j e).1))
                have OW6 := Lib.hid (own_push hown6 rfl)
                have BB6 := Lib.hid B6
                clear y0 y1 y2 y3 yz ys hown5 hb5 HX5 OWN5 hown6 hgrow6 hg6 hlt6 B5 B6
                go_wp2
                go_ret2
                first | exact put_done HOK.out HPL.out OW6.out BB6.out | (have o6 := OW6.out; rw [Nat.sub_add_cancel hI1] at o6; exact put_done HOK.out HPL.out o6 BB6.out)
    · have HLO := Lib.hid hlo
      have HNO : Hid (¬ putOk xs f l c) := (fun h => heo h.2.1 : ¬ putOk xs f l c)
      have HEO := Lib.hid heo
      clear hlo heo
      go_enter Try.func19, Try.ntmps19
      go_wp2_with fail
      refine (logCheck_is xs _ _ HV.out hm).mono ?_
      rintro e w1 ⟨h1, -, hb⟩
      obtain rfl := h1 HLO.out
      have HB1 := Lib.hid hb
      clear h1 hb
      go_wp2_with fail
      refine (right_is f l c 1 _).mono ?_
      rw [if_neg HEO.out]
      rintro e w2 ⟨rfl, hb⟩
      have hb' : Below w1.heap.size w1 w2 := by repeat (first | with_reducible exact Below.refl _ _ | ((with_reducible refine Below.setCell ?_ ?_ _); rotate_left; (· first | (simp; done) | omega | (simp; omega))) | with_reducible refine below_drewN ?_ _ | with_reducible refine Below.drew ?_ | ((with_reducible refine Below.trans ?_ (Below.mono hb ?_)); rotate_left; (· first | (simp; done) | omega | (simp; omega))) | ((with_reducible refine Below.alloc ?_ ?_ _); rotate_left; (· first | (simp; done) | omega | (simp; omega))) | exact Below.refl _ _ | refine Below.setCell ?_ (by first | (simp; done) | omega | (simp; omega)) _ | refine below_drewN ?_ _ | refine Below.drew ?_ | refine Below.trans ?_ (Below.mono hb (by first | (simp; done) | omega | (simp; omega))) | refine Below.alloc ?_ (by first | (simp; done) | omega | (simp; omega)) _)
      have HB2 := Lib.hid (HB1.out.trans (hb'.mono HB1.out.size))
      clear hb hb' HB1
      go_wp2
      go_ret2
      exact put_fail HNO.out (by decide) HB2.out
  · have HLO := Lib.hid hlo
    have HNO : Hid (¬ putOk xs f l c) := (fun h => hlo h.1 : ¬ putOk xs f l c)
    clear hlo
    go_enter Try.func19, Try.ntmps19
    go_wp2_with fail
    refine (logCheck_is xs _ _ HV.out hm).mono ?_
    rintro e w1 ⟨-, h1, hb⟩
    obtain ⟨r, hr, rfl⟩ := h1 HLO.out
    have HB1 := Lib.hid hb
    have hr' : (r != 0) = true := by simpa using hr
    have HR := Lib.hid hr
    clear h1 hb hr
    go_wp2
    go_ret2
    exact put_fail HNO.out HR.out HB1.out

end Go.Proofs.Ytglagndpholejaa
