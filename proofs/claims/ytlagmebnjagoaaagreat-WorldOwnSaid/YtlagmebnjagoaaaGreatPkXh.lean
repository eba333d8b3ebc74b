/- A part of a proof. -/
import Derived.LoopN
import Derived.Test.YtlagmebnjagoaaaGreatPkA
import Derived.Test.YtlagmebnjagoaaaGreatPkT
import Derived.Test.YtlagmebnjagoaaaGreatPkZf
import Derived.Test.YtlagmebnjagoaaaGreatPkXg
set_option maxHeartbeats 16000000
set_option maxRecDepth 100000
namespace Go.Proofs.YtlagmebnjagoaaaGreat
open Go.ChangeShapes Go.WideShapes Go.ChangeAt Go.RowKit
set_option linter.unusedVariables false
structure Own (w w' : World) (b : Nat) (S : Stp) (D : Dyn) (vp vl vg : Value) : Prop where
  below : Below w.heap.size w w'
  hb : w.heap.size ≤ b
  wat : WAt w' b S D vp vl vg
theorem Own.call {w w1 w2 : World} {b : Nat} {S : Stp} {D : Dyn} {vp vl vg : Value} (h : Own w w1 b S D vp vl vg) (hb : Below w1.heap.size w1 w2) : Own w w2 b S D vp vl vg :=
  ⟨h.below.trans (hb.mono h.below.size), h.hb, h.wat.call hb⟩
theorem Own.frame {w w1 w2 : World} {b : Nat} {S : Stp} {D D' : Dyn} {vp vl vg vl' vg' : Value} (h : Own w w1 b S D vp vl vg) (hg : w1.grownBy w2 (some b)) (hw : WAt w2 b S D' vp vl' vg') : Own w w2 b S D' vp vl' vg' :=
  ⟨below_of_grown h.below hg h.hb h.below.size, h.hb, hw⟩
theorem Own.side {w w1 w2 : World} {b c : Nat} {S : Stp} {D : Dyn} {vp vl vg : Value} (h : Own w w1 b S D vp vl vg) (hg : w1.grownBy w2 (some c)) (hc : w.heap.size ≤ c) (hne : b ≠ c) (ha : S.av c) : Own w w2 b S D vp vl vg :=
  ⟨h.below.grown hg h.below.size (fun k e => by cases e; exact hc), h.hb, h.wat.far hg hne ha⟩
namespace Open
def flatE (P : Program) (e : TypeId) : Bool := match P.underlying e with | some (.int _) => true | some .bool => true | _ => false
theorem flatE_no {P : Program} {e : TypeId} (h : flatE P e = true) : P.underlying e ≠ some .string := fun h2 => by unfold flatE at h; rw [h2] at h; cases h
def flatW (P : Program) : Nat → TypeId → Option (List TypeId)
  | 0, _ => none
  | n + 1, t =>
    match P.underlying t with
    | some (.struct fs) => flatFields (flatW P n) P.cellsOf 0 (fs.toList.map fun f => (f.type, f.offset))
    | some (.array k e) => if flatE P e = true ∧ P.cellsOf e = 1 then some (List.replicate k e) else none
    | some .bool => some [t]
    | some (.int _) => some [t]
    | some .string => some [t]
    | _ => none
section
variable {H : Type} {enc : TypeId × Value → H} {P : Program} {w : World} {base : Nat} {spare : Nat → Bool} {held : Bool}
def LeafW (enc : TypeId × Value → H) (P : Program) (w : World) (base : Nat) (spare : Nat → Bool) (held : Bool) (t : TypeId) (cs : List Value) : Prop :=
  ∃ m y, DataW.trod enc P w base spare held m t cs = some y ∧ (P.underlying t = some .string → ∀ n ∈ y.1.weights P t, n ≤ reachBytes)
def LeafsW (enc : TypeId × Value → H) (P : Program) (w : World) (base : Nat) (spare : Nat → Bool) (held : Bool) : List TypeId → List Value → Prop
  | [], [] => True
  | t :: ts, c :: cs => LeafW enc P w base spare held t [c] ∧ LeafsW enc P w base spare held ts cs
  | _, _ => False
theorem leafsW_nil {cs : List Value} (h : LeafsW enc P w base spare held [] cs) : cs = [] := by
  cases cs with
  | nil => rfl
  | cons c cs => exact absurd h (by simp [LeafsW])
theorem leafsW_cons {t : TypeId} {ts : List TypeId} {cs : List Value} (h : LeafsW enc P w base spare held (t :: ts) cs) :
    ∃ c r, cs = c :: r ∧ LeafW enc P w base spare held t [c] ∧ LeafsW enc P w base spare held ts r := by
  cases cs with
  | nil => exact absurd h (by simp [LeafsW])
  | cons c cs => exact ⟨c, cs, rfl, h.1, h.2⟩
theorem LeafW.plain {t : TypeId} {cs : List Value} (h : LeafW enc P w base spare held t cs) : ∃ m y, DataW.trod enc P w base spare held m t cs = some y := by
  obtain ⟨m, y, h, -⟩ := h; exact ⟨m, y, h⟩
theorem leafsW_append {ts us : List TypeId} {cs ds : List Value} (h : LeafsW enc P w base spare held ts cs) (k : LeafsW enc P w base spare held us ds) :
    LeafsW enc P w base spare held (ts ++ us) (cs ++ ds) := by
  induction ts generalizing cs with
  | nil => obtain rfl := leafsW_nil h; simpa using k
  | cons t ts ih => obtain ⟨c, r, rfl, hc, hr⟩ := leafsW_cons h; exact ⟨hc, ih hr⟩
theorem leafsW_fields {g : TypeId → Option (List TypeId)} {size : TypeId → Nat} {cs : List Value} (all : List (TypeId × Nat)) (o : Nat) (ts : List TypeId)
    (hg : ∀ t l sub, g t = some l → sub.length = l.length → LeafS enc P w base spare held t sub → LeafsW enc P w base spare held l sub)
    (hf : flatFields g size o all = some ts) (hlen : cs.length = o + ts.length)
    (hr : ∀ x, x ∈ all → LeafS enc P w base spare held x.1 ((cs.drop x.2).take (size x.1))) :
    LeafsW enc P w base spare held ts (cs.drop o) := by
  induction all generalizing o ts with
  | nil =>
    simp only [flatFields, Option.some.injEq] at hf
    subst hf
    simp only [List.length_nil, Nat.add_zero] at hlen
    rw [List.drop_of_length_le (by omega)]
    trivial
  | cons x all ih =>
    obtain ⟨t, off⟩ := x
    simp only [flatFields] at hf
    by_cases h1 : off = o
    · rw [if_pos h1] at hf
      subst h1
      cases h2 : g t with
      | none => rw [h2] at hf; simp at hf
      | some l =>
        rw [h2] at hf
        simp only at hf
        by_cases h3 : l.length = size t
        · rw [if_pos h3] at hf
          obtain ⟨us, h4, rfl⟩ := Option.map_eq_some_iff.1 hf
          simp only [List.length_append] at hlen
          have h5 := hr (t, off) (List.mem_cons_self)
          have h6 := hg t l ((cs.drop off).take (size t)) h2 (by simp; omega) h5
          have h7 := ih (off + l.length) us h4 (by omega) (fun x hx => hr x (List.mem_cons_of_mem _ hx))
          have h8 := leafsW_append h6 h7
          rwa [← h3, ← List.drop_drop, List.take_append_drop] at h8
        · rw [if_neg h3] at hf; simp at hf
    · rw [if_neg h1] at hf; simp at hf
theorem leafsW_row {e : TypeId} (he : P.underlying e ≠ some .string) : ∀ (k : Nat) (cs : List Value), cs.length = k → (∀ i, i < k → ∃ m y, DataW.trod enc P w base spare held m e ((cs.drop i).take 1) = some y) → LeafsW enc P w base spare held (List.replicate k e) cs
  | 0, cs, hl, _ => by obtain rfl := List.length_eq_zero_iff.1 hl; trivial
  | k + 1, [], hl, _ => by simp at hl
  | k + 1, c :: cs, hl, h => by
    obtain ⟨m, y, h0⟩ := h 0 (by omega)
    refine ⟨⟨m, y, by simpa using h0, fun h => absurd h he⟩, leafsW_row he k cs (by simpa using hl) (fun i hi => ?_)⟩
    have := h (i + 1) (by omega)
    simpa using this
theorem leafsW_of (n : Nat) : ∀ (t : TypeId) (ts : List TypeId) (cs : List Value),
    flatW P n t = some ts → cs.length = ts.length → LeafS enc P w base spare held t cs → LeafsW enc P w base spare held ts cs := by
  induction n with
  | zero => intro t ts cs h; simp [flatW] at h
  | succ n ih =>
    intro t ts cs h hlen hlf
    have leaf : some [t] = some ts → LeafsW enc P w base spare held ts cs := by
      intro h2
      simp only [Option.some.injEq] at h2
      subst h2
      obtain ⟨m, y, h3, h4⟩ := hlf
      match cs, hlen with
      | [c], _ => exact ⟨⟨m, y, h3, fun _ => h4⟩, trivial⟩
    simp only [flatW] at h
    split at h
    · rename_i fs hu
      obtain ⟨m, y, ht, hw⟩ := hlf
      obtain ⟨xs, m', rfl, rfl, hl, hsz, hx⟩ := DataW.trod_struct hu ht
      have := leafsW_fields (cs := cs) _ 0 ts (fun t' l sub hl' hs h2 => ih t' l sub hl' hs h2) h (by omega) (by
        intro x hx'
        obtain ⟨f, hf, rfl⟩ := List.mem_map.1 hx'
        obtain ⟨i, hi, hfi⟩ := List.getElem_of_mem hf
        have hfi' : fs[i]? = some f := by simp at hi hfi; simp [hi, hfi]
        have h3 := hx i f hfi'
        have h4 : i < xs.length := by simp at hi; omega
        rw [List.getElem?_eq_getElem h4] at h3
        refine ⟨_, _, h3, fun k hk => hw k ?_⟩
        simp only [DataW.weights, hu]
        exact DataW.weights_mem_each (j := i) (t := f.type) (d := xs[i].1) (by rw [List.getElem?_map, List.getElem?_eq_getElem hi, hfi]; rfl) (by rw [List.getElem?_map, List.getElem?_eq_getElem h4]; rfl) k hk)
      simpa using this
    · rename_i k e hu
      by_cases hc : flatE P e = true ∧ P.cellsOf e = 1
      · rw [if_pos hc] at h
        simp only [Option.some.injEq] at h
        subst h
        obtain ⟨m, y, ht, -⟩ := hlf
        obtain ⟨xs, m', rfl, rfl, hl, hsz, hx⟩ := DataW.trod_array hu ht
        refine leafsW_row (flatE_no hc.1) k cs (by simpa using hlen) (fun i hi => ?_)
        have h4 := hx i hi
        rw [List.getElem?_eq_getElem (by omega), hc.2, Nat.mul_one] at h4
        exact ⟨_, _, h4⟩
      · rw [if_neg hc] at h; cases h
    · exact leaf h
    · exact leaf h
    · exact leaf h
    · simp at h
theorem leafW_string {t : TypeId} {c : Value} (ht : P.underlying t = some .string) (h : LeafW enc P w base spare held t [c]) : ∃ s : ByteArray, c = .string s ∧ s.size ≤ 140737488351232 := by
  obtain ⟨m, y, h, hw⟩ := h
  obtain ⟨s, h1, h2, h3⟩ := DataW.trod_string ht h
  simp only [List.cons.injEq, and_true] at h1
  refine ⟨s, h1, ?_⟩
  have h4 := hw ht s.data.toList.length (by rw [h2]; simp [DataW.weights])
  simpa [reachBytes] using h4
end
section
variable {H : Type} {enc : TypeId × Value → H} {P : Program} {w : World} {base : Nat} {held : Bool}
theorem weights_mem_all {e : TypeId} : ∀ {ds : List (DataW H)} {j : Nat} {d : DataW H}, ds[j]? = some d → ∀ n ∈ d.weights P e, n ∈ DataW.weightsAll P e ds
  | [], j, d, hd, n, hn => by simp at hd
  | d0 :: ds, 0, d, hd, n, hn => by
    simp only [List.getElem?_cons_zero, Option.some.injEq] at hd
    subst hd
    simp only [DataW.weightsAll, List.mem_append]
    exact .inl hn
  | d0 :: ds, j + 1, d, hd, n, hn => by
    simp only [List.getElem?_cons_succ] at hd
    simp only [DataW.weightsAll, List.mem_append]
    exact .inr (weights_mem_all hd n hn)
theorem leaf_recsW {α : Type} [Inhabited α] {t e : TypeId} {c : Value} {ts : List TypeId} (k : Nat) (lay : α → List Value) (ok : α → Prop) (n : Nat) (ht : P.underlying t = some (.slice e)) (hfl : flatW P n e = some ts) (hc : P.cellsOf e = ts.length) (hk : ts.length = k)
    (dec : ∀ r, LeafsW enc P w base (fun _ => true) held ts r → ∃ x, r = lay x ∧ ok x)
    (h : LeafS enc P w base (fun _ => true) held t [c]) :
    ∃ a len cap xs, c = .slice a len cap ∧ IsRecs k lay ok w a len cap xs := by
  obtain ⟨m, y, h, hw⟩ := h
  rcases DataW.trod_slice ht h with ⟨hcs, _⟩ | ⟨a, len, cap, elems, rest, m', _, hcs, hx, hb, hl, hm, hlen, hel, hsp, _⟩
  · simp only [List.cons.injEq, and_true] at hcs
    exact ⟨_, _, _, [], hcs, .inl ⟨rfl, rfl, rfl, rfl⟩⟩
  · simp only [List.cons.injEq, and_true] at hcs
    obtain ⟨hrl, hr⟩ := hsp rfl
    have hy1 : y.1 = .slice (elems.map (·.1)) (rest.map (·.1)) := congrArg Prod.fst hx
    rw [hy1] at hw
    simp only [DataW.weights, ht] at hw
    have each0 : ∀ i, i < cap → ∃ r, (w.cells? base (a.add (i * ts.length)) ts.length = some r) ∧ LeafS enc P w base (fun _ => true) held e r := by
      intro i hi
      have h1 : ∃ z, (w.cells? base (a.add (i * P.cellsOf e)) (P.cellsOf e)).bind (DataW.trod enc P w base (fun _ => true) held m' e) = some z ∧ ∀ k ∈ z.1.weights P e, k ≤ reachBytes := by
        by_cases h2 : i < len
        · refine ⟨elems[i]'(by omega), by rw [hel i h2, List.getElem?_eq_getElem (by omega)], fun q hq => hw q ?_⟩
          refine List.mem_cons_of_mem _ (List.mem_append_left _ (weights_mem_all (j := i) (d := (elems[i]'(by omega)).1) ?_ q hq))
          rw [List.getElem?_map, List.getElem?_eq_getElem (by omega)]; rfl
        · have h3 := hr (i - len) (by omega)
          rw [show len + (i - len) = i by omega, List.getElem?_eq_getElem (by omega)] at h3
          refine ⟨_, h3, fun q hq => hw q ?_⟩
          refine List.mem_cons_of_mem _ (List.mem_append_right _ (weights_mem_all (j := i - len) (d := (rest[i - len]'(by omega)).1) ?_ q hq))
          rw [List.getElem?_map, List.getElem?_eq_getElem (by omega)]; rfl
      obtain ⟨z, h1, hz⟩ := h1
      rw [hc, Option.bind_eq_some_iff] at h1
      obtain ⟨r, h2, h3⟩ := h1
      exact ⟨r, h2, m', z, h3, hz⟩
    have each : ∀ i : Nat, ∃ y : α, i < cap → ok y ∧ ∀ j, j < k → w.cell? ((a.add (i * k)).add j) = (lay y)[j]? := by
      intro i
      by_cases hi : i < cap
      · obtain ⟨r, h2, h3⟩ := each0 i hi
        have h4 := World.cells?_some h2
        obtain ⟨z, rfl, h5⟩ := dec r (leafsW_of n e ts r hfl h4.2.1 h3)
        refine ⟨z, fun _ => ⟨h5, fun j hj => ?_⟩⟩
        rw [← hk] at hj ⊢
        exact h4.2.2 j hj
      · exact ⟨default, fun h => absurd h hi⟩
    refine ⟨_, _, _, (List.range cap).map (fun i => Classical.choose (each i)), hcs, .inr ⟨a, rfl, hl, hm, by simp, fun i y hy => ?_⟩⟩
    rw [List.getElem?_map] at hy
    by_cases hi : i < cap
    · rw [List.getElem?_range hi] at hy
      simp only [Option.map_some, Option.some.injEq] at hy
      subst hy
      exact Classical.choose_spec (each i) hi
    · rw [List.getElem?_eq_none (by simp; omega)] at hy
      simp at hy
end
end Open
instance : Inhabited Inp := ⟨⟨⟨#[]⟩, 0, 0, 0, fun _ => 0, false, 0, false, 0⟩⟩
theorem inp_dec {H : Type} {enc : TypeId × Value → H} {w : World} {base : Nat} {held : Bool} (r : List Value) (h : Open.LeafsW enc Tryz.prog w base (fun _ => true) held [9, 21, 21, 21, 3, 3, 3, 3, 4, 3, 4, 3] r) : ∃ x, r = inL x ∧ InpOk x := by
  obtain ⟨c0, r0, rfl, y0, h0⟩ := Open.leafsW_cons h
  obtain ⟨c1, r1, rfl, y1, h1⟩ := Open.leafsW_cons h0
  obtain ⟨c2, r2, rfl, y2, h2⟩ := Open.leafsW_cons h1
  obtain ⟨c3, r3, rfl, y3, h3⟩ := Open.leafsW_cons h2
  obtain ⟨c4, r4, rfl, y4, h4⟩ := Open.leafsW_cons h3
  obtain ⟨c5, r5, rfl, y5, h5⟩ := Open.leafsW_cons h4
  obtain ⟨c6, r6, rfl, y6, h6⟩ := Open.leafsW_cons h5
  obtain ⟨c7, r7, rfl, y7, h7⟩ := Open.leafsW_cons h6
  obtain ⟨c8, r8, rfl, y8, h8⟩ := Open.leafsW_cons h7
  obtain ⟨c9, r9, rfl, y9, h9⟩ := Open.leafsW_cons h8
  obtain ⟨c10, r10, rfl, y10, h10⟩ := Open.leafsW_cons h9
  obtain ⟨c11, r11, rfl, y11, h11⟩ := Open.leafsW_cons h10
  obtain rfl := Open.leafsW_nil h11
  obtain ⟨s, rfl, hs⟩ := Open.leafW_string Tryz.underlying9 y0
  obtain ⟨p0, rfl, q0⟩ := Open.leaf_int Tryz.underlying21 y1.plain
  obtain ⟨p1, rfl, q1⟩ := Open.leaf_int Tryz.underlying21 y2.plain
  obtain ⟨ld, rfl, q2⟩ := Open.leaf_int Tryz.underlying21 y3.plain
  obtain ⟨f0, rfl, q3⟩ := Open.leaf_int Tryz.underlying3 y4.plain
  obtain ⟨f1, rfl, q4⟩ := Open.leaf_int Tryz.underlying3 y5.plain
  obtain ⟨f2, rfl, q5⟩ := Open.leaf_int Tryz.underlying3 y6.plain
  obtain ⟨f3, rfl, q6⟩ := Open.leaf_int Tryz.underlying3 y7.plain
  obtain ⟨gr, rfl⟩ := Open.leaf_bool Tryz.underlying4 y8.plain
  obtain ⟨ak, rfl, q7⟩ := Open.leaf_int Tryz.underlying3 y9.plain
  obtain ⟨tr, rfl⟩ := Open.leaf_bool Tryz.underlying4 y10.plain
  obtain ⟨rs, rfl, q8⟩ := Open.leaf_int Tryz.underlying3 y11.plain
  refine ⟨⟨s, p0, p1, ld, sel f0 f1 f2 f3, gr, ak, tr, rs⟩, rfl, ⟨hs, bounds_i32 q0, bounds_i32 q1, bounds_i32 q2, fun k hk => ?_, bounds_i64 q7, bounds_i64 q8⟩⟩
  rcases (by omega : k = 0 ∨ k = 1 ∨ k = 2 ∨ k = 3) with rfl | rfl | rfl | rfl
  · exact bounds_i64 q3
  · exact bounds_i64 q4
  · exact bounds_i64 q5
  · exact bounds_i64 q6
theorem inL_len (x : Inp) : (inL x).length = 12 := rfl
noncomputable def runD (S : Stp) (xs : List Inp) : Nat → Dyn
  | 0 => newD
  | k + 1 => frameL S (runD S xs k) (xs.getD k default)
theorem stp_zero {S : Stp} (h : StpOk S) : S.low ≤ 0 ∧ 0 ≤ S.high := by have := h.ram; unfold ramBad at this; omega
theorem runD_good {S : Stp} (h : StpOk S) (xs : List Inp) : ∀ k, DynOk S (runD S xs k)
  | 0 => newD_good h (stp_zero h)
  | k + 1 => frameL_good h _ (runD_good h xs k)
theorem recs_row {xs : List Inp} {la : Option Addr} {lc k : Nat} {w : World} (h : RecsAt 12 inL w (.slice la xs.length lc) xs) (hk : k < xs.length) : ∃ b o, la = some ⟨b, o, none⟩ ∧ w.rangeAt b (o + k * 12) (inL (xs.getD k default)) ∧ b < w.heap.size := by
  rcases h with ⟨h, -⟩ | ⟨-, b, o, c, h1, h2, h3, h4⟩
  · rw [h] at hk; simp at hk
  · cases h1
    have hx : xs[k]? = some (xs.getD k default) := by rw [List.getD_eq_getElem?_getD, List.getElem?_eq_getElem hk]; rfl
    refine ⟨b, o, rfl, fun j v hj => ?_, ?_⟩
    · have hj2 : j < 12 := (List.getElem?_eq_some_iff.1 hj).1
      rw [h4 k _ hx j hj2]; exact hj
    · have h5 := h4 k _ hx 0 (by omega)
      exact World.block_lt_of_cell? _ _ (h5.trans (rfl : (inL (xs.getD k default))[0]? = some (.string (xs.getD k default).cmd)))
end Go.Proofs.YtlagmebnjagoaaaGreat
