/- What the bound of an Upto statement gives: how long a slice is. -/
import Derived.Test.YtlagmebnjagoaaaGreatRows
import Derived.ProofKit
import Derived.OpenShut
import Derived.JoinedCond
namespace Go.Proofs.YtlagmebnjagoaaaGreat.Bulk
open Go.ChangeShapes Go.WideShapes Go.ChangeAt Go.RowKit
theorem one_le {H : Type} (d : DataW H) : 1 ≤ Rows.uptoBulk d:=by
  cases d with
  | lit l => cases l <;> simp [Rows.uptoBulk]
  | _ => simp [Rows.uptoBulk]
theorem part_le {H : Type} {d : DataW H} {l : List (DataW H)} (h : d ∈ l) : Rows.uptoBulk d ≤ Rows.uptoBulkAll l:=by
  induction l with
  | nil => cases h
  | cons x r ih =>
    simp only [Rows.uptoBulkAll]
    rcases List.mem_cons.1 h with e | e
    · subst e;omega
    · have:=ih e;omega
theorem length_le {H : Type} (l : List (DataW H)) : l.length ≤ Rows.uptoBulkAll l:=by
  induction l with
  | nil => simp [Rows.uptoBulkAll]
  | cons x r ih => have:=one_le x;simp only [Rows.uptoBulkAll,List.length_cons];omega
theorem slice_le {H : Type} (elems spare : List (DataW H)) : elems.length + spare.length + 1 ≤ Rows.uptoBulk (.slice elems spare):=by
  have h1:=length_le elems;have h2:=length_le spare
  simp only [Rows.uptoBulk];omega
theorem bound {H : Type} {l : List (DataW H)} (hk : Rows.uptoSmall H l = true) : Rows.uptoBulkAll l ≤ 1048576:=by
  unfold Rows.uptoSmall at hk
  exact of_decide_eq_true hk
theorem cap_small {H : Type} {enc : TypeId × Value → H} {P : Program} {w : World} {base : Nat} {held : Bool} {t e : TypeId} {a : Option Addr} {len cap : Nat} {d : DataW H} {ps : List MemPlace} (ht : P.underlying t = some (.slice e))
    (hd : DataW.Trod enc P w base (fun _ => true) held t (.slice a len cap) d ps) (hs : ∀ elems spare,d = .slice elems spare → elems.length + spare.length ≤ 1048576) : len ≤ cap ∧ cap ≤ 1048576:=by
  obtain ⟨m,h⟩:=hd
  rcases DataW.trod_slice ht h with ⟨hcs,_⟩ | ⟨a',len',cap',elems,rest,m',_,hcs,hx,hb,hl,hm,hlen,hel,hsp,_⟩
  · simp [Value.cells] at hcs
    obtain ⟨_,rfl,rfl⟩:=hcs
    omega
  · simp [Value.cells] at hcs
    obtain ⟨_,rfl,rfl⟩:=hcs
    have h1:=hs _ _ (congrArg Prod.fst hx)
    have h2:=(hsp rfl).1
    simp only [List.length_map,hlen,h2] at h1
    omega
end Go.Proofs.YtlagmebnjagoaaaGreat.Bulk
