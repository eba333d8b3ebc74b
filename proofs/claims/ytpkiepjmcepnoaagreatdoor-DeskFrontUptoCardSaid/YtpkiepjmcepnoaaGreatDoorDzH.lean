/- A part of a proof. -/
import Derived.Test.YtpkiepjmcepnoaaGreatDoorDzB
import Derived.Deep.DeepHandedRow
import Derived.Deep.DeepWitnessRowRef
import Derived.Lib.LaidCaseMet
import Derived.Lib.LaidTab
import Derived.PinnedBridge
import Derived.Shelf.Vars
import Derived.Stop.LaidErr
set_option maxHeartbeats 16000000
set_option maxRecDepth 100000
set_option linter.unusedVariables false
namespace Go.Proofs.YtpkiepjmcepnoaaGreatDoor
open Go.ChangeShapes Go.WideShapes Go.ChangeAt Go.RowKit
theorem laid_swap {P:Program} {w:World} {a b:String×DataW Unit}:∀{l:List (String×DataW Unit)} {ps:List MemPlace},DataW.LaidVars P w (l++[a,b]) ps→∃qs,DataW.LaidVars P w (l++[b,a]) qs∧ps.Perm qs
 |[],ps,h=>by
  obtain⟨a1,a2⟩:=a
  obtain⟨b1,b2⟩:=b
  obtain⟨g,t,cs,fuel,p,q,h1,h2,h3,h4,⟨g',t',cs',fuel',p',q',k1,k2,k3,k4,k5,rfl⟩,rfl⟩:=h
  obtain rfl:q'=[]:=k5
  exact⟨_,⟨g',t',cs',fuel',p',_,k1,k2,k3,k4,⟨g,t,cs,fuel,p,[],h1,h2,h3,h4,rfl,rfl⟩,rfl⟩,by simp only[List.append_nil];exact List.perm_append_comm⟩
 |(n,d)::l,ps,h=>by
  obtain⟨g,t,cs,fuel,p,q,h1,h2,h3,h4,h5,rfl⟩:=h
  obtain⟨qs,k1,k2⟩:=laid_swap h5
  exact⟨_,⟨g,t,cs,fuel,p,qs,h1,h2,h3,h4,k1,rfl⟩,List.Perm.append_left _ k2⟩
theorem met_swap {P:Program} {w:World} {a b:String×DataW Unit} {l:List (String×DataW Unit)} (h:laidMet P (l++[a,b]) w):laidMet P (l++[b,a]) w:=by
 obtain⟨ps,h1,h2,h3⟩:=h
 obtain⟨qs,k1,k2⟩:=laid_swap h1
 exact⟨qs,k1,k2.nodup_iff.1 h2,fun b off hm=>h3 b off (k2.mem_iff.2 hm)⟩
theorem gPow : Tryz.prog.globalNamed "internal/strconv.uint64pow10" = some 3 := by kernel_rfl
theorem libs_of {W:World} (hL:laidMetH Tryz.prog Rows.deskCountsUptoRow.laid W) (hsh:W.ShapedOpen Tryz.prog):Libs W:=by
 have h:laidMet Tryz.prog Rows.deskCountsUptoRow.laid W:=hL
 have h2:=laidMet.tail (laidMet.tail h)
 refine⟨?_,cell_of_shapedOpen_int (P:=Tryz.prog) (g:=0) (t:=3) (zero:=#[.int .i64 0]) hsh (of_decide_eq_true (by kernel_rfl)) (by kernel_rfl) rfl (by kernel_rfl) (by kernel_rfl) Tryz.underlying3⟩
 have e:(Rows.laid_internal_strconv_uint64pow10:DataW Unit)=Lib.tabData .u64 Lib.pow10Tab:=rfl
 rw[e]at h2
 exact Lib.tabIs_of_head gPow (by kernel_rfl) Tryz.underlying181 Tryz.underlying158 (by kernel_rfl) (by kernel_rfl) h2
noncomputable def laidWorld (os:Os):World:=
 let N:=(World.settled Tryz.prog os).heap.size
 let w0:=World.holding Tryz.prog os ⟨#[.cells Lib.caseCells5 (Tryz.lays158_ren.t 208)],#[],[]⟩
 let put (h:Array Obj) (g:Nat) (cs:Array Value):Array Obj:=h.modify g fun
  |.cells _ t frozen=>.cells cs t frozen
  |o=>o
 let h1:=put w0.heap 5 (([0,1,28,2,29,14,24,3,30,22,20,15,25,17,4,8,31,27,13,23,21,19,16,7,26,12,18,6,11,5,10,9]:List Int).map fun z=>Value.int .u8 z).toArray
 let h2:=put h1 6 (([0,1,56,2,57,49,28,3,61,58,42,50,38,29,17,4,62,47,59,36,45,43,51,22,53,39,33,30,24,18,12,5,63,55,48,27,60,41,37,16,46,35,44,21,52,32,23,11,54,26,40,15,34,20,31,10,25,14,19,9,13,8,7,6]:List Int).map fun z=>Value.int .u8 z).toArray
 let h3:=put h2 3 (Lib.pow10Tab.map fun z=>Value.int .u64 z).toArray
 let h4:=put h3 2 ((List.range 16).flatMap fun i=>[Value.int .u8 (Lib.accLo i),Value.int .u8 (Lib.accHi i)]).toArray
 let h5:=put h4 1 (Lib.firstTab.map fun z=>Value.int .u8 z).toArray
 let h6:=put h5 4 #[.slice (some ⟨N,0,none⟩) 336 336]
 {w0 with heap:=h6}
theorem laid_met (os:Os) (args:Array Value):laidMet Tryz.prog Rows.deskCountsUptoRow.laid ((laidWorld os).forCall (fun _ _=>0) ⟨#[],args,[]⟩).memory:=by
 have h:=laidMet_with_case (P:=Tryz.prog) (w:=((laidWorld os).forCall (fun _ _=>0) ⟨#[],args,[]⟩).memory) (ρ:=Tryz.lays158_ren) {Tryz.lays158 with} Tryz.lays158.t206 ⟨by kernel_rfl,by kernel_rfl,by kernel_rfl,by kernel_rfl,by kernel_rfl,by kernel_rfl⟩
  (l := [("math/bits.deBruijn32tab", Rows.laid_math_bits_deBruijn32tab), ("math/bits.deBruijn64tab", Rows.laid_math_bits_deBruijn64tab), ("internal/strconv.uint64pow10", Rows.laid_internal_strconv_uint64pow10), ("unicode/utf8.acceptRanges", Rows.laid_unicode_utf8_acceptRanges), ("unicode/utf8.first", Rows.laid_unicode_utf8_first)])
  10 (by kernel_rfl) (by kernel_rfl) (by kernel_rfl) ((World.settled Tryz.prog default).heap.size) (Tryz.lays158_ren.t 208) (of_decide_eq_true (by kernel_rfl)) (by kernel_rfl) (by kernel_rfl) (by kernel_rfl)
 have h2 := met_swap (l := [("math/bits.deBruijn32tab", Rows.laid_math_bits_deBruijn32tab), ("math/bits.deBruijn64tab", Rows.laid_math_bits_deBruijn64tab), ("internal/strconv.uint64pow10", Rows.laid_internal_strconv_uint64pow10), ("unicode/utf8.acceptRanges", Rows.laid_unicode_utf8_acceptRanges)]) h
 rw[←Pinned.caseRanges_eq]at h2
 exact h2
end Go.Proofs.YtpkiepjmcepnoaaGreatDoor
