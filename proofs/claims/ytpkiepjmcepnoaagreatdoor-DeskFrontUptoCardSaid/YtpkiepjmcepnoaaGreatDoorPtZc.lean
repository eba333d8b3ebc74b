/- A part of a proof. -/
import Derived.Deep.RegionHeld3
import Derived.Test.YtpkiepjmcepnoaaGreatDoorPtC
import Derived.Test.YtpkiepjmcepnoaaGreatDoorPtF
import Derived.Test.YtpkiepjmcepnoaaGreatDoorPtU
import Derived.Test.YtpkiepjmcepnoaaGreatDoorPtZb
set_option maxHeartbeats 16000000
set_option maxRecDepth 100000
namespace Go.Proofs.YtpkiepjmcepnoaaGreatDoor
open Go.ChangeShapes Go.WideShapes Go.ChangeAt Go.RowKit
set_option linter.unusedVariables false
def statL (D:Dyn) (v:Value):List Value:=[.int .i64 D.frame,.int .i64 D.mm,.bool D.mp,.bool D.mg,.int .i64 (D.team 0).1,.bool (D.team 0).2.1,.int .i64 (D.team 0).2.2,.int .i64 (D.team 1).1,.bool (D.team 1).2.1,.int .i64 (D.team 1).2.2,.int .i64 (D.team 2).1,.bool (D.team 2).2.1,.int .i64 (D.team 2).2.2,.int .i64 (D.team 3).1,.bool (D.team 3).2.1,.int .i64 (D.team 3).2.2,.int .i64 D.us,.int .i64 D.ac,.bool D.lost,.int .i32 D.pos,.int .i32 D.vel,.int .i32 D.want,.int .i32 (D.off 0),.int .i32 (D.off 1),.int .i32 (D.off 2),.int .i32 (D.off 3),v]
abbrev statV (D:Dyn) (v:Value):Value:=.agg #[.int .i64 D.frame,.int .i64 D.mm,.bool D.mp,.bool D.mg,.int .i64 (D.team 0).1,.bool (D.team 0).2.1,.int .i64 (D.team 0).2.2,.int .i64 (D.team 1).1,.bool (D.team 1).2.1,.int .i64 (D.team 1).2.2,.int .i64 (D.team 2).1,.bool (D.team 2).2.1,.int .i64 (D.team 2).2.2,.int .i64 (D.team 3).1,.bool (D.team 3).2.1,.int .i64 (D.team 3).2.2,.int .i64 D.us,.int .i64 D.ac,.bool D.lost,.int .i32 D.pos,.int .i32 D.vel,.int .i32 D.want,.int .i32 (D.off 0),.int .i32 (D.off 1),.int .i32 (D.off 2),.int .i32 (D.off 3),v]
theorem status_is {b:Nat} {S:Stp} {D:Dyn} {vp vl vg:Value} {w:World} (h:WAt w b S D vp vl vg) (hD:DynOk S D):
  Calls Tryz.prog 41 #[ptr b] w fun e w'=>∃v,e=.returned (statV D v)∧w'.ownsRow w.heap.size 143 4 v D.log.length (D.log.flatMap entLay)∧Below w.heap.size w w':=by
 have hll:=hD.log.1
 obtain⟨ag,cg,hgv⟩:=h.g.len
 subst hgv
 obtain⟨w3,hw3⟩:∃x,w.alloc (.cells #[.int .i64 0,.int .i64 0,.bool false,.bool false,.int .i64 0,.bool false,.int .i64 0,.int .i64 0,.bool false,.int .i64 0,.int .i64 0,.bool false,.int .i64 0,.int .i64 0,.bool false,.int .i64 0,.int .i64 0,.int .i64 0,.bool false,.int .i32 0,.int .i32 0,.int .i32 0,.int .i32 0,.int .i32 0,.int .i32 0,.int .i32 0,.slice none 0 0] 119)=x:=⟨_,rfl⟩
 have b3:Below w.heap.size w w3:=hw3▸(bLr).alloc (Nat.le_refl _) _
 have Z3:Hid (CellsAt w3 w.heap.size [.int .i64 0,.int .i64 0,.bool false,.bool false,.int .i64 0,.bool false,.int .i64 0,.int .i64 0,.bool false,.int .i64 0,.int .i64 0,.bool false,.int .i64 0,.int .i64 0,.bool false,.int .i64 0,.int .i64 0,.int .i64 0,.bool false,.int .i32 0,.int .i32 0,.int .i32 0,.int .i32 0,.int .i32 0,.int .i32 0,.int .i32 0,.slice none 0 0]):=qh (hw3▸CellsAt.new' rfl rfl)
 have hz3:w3.heap.size=w.heap.size+1:=by rw[←hw3];simp
 have H3:=qh (h.call b3)
 have HW3:=qh hw3
 have hne:b≠w.heap.size:=by have:=h.lt;omega
 have B3:=qh b3
 have hbw:=h.lt
 have K0:w3.drew.cell? ⟨b,27,none⟩=some (.int .i64 D.frame)∧w3.drew.cell? ⟨b,36,none⟩=some (.int .i64 D.mm)∧w3.drew.cell? ⟨b,37,none⟩=some (.bool D.mp)∧w3.drew.cell? ⟨b,38,none⟩=some (.bool D.mg)∧w3.drew.cell? ⟨b,41,none⟩=some (.int .i64 (D.team 0).1)∧w3.drew.cell? ⟨b,42,none⟩=some (.bool (D.team 0).2.1)∧w3.drew.cell? ⟨b,43,none⟩=some (.int .i64 (D.team 0).2.2)∧w3.drew.cell? ⟨b,44,none⟩=some (.int .i64 (D.team 1).1)∧w3.drew.cell? ⟨b,45,none⟩=some (.bool (D.team 1).2.1)∧w3.drew.cell? ⟨b,46,none⟩=some (.int .i64 (D.team 1).2.2)∧w3.drew.cell? ⟨b,47,none⟩=some (.int .i64 (D.team 2).1)∧w3.drew.cell? ⟨b,48,none⟩=some (.bool (D.team 2).2.1)∧w3.drew.cell? ⟨b,49,none⟩=some (.int .i64 (D.team 2).2.2)∧w3.drew.cell? ⟨b,50,none⟩=some (.int .i64 (D.team 3).1)∧w3.drew.cell? ⟨b,51,none⟩=some (.bool (D.team 3).2.1)∧w3.drew.cell? ⟨b,52,none⟩=some (.int .i64 (D.team 3).2.2)∧w3.drew.cell? ⟨b,120,none⟩=some (.int .i64 D.us)∧w3.drew.cell? ⟨b,121,none⟩=some (.int .i64 D.ac)∧w3.drew.cell? ⟨b,122,none⟩=some (.bool D.lost)∧w3.drew.cell? ⟨b,118,none⟩=some (.int .i32 D.pos)∧w3.drew.cell? ⟨b,119,none⟩=some (.int .i32 D.vel)∧w3.drew.cell? ⟨b,35,none⟩=some (.int .i32 D.want)∧w3.drew.cell? ⟨b,69,none⟩=some (.int .i32 (D.off 0))∧w3.drew.cell? ⟨b,70,none⟩=some (.int .i32 (D.off 1))∧w3.drew.cell? ⟨b,71,none⟩=some (.int .i32 (D.off 2))∧w3.drew.cell? ⟨b,72,none⟩=some (.int .i32 (D.off 3))∧w3.drew.cell? ⟨b,123,none⟩=some (.slice ag D.log.length cg):=⟨(H3.out.c).at_ 27 rfl,(H3.out.c).at_ 36 rfl,(H3.out.c).at_ 37 rfl,(H3.out.c).at_ 38 rfl,(H3.out.c).at_ 41 rfl,(H3.out.c).at_ 42 rfl,(H3.out.c).at_ 43 rfl,(H3.out.c).at_ 44 rfl,(H3.out.c).at_ 45 rfl,(H3.out.c).at_ 46 rfl,(H3.out.c).at_ 47 rfl,(H3.out.c).at_ 48 rfl,(H3.out.c).at_ 49 rfl,(H3.out.c).at_ 50 rfl,(H3.out.c).at_ 51 rfl,(H3.out.c).at_ 52 rfl,(H3.out.c).at_ 120 rfl,(H3.out.c).at_ 121 rfl,(H3.out.c).at_ 122 rfl,(H3.out.c).at_ 118 rfl,(H3.out.c).at_ 119 rfl,(H3.out.c).at_ 35 rfl,(H3.out.c).at_ 69 rfl,(H3.out.c).at_ 70 rfl,(H3.out.c).at_ 71 rfl,(H3.out.c).at_ 72 rfl,(H3.out.c).at_ 123 rfl⟩
 have n0:b<w3.heap.size:=H3.out.lt
 have zz:w.heap.size<w3.heap.size:=by omega
 clear h hD hw3 b3
 go_enter Tryz.func41,Tryz.ntmps41
 go_upto_region 1 with(fail)
 rw[HW3.out]
 clear HW3
 go_region_held3 (fun w'=>w'.cell? ⟨b,27,none⟩=some (.int .i64 D.frame)∧w'.cell? ⟨b,36,none⟩=some (.int .i64 D.mm)∧w'.cell? ⟨b,37,none⟩=some (.bool D.mp)∧w'.cell? ⟨b,38,none⟩=some (.bool D.mg)∧w'.cell? ⟨b,41,none⟩=some (.int .i64 (D.team 0).1)∧w'.cell? ⟨b,42,none⟩=some (.bool (D.team 0).2.1)∧w'.cell? ⟨b,43,none⟩=some (.int .i64 (D.team 0).2.2)∧w'.cell? ⟨b,44,none⟩=some (.int .i64 (D.team 1).1)∧w'.cell? ⟨b,45,none⟩=some (.bool (D.team 1).2.1)∧w'.cell? ⟨b,46,none⟩=some (.int .i64 (D.team 1).2.2)∧w'.cell? ⟨b,47,none⟩=some (.int .i64 (D.team 2).1)∧w'.cell? ⟨b,48,none⟩=some (.bool (D.team 2).2.1)∧w'.cell? ⟨b,49,none⟩=some (.int .i64 (D.team 2).2.2)∧w'.cell? ⟨b,50,none⟩=some (.int .i64 (D.team 3).1)∧w'.cell? ⟨b,51,none⟩=some (.bool (D.team 3).2.1)∧w'.cell? ⟨b,52,none⟩=some (.int .i64 (D.team 3).2.2)∧w'.cell? ⟨b,120,none⟩=some (.int .i64 D.us)∧w'.cell? ⟨b,121,none⟩=some (.int .i64 D.ac)∧w'.cell? ⟨b,122,none⟩=some (.bool D.lost)∧w'.cell? ⟨b,118,none⟩=some (.int .i32 D.pos)∧w'.cell? ⟨b,119,none⟩=some (.int .i32 D.vel)∧w'.cell? ⟨b,35,none⟩=some (.int .i32 D.want)∧w'.cell? ⟨b,69,none⟩=some (.int .i32 (D.off 0))∧w'.cell? ⟨b,70,none⟩=some (.int .i32 (D.off 1))∧w'.cell? ⟨b,71,none⟩=some (.int .i32 (D.off 2))∧w'.cell? ⟨b,72,none⟩=some (.int .i32 (D.off 3))∧w'.cell? ⟨b,123,none⟩=some (.slice ag D.log.length cg)) (first|with_reducible exact K0|with_reducible exact kk|with_reducible exact kS) (first|(go_at_call 69;refine(clone_ent D.log.length (D.log.flatMap entLay) _ _ (src_recs (by first|exact H3.out.g|exact(H3.out.drewN (n:=1)).g) (by decide) entLay_len) (ent_one _) (by omega)).mono ?_;rintro e5 w5 h5;obtain⟨v5,rfl,ho5,hb5⟩:=h5;obtain⟨a5,c5,hv5⟩:=own_sliceW ho5;subst hv5;have hbb:Below w.heap.size w w5:=B3.out.trans ((((Below.refl w3.heap.size w3).drew).trans (hb5.mono (by simp))).mono (by omega));have hbb3:Below w3.heap.size w3 w5:=((Below.refl w3.heap.size w3).drew).trans (hb5.mono (by simp));have R5:=H3.out.c.call hbb3;have Z5:=Z3.out.call hbb3;have kk:w5.cell? ⟨b,27,none⟩=some (.int .i64 D.frame)∧w5.cell? ⟨b,36,none⟩=some (.int .i64 D.mm)∧w5.cell? ⟨b,37,none⟩=some (.bool D.mp)∧w5.cell? ⟨b,38,none⟩=some (.bool D.mg)∧w5.cell? ⟨b,41,none⟩=some (.int .i64 (D.team 0).1)∧w5.cell? ⟨b,42,none⟩=some (.bool (D.team 0).2.1)∧w5.cell? ⟨b,43,none⟩=some (.int .i64 (D.team 0).2.2)∧w5.cell? ⟨b,44,none⟩=some (.int .i64 (D.team 1).1)∧w5.cell? ⟨b,45,none⟩=some (.bool (D.team 1).2.1)∧w5.cell? ⟨b,46,none⟩=some (.int .i64 (D.team 1).2.2)∧w5.cell? ⟨b,47,none⟩=some (.int .i64 (D.team 2).1)∧w5.cell? ⟨b,48,none⟩=some (.bool (D.team 2).2.1)∧w5.cell? ⟨b,49,none⟩=some (.int .i64 (D.team 2).2.2)∧w5.cell? ⟨b,50,none⟩=some (.int .i64 (D.team 3).1)∧w5.cell? ⟨b,51,none⟩=some (.bool (D.team 3).2.1)∧w5.cell? ⟨b,52,none⟩=some (.int .i64 (D.team 3).2.2)∧w5.cell? ⟨b,120,none⟩=some (.int .i64 D.us)∧w5.cell? ⟨b,121,none⟩=some (.int .i64 D.ac)∧w5.cell? ⟨b,122,none⟩=some (.bool D.lost)∧w5.cell? ⟨b,118,none⟩=some (.int .i32 D.pos)∧w5.cell? ⟨b,119,none⟩=some (.int .i32 D.vel)∧w5.cell? ⟨b,35,none⟩=some (.int .i32 D.want)∧w5.cell? ⟨b,69,none⟩=some (.int .i32 (D.off 0))∧w5.cell? ⟨b,70,none⟩=some (.int .i32 (D.off 1))∧w5.cell? ⟨b,71,none⟩=some (.int .i32 (D.off 2))∧w5.cell? ⟨b,72,none⟩=some (.int .i32 (D.off 3))∧w5.cell? ⟨b,123,none⟩=some (.slice ag D.log.length cg):=⟨(R5).at_ 27 rfl,(R5).at_ 36 rfl,(R5).at_ 37 rfl,(R5).at_ 38 rfl,(R5).at_ 41 rfl,(R5).at_ 42 rfl,(R5).at_ 43 rfl,(R5).at_ 44 rfl,(R5).at_ 45 rfl,(R5).at_ 46 rfl,(R5).at_ 47 rfl,(R5).at_ 48 rfl,(R5).at_ 49 rfl,(R5).at_ 50 rfl,(R5).at_ 51 rfl,(R5).at_ 52 rfl,(R5).at_ 120 rfl,(R5).at_ 121 rfl,(R5).at_ 122 rfl,(R5).at_ 118 rfl,(R5).at_ 119 rfl,(R5).at_ 35 rfl,(R5).at_ 69 rfl,(R5).at_ 70 rfl,(R5).at_ 71 rfl,(R5).at_ 72 rfl,(R5).at_ 123 rfl⟩;obtain⟨CS,hCS⟩:∃x,(statL D (.slice a5 D.log.length c5)).toArray=x:=⟨_,rfl⟩;have hVV:statV D (.slice a5 D.log.length c5)=.agg CS:=congrArg Value.agg hCS;have hsz:CS.size=27:=(by rw[←hCS];rfl);have kst:(storeCells ⟨w.heap.size,0,none⟩ CS.toList 0).run Tryz.prog w5=.ok () (w5.setCells w.heap.size 0 (statL D (.slice a5 D.log.length c5))):=(by rw[←hCS];exact run_storeCells_cells (P:=Tryz.prog) w.heap.size 0 (statL D (.slice a5 D.log.length c5)) 0 w5 (fun j hj=>((Z5.there (n:=27) (Nat.le_refl _)) j hj).1) (fun j hj=>((Z5.there (n:=27) (Nat.le_refl _)) j hj).2) (fun v hv=>(Array.all_eq_true_iff_forall_mem.1 (by kernel_rfl:((statL D (.slice a5 D.log.length c5)).toArray.all (·.oneCell')=true))) v (by simpa using hv)));have O5:=R5.rowOther hne 0 (statL D (.slice a5 D.log.length c5));have kS:(w5.setCells w.heap.size 0 (statL D (.slice a5 D.log.length c5))).cell? ⟨b,27,none⟩=some (.int .i64 D.frame)∧(w5.setCells w.heap.size 0 (statL D (.slice a5 D.log.length c5))).cell? ⟨b,36,none⟩=some (.int .i64 D.mm)∧(w5.setCells w.heap.size 0 (statL D (.slice a5 D.log.length c5))).cell? ⟨b,37,none⟩=some (.bool D.mp)∧(w5.setCells w.heap.size 0 (statL D (.slice a5 D.log.length c5))).cell? ⟨b,38,none⟩=some (.bool D.mg)∧(w5.setCells w.heap.size 0 (statL D (.slice a5 D.log.length c5))).cell? ⟨b,41,none⟩=some (.int .i64 (D.team 0).1)∧(w5.setCells w.heap.size 0 (statL D (.slice a5 D.log.length c5))).cell? ⟨b,42,none⟩=some (.bool (D.team 0).2.1)∧(w5.setCells w.heap.size 0 (statL D (.slice a5 D.log.length c5))).cell? ⟨b,43,none⟩=some (.int .i64 (D.team 0).2.2)∧(w5.setCells w.heap.size 0 (statL D (.slice a5 D.log.length c5))).cell? ⟨b,44,none⟩=some (.int .i64 (D.team 1).1)∧(w5.setCells w.heap.size 0 (statL D (.slice a5 D.log.length c5))).cell? ⟨b,45,none⟩=some (.bool (D.team 1).2.1)∧(w5.setCells w.heap.size 0 (statL D (.slice a5 D.log.length c5))).cell? ⟨b,46,none⟩=some (.int .i64 (D.team 1).2.2)∧(w5.setCells w.heap.size 0 (statL D (.slice a5 D.log.length c5))).cell? ⟨b,47,none⟩=some (.int .i64 (D.team 2).1)∧(w5.setCells w.heap.size 0 (statL D (.slice a5 D.log.length c5))).cell? ⟨b,48,none⟩=some (.bool (D.team 2).2.1)∧(w5.setCells w.heap.size 0 (statL D (.slice a5 D.log.length c5))).cell? ⟨b,49,none⟩=some (.int .i64 (D.team 2).2.2)∧(w5.setCells w.heap.size 0 (statL D (.slice a5 D.log.length c5))).cell? ⟨b,50,none⟩=some (.int .i64 (D.team 3).1)∧(w5.setCells w.heap.size 0 (statL D (.slice a5 D.log.length c5))).cell? ⟨b,51,none⟩=some (.bool (D.team 3).2.1)∧(w5.setCells w.heap.size 0 (statL D (.slice a5 D.log.length c5))).cell? ⟨b,52,none⟩=some (.int .i64 (D.team 3).2.2)∧(w5.setCells w.heap.size 0 (statL D (.slice a5 D.log.length c5))).cell? ⟨b,120,none⟩=some (.int .i64 D.us)∧(w5.setCells w.heap.size 0 (statL D (.slice a5 D.log.length c5))).cell? ⟨b,121,none⟩=some (.int .i64 D.ac)∧(w5.setCells w.heap.size 0 (statL D (.slice a5 D.log.length c5))).cell? ⟨b,122,none⟩=some (.bool D.lost)∧(w5.setCells w.heap.size 0 (statL D (.slice a5 D.log.length c5))).cell? ⟨b,118,none⟩=some (.int .i32 D.pos)∧(w5.setCells w.heap.size 0 (statL D (.slice a5 D.log.length c5))).cell? ⟨b,119,none⟩=some (.int .i32 D.vel)∧(w5.setCells w.heap.size 0 (statL D (.slice a5 D.log.length c5))).cell? ⟨b,35,none⟩=some (.int .i32 D.want)∧(w5.setCells w.heap.size 0 (statL D (.slice a5 D.log.length c5))).cell? ⟨b,69,none⟩=some (.int .i32 (D.off 0))∧(w5.setCells w.heap.size 0 (statL D (.slice a5 D.log.length c5))).cell? ⟨b,70,none⟩=some (.int .i32 (D.off 1))∧(w5.setCells w.heap.size 0 (statL D (.slice a5 D.log.length c5))).cell? ⟨b,71,none⟩=some (.int .i32 (D.off 2))∧(w5.setCells w.heap.size 0 (statL D (.slice a5 D.log.length c5))).cell? ⟨b,72,none⟩=some (.int .i32 (D.off 3))∧(w5.setCells w.heap.size 0 (statL D (.slice a5 D.log.length c5))).cell? ⟨b,123,none⟩=some (.slice ag D.log.length cg):=⟨(O5).at_ 27 rfl,(O5).at_ 36 rfl,(O5).at_ 37 rfl,(O5).at_ 38 rfl,(O5).at_ 41 rfl,(O5).at_ 42 rfl,(O5).at_ 43 rfl,(O5).at_ 44 rfl,(O5).at_ 45 rfl,(O5).at_ 46 rfl,(O5).at_ 47 rfl,(O5).at_ 48 rfl,(O5).at_ 49 rfl,(O5).at_ 50 rfl,(O5).at_ 51 rfl,(O5).at_ 52 rfl,(O5).at_ 120 rfl,(O5).at_ 121 rfl,(O5).at_ 122 rfl,(O5).at_ 118 rfl,(O5).at_ 119 rfl,(O5).at_ 35 rfl,(O5).at_ 69 rfl,(O5).at_ 70 rfl,(O5).at_ 71 rfl,(O5).at_ 72 rfl,(O5).at_ 123 rfl⟩))
 all_goals
  have E6:=qh (Z5.row (statL D (.slice a5 D.log.length c5)) rfl)
  have B6:=qh (below_setCells (Nat.le_refl _) (statL D (.slice a5 D.log.length c5)) 0 w5 hbb)
  have h6:(w5.setCells w.heap.size 0 (statL D (.slice a5 D.log.length c5))).ownsRow w.heap.size 143 4 (.slice a5 D.log.length c5) D.log.length (D.log.flatMap entLay):=by
   exact own_mono4 (own_setCells ho5 (by simp;omega) 0 _) (by simp;omega)
  clear kS kk O5 K0 kst hVV hsz hCS
  obtain⟨w9,hw9⟩:∃x,w5.setCells w.heap.size 0 (statL D (.slice a5 D.log.length c5))=x:=⟨_,rfl⟩
  rw[hw9]at E6 B6 h6
  rw[hw9]
  go_wp2_with fail
  exact bodyPost_ret (v:=statV D (.slice a5 D.log.length c5)) (results_cell_mid rfl _ _ w.heap.size (statL D (.slice a5 D.log.length c5)) _ rfl E6.out.range Tryz.underlying119 rfl (by kernel_rfl)) rfl ⟨_,rfl,h6,B6.out⟩
def setA (S:Stp) (vp:Value):List Value:=[.int .i32 S.gain,.int .i64 S.drag,.int .i32 S.low,.int .i32 S.high,.int .i32 S.rate,.int .i64 S.soft,.int .i32 S.P,.int .i32 S.I,.int .i32 S.D,.int .i32 S.lo,.int .i32 S.hi,.int .i32 S.m0,.int .i32 S.m1,.int .i32 S.m2,.int .i32 S.m3,.int .i32 S.m4,.int .i64 S.up,.int .i64 S.down,.int .i64 S.most,.int .i32 S.sum,.int .i32 S.wide,.int .i32 S.full,vp,.int .i32 S.oh,.int .i32 S.ol,.int .i64 S.bits,.int .i32 S.trim]
abbrev stpV (S:Stp) (vp:Value):Value:=.agg #[.int .i32 S.gain,.int .i64 S.drag,.int .i32 S.low,.int .i32 S.high,.int .i32 S.rate,.int .i64 S.soft,.int .i32 S.P,.int .i32 S.I,.int .i32 S.D,.int .i32 S.lo,.int .i32 S.hi,.int .i32 S.m0,.int .i32 S.m1,.int .i32 S.m2,.int .i32 S.m3,.int .i32 S.m4,.int .i64 S.up,.int .i64 S.down,.int .i64 S.most,.int .i32 S.sum,.int .i32 S.wide,.int .i32 S.full,vp,.int .i32 S.oh,.int .i32 S.ol,.int .i64 S.bits,.int .i32 S.trim]
theorem oilStep_bad (a b:Bool) (p q hi lo:Int) (w:World) (h:¬(0≤lo∧lo≤hi)):
  Calls Tryz.prog 30 #[.agg #[.bool a,.bool b],.agg #[.int .i32 p,.int .i32 q],.int .i32 hi,.int .i32 lo] w fun e w'=>e=.returned (.tuple #[.agg #[.bool false,.bool false],.int .i64 1])∧Below w.heap.size w w':=by
 by_cases h1:lo<0
 ·clear h
  go_enter Tryz.func30,Tryz.ntmps30
  go_wp2
  refine bodyPost_ret (v:=.tuple #[.agg #[.bool false,.bool false],.int .i64 1]) (by simp[results,Tryz.results30,go_sem]) rfl ⟨rfl,?_⟩
  repeat(first|(with_reducible first|exact bLr)|((with_reducible first|refine bLs ?_ ?_ _|refine bLa ?_ ?_ _);·first|omega|(simp<;>omega))|with_reducible first|refine bLn ?_ _|refine bLd ?_)
 ·have h2:hi<lo:=by omega
  clear h
  go_enter Tryz.func30,Tryz.ntmps30
  go_wp2
  refine bodyPost_ret (v:=.tuple #[.agg #[.bool false,.bool false],.int .i64 1]) (by simp[results,Tryz.results30,go_sem]) rfl ⟨rfl,?_⟩
  repeat(first|(with_reducible first|exact bLr)|((with_reducible first|refine bLs ?_ ?_ _|refine bLa ?_ ?_ _);·first|omega|(simp<;>omega))|with_reducible first|refine bLn ?_ _|refine bLd ?_)
noncomputable def c1I (S:Stp):Int:=by classical exact if ramBad S.gain S.drag S.low S.high 0 then 1 else 0
noncomputable def c2I (S:Stp):Int:=by classical exact if ServoOk S.rate S.soft S.lo S.hi 0 then 0 else 1
def WatOk (S:Stp):Prop:=(0≤S.m0∧0≤S.m1∧0≤S.m2∧0≤S.m3∧0≤S.m4)∧CountOk S.up S.down S.most 0
noncomputable def c3I (S:Stp):Int:=by classical exact if WatOk S then 0 else 1
noncomputable def c4I (S:Stp):Int:=by classical exact if PointsOk S.prof then 0 else pointsE S.prof
def c5I (S:Stp):Int:=sensE S.sum S.wide S.full
def c6I (S:Stp):Int:=if 0≤S.ol∧S.ol≤S.oh then 0 else 1
def c7I (S:Stp):Int:=if 0≤S.bits∧S.bits≤30∧0≤S.trim then 0 else 1
noncomputable def chkE (S:Stp):Int:=if c1I S≠0 then c1I S else if c2I S≠0 then c2I S else if c3I S≠0 then c3I S else if c4I S≠0 then c4I S else if c5I S≠0 then c5I S else if c6I S≠0 then c6I S else c7I S
theorem c4_bd (S:Stp):c4I S=0↔PointsOk S.prof:=by
 unfold c4I;split
 ·rename_i h;exact⟨fun _=>h,fun _=>rfl⟩
 ·rename_i h;exact⟨fun e=>absurd e (pointsE_ne _),fun e=>absurd e h⟩
theorem chkE_ok {S:Stp} (h:StpOk S):chkE S=0:=by
 have h1:c1I S=0:=by unfold c1I;exact if_neg h.ram
 have h2:c2I S=0:=by unfold c2I;exact if_pos h.srv
 have h3:c3I S=0:=by unfold c3I;exact if_pos ⟨h.wat,h.cnt⟩
 have h4:c4I S=0:=(c4_bd S).2 h.pts
 have h5:c5I S=0:=by have:=h.sns;unfold c5I sensE;rw[if_neg (by omega)]
 have h6:c6I S=0:=by unfold c6I;exact if_pos h.oil
 have h7:c7I S=0:=by unfold c7I;exact if_pos h.evn
 unfold chkE;simp[h1,h2,h3,h4,h5,h6,h7]
theorem chkE_zero {S:Stp} (hi:StpIn S) (h:chkE S=0):StpOk S:=by
 unfold chkE at h
 by_cases h1:c1I S=0
 case neg=>rw[if_pos h1]at h;exact absurd h h1
 rw[if_neg (by simp[h1])]at h
 by_cases h2:c2I S=0
 case neg=>rw[if_pos h2]at h;exact absurd h h2
 rw[if_neg (by simp[h2])]at h
 by_cases h3:c3I S=0
 case neg=>rw[if_pos h3]at h;exact absurd h h3
 rw[if_neg (by simp[h3])]at h
 by_cases h4:c4I S=0
 case neg=>rw[if_pos h4]at h;exact absurd h h4
 rw[if_neg (by simp[h4])]at h
 by_cases h5:c5I S=0
 case neg=>rw[if_pos h5]at h;exact absurd h h5
 rw[if_neg (by simp[h5])]at h
 by_cases h6:c6I S=0
 case neg=>rw[if_pos h6]at h;exact absurd h h6
 rw[if_neg (by simp[h6])]at h
 have w3:WatOk S:=by
  by_cases g:WatOk S
  ·exact g
  ·unfold c3I at h3;rw[if_neg g]at h3;cases h3
 exact {
  inn:=hi
  ram:=fun g=>by unfold c1I at h1;rw[if_pos g]at h1;cases h1
  srv:=by
   by_cases g:ServoOk S.rate S.soft S.lo S.hi 0
   ·exact g
   ·unfold c2I at h2;rw[if_neg g]at h2;cases h2
  wat:=w3.1
  cnt:=w3.2
  pts:=(c4_bd S).1 h4
  sns:=by
   unfold c5I sensE at h5
   split at h5
   ·cases h5
   ·omega
  oil:=by
   unfold c6I at h6
   split at h6
   ·assumption
   ·cases h6
  evn:=by
   unfold c7I at h
   split at h
   ·assumption
   ·cases h}
theorem chk1 (S:Stp) (w:World):Calls Tryz.prog 25 #[.agg #[.int .i32 S.gain,.int .i64 S.drag,.int .i32 S.low,.int .i32 S.high],.agg #[.int .i32 0,.int .i32 0]] w fun e w'=>e=.returned (.int .i64 (c1I S))∧Below w.heap.size w w':=by
 unfold c1I;split
 ·rename_i h;exact ramCheck_no _ _ _ _ _ _ w h
 ·rename_i h;exact ramCheck_yes _ _ _ _ _ _ w h
theorem chk2 (S:Stp) (w:World):Calls Tryz.prog 26 #[.agg #[.int .i32 S.rate,.int .i64 S.soft,.int .i32 S.P,.int .i32 S.I,.int .i32 S.D,.int .i32 S.lo,.int .i32 S.hi],.agg #[.int .i32 0,.int .i32 0,.int .i32 0,.int .i32 0]] w fun e w'=>e=.returned (.int .i64 (c2I S))∧Below w.heap.size w w':=by
 unfold c2I;split
 ·rename_i h;exact servoCheck_yes _ _ _ _ _ _ _ _ _ _ _ w h
 ·rename_i h;exact servoCheck_no _ _ _ _ _ _ _ _ _ _ _ w h
theorem chk3 (S:Stp) (w:World):Calls Tryz.prog 27 #[.agg #[.int .i32 S.m0,.int .i32 S.m1,.int .i32 S.m2,.int .i32 S.m3,.int .i32 S.m4,.int .i64 S.up,.int .i64 S.down,.int .i64 S.most],.agg #[.int .i64 0,.bool false,.int .i64 0,.bool false,.int .i64 0,.bool false,.int .i64 0,.bool false,.int .i64 0,.bool false]] w fun e w'=>e=.returned (.int .i64 (c3I S))∧Below w.heap.size w w':=by
 unfold c3I;split
 ·rename_i h;exact watchCheck_yes _ _ _ _ _ _ _ _ zeroC w h.1 (fun _ _=>h.2)
 ·rename_i h
  unfold WatOk at h
  have no:∀j,j<5→(∀k,k<j→0≤sel5 S.m0 S.m1 S.m2 S.m3 S.m4 k∧CountOk S.up S.down S.most 0)→¬(0≤sel5 S.m0 S.m1 S.m2 S.m3 S.m4 j∧CountOk S.up S.down S.most 0)→Calls Tryz.prog 27 #[watchV S.m0 S.m1 S.m2 S.m3 S.m4 S.up S.down S.most,cntsV zeroC] w fun e w'=>e=.returned (.int .i64 1)∧Below w.heap.size w w':=fun j hj h1 h2=>watchCheck_no _ _ _ _ _ _ _ _ zeroC w j hj h1 h2
  by_cases hc:CountOk S.up S.down S.most 0
  case neg=>exact no 0 (by omega) (fun k hk=>absurd hk (by omega)) (fun g=>hc g.2)
  by_cases g0:0≤S.m0
  case neg=>exact no 0 (by omega) (fun k hk=>absurd hk (by omega)) (fun g=>g0 g.1)
  by_cases g1:0≤S.m1
  case neg=>exact no 1 (by omega) (fun k hk=>by obtain rfl:k=0:=by omega
                                                exact⟨g0,hc⟩) (fun g=>g1 g.1)
  by_cases g2:0≤S.m2
  case neg=>exact no 2 (by omega) (fun k hk=>by rcases(by omega:k=0∨k=1)with rfl|rfl<;>exact⟨by assumption,hc⟩) (fun g=>g2 g.1)
  by_cases g3:0≤S.m3
  case neg=>exact no 3 (by omega) (fun k hk=>by rcases(by omega:k=0∨k=1∨k=2)with rfl|rfl|rfl<;>exact⟨by assumption,hc⟩) (fun g=>g3 g.1)
  exact no 4 (by omega) (fun k hk=>by rcases(by omega:k=0∨k=1∨k=2∨k=3)with rfl|rfl|rfl|rfl<;>exact⟨by assumption,hc⟩) (fun g=>h ⟨⟨g0,g1,g2,g3,g.1⟩,hc⟩)
theorem chk4 {S:Stp} {vp:Value} {w:World} (hl:S.prof.length≤9223372036854775807) (hp:RecsAt 3 pointLay w vp S.prof):Calls Tryz.prog 28 #[vp] w fun e w'=>e=.returned (.int .i64 (c4I S))∧Below w.heap.size w w':=by
 refine(strokeCheck_any S.prof vp w hp hl).mono fun e w' h=>?_
 unfold c4I;split
 ·rename_i g;exact⟨h.1 g,h.2.2⟩
 ·rename_i g;exact⟨h.2.1 g,h.2.2⟩
theorem chk6 (S:Stp) (w:World):Calls Tryz.prog 30 #[.agg #[.bool false,.bool false],.agg #[.int .i32 0,.int .i32 0],.int .i32 S.oh,.int .i32 S.ol] w fun e w'=>(∃x y,e=.returned (.tuple #[.agg #[.bool x,.bool y],.int .i64 (c6I S)]))∧Below w.heap.size w w':=by
 unfold c6I;split
 ·rename_i h;exact(oilStep_is false false 0 0 S.oh S.ol w h).mono fun e w' h=>⟨⟨_,_,h.1⟩,h.2⟩
 ·rename_i h;exact(oilStep_bad false false 0 0 S.oh S.ol w h).mono fun e w' h=>⟨⟨_,_,h.1⟩,h.2⟩
theorem chk7 (S:Stp) (hi:StpIn S) (w:World):Calls Tryz.prog 31 #[.agg #[.int .i32 0,.int .i32 0,.int .i32 0,.int .i32 0],.agg #[.int .i64 0,.int .i64 0,.int .i64 0,.int .i64 0],.int .i64 S.bits,.int .i32 S.trim] w fun e w'=>e=.returned (.int .i64 (c7I S))∧Below w.heap.size w w':=by
 have hz: -2147483648≤(0:Int)∧(0:Int)≤2147483647:=by omega
 unfold c7I;split
 ·rename_i h;exact evenCheck_yes 0 0 0 0 0 0 0 0 S.bits S.trim w hz hz hz hz hi.trim (by unfold evenOk;omega)
 ·rename_i h;exact evenCheck_no 0 0 0 0 0 0 0 0 S.bits S.trim w hz hz hz hz hi.trim (by unfold evenOk;omega)
theorem check_is {S:Stp} {vp:Value} {w:World} (hp:RecsAt 3 pointLay w vp S.prof) (hl:S.prof.length≤9223372036854775807) (hin:StpIn S):
  Calls Tryz.prog 17 #[stpV S vp] w fun e w'=>e=.returned (.int .i64 (chkE S))∧Below w.heap.size w w':=by
 obtain⟨ap,cp,hvp⟩:=hp.len
 subst hvp
 obtain⟨w3,hw3⟩:∃x,w.alloc (.cells #[.int .i32 S.gain,.int .i64 S.drag,.int .i32 S.low,.int .i32 S.high,.int .i32 S.rate,.int .i64 S.soft,.int .i32 S.P,.int .i32 S.I,.int .i32 S.D,.int .i32 S.lo,.int .i32 S.hi,.int .i32 S.m0,.int .i32 S.m1,.int .i32 S.m2,.int .i32 S.m3,.int .i32 S.m4,.int .i64 S.up,.int .i64 S.down,.int .i64 S.most,.int .i32 S.sum,.int .i32 S.wide,.int .i32 S.full,.slice ap S.prof.length cp,.int .i32 S.oh,.int .i32 S.ol,.int .i64 S.bits,.int .i32 S.trim] 49)=x:=⟨_,rfl⟩
 have b3:Below w.heap.size w w3:=hw3▸(bLr).alloc (Nat.le_refl _) _
 have C3:Hid (CellsAt w3 w.heap.size (setA S (.slice ap S.prof.length cp))):=qh (hw3▸CellsAt.new' rfl rfl)
 have P3:=qh (hp.later pointLay_len b3 (Nat.le_refl _))
 have HW3:=qh hw3
 have B3:=qh b3
 have z3:w3.heap.size=w.heap.size+1:=by rw[←hw3];simp
 obtain⟨c1,hc1⟩:∃x,c1I S=x:=⟨_,rfl⟩
 obtain⟨c2,hc2⟩:∃x,c2I S=x:=⟨_,rfl⟩
 obtain⟨c3,hc3⟩:∃x,c3I S=x:=⟨_,rfl⟩
 obtain⟨c4,hc4⟩:∃x,c4I S=x:=⟨_,rfl⟩
 obtain⟨c5,hc5⟩:∃x,c5I S=x:=⟨_,rfl⟩
 obtain⟨c6,hc6⟩:∃x,c6I S=x:=⟨_,rfl⟩
 obtain⟨c7,hc7⟩:∃x,c7I S=x:=⟨_,rfl⟩
 have HC1:=qh (chk1 S);rw[hc1]at HC1
 have HC2:=qh (chk2 S);rw[hc2]at HC2
 have HC3:=qh (chk3 S);rw[hc3]at HC3
 have HC4:Hid (∀(W:World),RecsAt 3 pointLay W (.slice ap S.prof.length cp) S.prof→Calls Tryz.prog 28 #[.slice ap S.prof.length cp] W fun e w'=>e=.returned (.int .i64 c4)∧Below W.heap.size W w'):=qh (fun W hW=>by rw[←hc4];exact chk4 hl hW)
 have HC5:Hid (∀W:World,Calls Tryz.prog 29 #[.int .i32 0,.int .i32 0,.agg #[.int .i32 S.sum,.int .i32 S.wide,.int .i32 S.full]] W fun e w'=>(∃x y,e=.returned (.tuple #[.int .i32 x,.bool y,.int .i64 c5]))∧Below W.heap.size W w'):=qh (fun W=>by rw[←hc5];exact(sense_any 0 0 S.sum S.wide S.full W (by omega) (by omega) hin.sum hin.wide hin.full).mono fun e w' h=>⟨⟨_,_,h.1⟩,h.2⟩)
 have HC6:=qh (chk6 S);rw[hc6]at HC6
 have HC7:=qh (chk7 S hin);rw[hc7]at HC7
 have HE:Hid (chkE S=if c1≠0 then c1 else if c2≠0 then c2 else if c3≠0 then c3 else if c4≠0 then c4 else if c5≠0 then c5 else if c6≠0 then c6 else c7):=qh (by rw[←hc1,←hc2,←hc3,←hc4,←hc5,←hc6,←hc7];rfl)
 clear hc1 hc2 hc3 hc4 hc5 hc6 hc7 hw3 b3 hp hl hin
 go_enter Tryz.func17,Tryz.ntmps17
 go_upto_region 1 with(fail)
 rw[HW3.out]
 clear HW3
 go_cut [23,24,25]from 8 (fun s23 s24 s25 wx=>∃g,s23=.slice (some ⟨g,0,none⟩) 4 4∧s24=.int .i64 4∧s25=.int .i64 0∧CellsAt wx g [.int .i64 c1,.int .i64 c2,.int .i64 c3,.int .i64 c4]∧CellsAt wx w.heap.size (setA S (.slice ap S.prof.length cp))∧Below w.heap.size w wx)
 case first=>
  have KB:∀W,Below w3.heap.size w3 W→W.cell? ⟨w.heap.size,0,none⟩=some (.int .i32 S.gain)∧W.cell? ⟨w.heap.size,1,none⟩=some (.int .i64 S.drag)∧W.cell? ⟨w.heap.size,2,none⟩=some (.int .i32 S.low)∧W.cell? ⟨w.heap.size,3,none⟩=some (.int .i32 S.high)∧W.cell? ⟨w.heap.size,4,none⟩=some (.int .i32 S.rate)∧W.cell? ⟨w.heap.size,5,none⟩=some (.int .i64 S.soft)∧W.cell? ⟨w.heap.size,6,none⟩=some (.int .i32 S.P)∧W.cell? ⟨w.heap.size,7,none⟩=some (.int .i32 S.I)∧W.cell? ⟨w.heap.size,8,none⟩=some (.int .i32 S.D)∧W.cell? ⟨w.heap.size,9,none⟩=some (.int .i32 S.lo)∧W.cell? ⟨w.heap.size,10,none⟩=some (.int .i32 S.hi)∧W.cell? ⟨w.heap.size,11,none⟩=some (.int .i32 S.m0)∧W.cell? ⟨w.heap.size,12,none⟩=some (.int .i32 S.m1)∧W.cell? ⟨w.heap.size,13,none⟩=some (.int .i32 S.m2)∧W.cell? ⟨w.heap.size,14,none⟩=some (.int .i32 S.m3)∧W.cell? ⟨w.heap.size,15,none⟩=some (.int .i32 S.m4)∧W.cell? ⟨w.heap.size,16,none⟩=some (.int .i64 S.up)∧W.cell? ⟨w.heap.size,17,none⟩=some (.int .i64 S.down)∧W.cell? ⟨w.heap.size,18,none⟩=some (.int .i64 S.most)∧W.cell? ⟨w.heap.size,22,none⟩=some (.slice ap S.prof.length cp):=fun W hW=>⟨(C3.out.later hW (by omega)).at_ 0 rfl,(C3.out.later hW (by omega)).at_ 1 rfl,(C3.out.later hW (by omega)).at_ 2 rfl,(C3.out.later hW (by omega)).at_ 3 rfl,(C3.out.later hW (by omega)).at_ 4 rfl,(C3.out.later hW (by omega)).at_ 5 rfl,(C3.out.later hW (by omega)).at_ 6 rfl,(C3.out.later hW (by omega)).at_ 7 rfl,(C3.out.later hW (by omega)).at_ 8 rfl,(C3.out.later hW (by omega)).at_ 9 rfl,(C3.out.later hW (by omega)).at_ 10 rfl,(C3.out.later hW (by omega)).at_ 11 rfl,(C3.out.later hW (by omega)).at_ 12 rfl,(C3.out.later hW (by omega)).at_ 13 rfl,(C3.out.later hW (by omega)).at_ 14 rfl,(C3.out.later hW (by omega)).at_ 15 rfl,(C3.out.later hW (by omega)).at_ 16 rfl,(C3.out.later hW (by omega)).at_ 17 rfl,(C3.out.later hW (by omega)).at_ 18 rfl,(C3.out.later hW (by omega)).at_ 22 rfl⟩
  have K0:=KB w3 (bLr)
  have K0d:=KB w3.drew (bLr).drew
  go_region_held3 (fun w'=>w'.cell? ⟨w.heap.size,0,none⟩=some (.int .i32 S.gain)∧w'.cell? ⟨w.heap.size,1,none⟩=some (.int .i64 S.drag)∧w'.cell? ⟨w.heap.size,2,none⟩=some (.int .i32 S.low)∧w'.cell? ⟨w.heap.size,3,none⟩=some (.int .i32 S.high)∧w'.cell? ⟨w.heap.size,4,none⟩=some (.int .i32 S.rate)∧w'.cell? ⟨w.heap.size,5,none⟩=some (.int .i64 S.soft)∧w'.cell? ⟨w.heap.size,6,none⟩=some (.int .i32 S.P)∧w'.cell? ⟨w.heap.size,7,none⟩=some (.int .i32 S.I)∧w'.cell? ⟨w.heap.size,8,none⟩=some (.int .i32 S.D)∧w'.cell? ⟨w.heap.size,9,none⟩=some (.int .i32 S.lo)∧w'.cell? ⟨w.heap.size,10,none⟩=some (.int .i32 S.hi)∧w'.cell? ⟨w.heap.size,11,none⟩=some (.int .i32 S.m0)∧w'.cell? ⟨w.heap.size,12,none⟩=some (.int .i32 S.m1)∧w'.cell? ⟨w.heap.size,13,none⟩=some (.int .i32 S.m2)∧w'.cell? ⟨w.heap.size,14,none⟩=some (.int .i32 S.m3)∧w'.cell? ⟨w.heap.size,15,none⟩=some (.int .i32 S.m4)∧w'.cell? ⟨w.heap.size,16,none⟩=some (.int .i64 S.up)∧w'.cell? ⟨w.heap.size,17,none⟩=some (.int .i64 S.down)∧w'.cell? ⟨w.heap.size,18,none⟩=some (.int .i64 S.most)∧w'.cell? ⟨w.heap.size,22,none⟩=some (.slice ap S.prof.length cp)) (first|with_reducible exact K0|with_reducible exact K0d|with_reducible exact kk|with_reducible exact kA _) (first|(go_at_call 25;refine(HC1.out _).mono ?_;rintro e4 w4 ⟨rfl,hb4⟩;have hbx:Below w3.heap.size w3 w4:=(by first|exact hbx.trans (hb4.mono hbx.size)|exact((Below.refl w3.heap.size w3).drew).trans (hb4.mono (by simp)));have kk:=KB _ hbx;have kA:=fun o=>KB (w4.alloc o) (hbx.alloc hbx.size o))|(go_at_call 26;refine(HC2.out _).mono ?_;rintro e4 w4 ⟨rfl,hb4⟩;have hbx:Below w3.heap.size w3 w4:=(by first|exact hbx.trans (hb4.mono hbx.size)|exact((Below.refl w3.heap.size w3).drew).trans (hb4.mono (by simp)));have kk:=KB _ hbx;have kA:=fun o=>KB (w4.alloc o) (hbx.alloc hbx.size o))|(go_at_call 27;refine(HC3.out _).mono ?_;rintro e4 w4 ⟨rfl,hb4⟩;have hbx:Below w3.heap.size w3 w4:=(by first|exact hbx.trans (hb4.mono hbx.size)|exact((Below.refl w3.heap.size w3).drew).trans (hb4.mono (by simp)));have kk:=KB _ hbx;have kA:=fun o=>KB (w4.alloc o) (hbx.alloc hbx.size o))|(go_at_call 28;refine(HC4.out _ (by first|exact P3.out.later pointLay_len hbx (Nat.le_refl _)|exact P3.out.later pointLay_len ((Below.refl w3.heap.size w3).drew) (Nat.le_refl _))).mono ?_;rintro e4 w4 ⟨rfl,hb4⟩;have hbx:Below w3.heap.size w3 w4:=(by first|exact hbx.trans (hb4.mono hbx.size)|exact((Below.refl w3.heap.size w3).drew).trans (hb4.mono (by simp)));have kk:=KB _ hbx;have kA:=fun o=>KB (w4.alloc o) (hbx.alloc hbx.size o)))
  all_goals
   go_wp2_with fail
   go_meet
   refine⟨_,rfl,rfl,rfl,CellsAt.new' rfl rfl,C3.out.later (hbx.alloc hbx.size _) (by omega),B3.out.trans ((hbx.alloc hbx.size _).mono (by omega))⟩
 case rest=>
 obtain⟨g,rfl,rfl,rfl,hG,hC,hB⟩:=hcut
 have g0:=hG.at_ 0 rfl;have g1:=hG.at_ 1 rfl;have g2:=hG.at_ 2 rfl;have g3:=hG.at_ 3 rfl;have gz:=hG.lt
 have s0:=hC.at_ 19 rfl;have s1:=hC.at_ 20 rfl;have s2:=hC.at_ 21 rfl;have s3:=hC.at_ 23 rfl;have s4:=hC.at_ 24 rfl;have s5:=hC.at_ 25 rfl;have s6:=hC.at_ 26 rfl;have sz:=hC.lt
 have HB:=qh hB
 have HCC:=qh hC
 clear hG hC hB C3 P3 B3 HC1 HC2 HC3 HC4
 by_cases h1:c1=0
 case neg=>
  have d1:(c1==0)=false:=by simpa using h1
  have hE:=HE.out;rw[if_pos h1]at hE;have HE2:=qh hE
  clear HE hE s0 s1 s2 s3 s4 s5 s6
  go_wp2_with fail
  refine wp_loop_rounds 1 ?_
  rw[rounds_succ];go_wp2
  go_ret
  exact⟨by rw[HE2.out];rfl,HB.out⟩
 subst h1
 by_cases h2:c2=0
 case neg=>
  have d1:(c2==0)=false:=by simpa using h2
  have hE:=HE.out;simp only[ne_eq,not_true_eq_false,if_false]at hE;rw[if_pos h2]at hE;have HE2:=qh hE
  clear HE hE s0 s1 s2 s3 s4 s5 s6
  go_wp2_with fail
  refine wp_loop_rounds 2 ?_
  rw[rounds_succ];go_wp2
  rw[rounds_succ];go_wp2
  go_ret
  exact⟨by rw[HE2.out];rfl,HB.out⟩
 subst h2
 by_cases h3:c3=0
 case neg=>
  have d1:(c3==0)=false:=by simpa using h3
  have hE:=HE.out;simp only[ne_eq,not_true_eq_false,if_false]at hE;rw[if_pos h3]at hE;have HE2:=qh hE
  clear HE hE s0 s1 s2 s3 s4 s5 s6
  go_wp2_with fail
  refine wp_loop_rounds 3 ?_
  rw[rounds_succ];go_wp2
  rw[rounds_succ];go_wp2
  rw[rounds_succ];go_wp2
  go_ret
  exact⟨by rw[HE2.out];rfl,HB.out⟩
 subst h3
 by_cases h4:c4=0
 case neg=>
  have d1:(c4==0)=false:=by simpa using h4
  have hE:=HE.out;simp only[ne_eq,not_true_eq_false,if_false]at hE;rw[if_pos h4]at hE;have HE2:=qh hE
  clear HE hE s0 s1 s2 s3 s4 s5 s6
  go_wp2_with fail
  refine wp_loop_rounds 4 ?_
  rw[rounds_succ];go_wp2
  rw[rounds_succ];go_wp2
  rw[rounds_succ];go_wp2
  rw[rounds_succ];go_wp2
  go_ret
  exact⟨by rw[HE2.out];rfl,HB.out⟩
 subst h4
 by_cases h5:c5=0
 case neg=>
  have d1:(c5==0)=false:=by simpa using h5
  have hE:=HE.out;simp only[ne_eq,not_true_eq_false,if_false]at hE;rw[if_pos h5]at hE;have HE2:=qh hE
  clear HE hE s3 s4 s5 s6
  go_wp2_with fail
  refine wp_loop_rounds 5 ?_
  rw[rounds_succ];go_wp2
  rw[rounds_succ];go_wp2
  rw[rounds_succ];go_wp2
  rw[rounds_succ];go_wp2
  rw[rounds_succ];go_wp2_with fail
  refine(HC5.out _).mono ?_
  rintro e5 w5 ⟨⟨x,y,rfl⟩,hb5⟩
  go_wp2_with fail
  go_ret
  exact⟨by rw[HE2.out];rfl,HB.out.trans (hb5.mono HB.out.size)⟩
 subst h5
 by_cases h6:c6=0
 case neg=>
  have d1:(c6==0)=false:=by simpa using h6
  have hE:=HE.out;simp only[ne_eq,not_true_eq_false,if_false]at hE;rw[if_pos h6]at hE;have HE2:=qh hE
  clear HE hE
  go_wp2_with fail
  refine wp_loop_rounds 5 ?_
  rw[rounds_succ];go_wp2
  rw[rounds_succ];go_wp2
  rw[rounds_succ];go_wp2
  rw[rounds_succ];go_wp2
  rw[rounds_succ];go_wp2_with fail
  refine(HC5.out _).mono ?_
  rintro e5 w5 ⟨⟨x,y,rfl⟩,hb5⟩
  have C5:=HCC.out.call hb5
  have t3:=C5.at_ 23 rfl;have t4:=C5.at_ 24 rfl;have tz:=C5.lt
  have HC5b:=qh C5
  clear C5 g0 g1 g2 g3 gz s0 s1 s2 s3 s4 s5 s6 sz
  go_wp2_with fail
  refine(HC6.out _).mono ?_
  rintro e6 w6 ⟨⟨x6,y6,rfl⟩,hb6⟩
  go_wp2_with fail
  go_ret
  exact⟨by rw[HE2.out];rfl,(HB.out.trans (hb5.mono HB.out.size)).trans (hb6.mono (HB.out.trans (hb5.mono HB.out.size)).size)⟩
 subst h6
 have hE:=HE.out;simp only[ne_eq,not_true_eq_false,if_false]at hE;have HE2:=qh hE
 clear HE hE
 go_wp2_with fail
 refine wp_loop_rounds 5 ?_
 rw[rounds_succ];go_wp2
 rw[rounds_succ];go_wp2
 rw[rounds_succ];go_wp2
 rw[rounds_succ];go_wp2
 rw[rounds_succ];go_wp2_with fail
 refine(HC5.out _).mono ?_
 rintro e5 w5 ⟨⟨x,y,rfl⟩,hb5⟩
 have C5:=HCC.out.call hb5
 have t3:=C5.at_ 23 rfl;have t4:=C5.at_ 24 rfl;have tz:=C5.lt
 have HC5b:=qh C5
 clear C5 g0 g1 g2 g3 gz s0 s1 s2 s3 s4 s5 s6 sz
 go_wp2_with fail
 refine(HC6.out _).mono ?_
 rintro e6 w6 ⟨⟨x6,y6,rfl⟩,hb6⟩
 have C6:=HC5b.out.call hb6
 have r5:=C6.at_ 25 rfl;have r6:=C6.at_ 26 rfl;have rz:=C6.lt
 clear C6 t3 t4 tz
 go_wp2_with fail
 refine(HC7.out _).mono ?_
 rintro e7 w7 ⟨rfl,hb7⟩
 go_wp2_with fail
 go_ret
 exact⟨by rw[HE2.out];rfl,((HB.out.trans (hb5.mono HB.out.size)).trans (hb6.mono (HB.out.trans (hb5.mono HB.out.size)).size)).trans (hb7.mono ((HB.out.trans (hb5.mono HB.out.size)).trans (hb6.mono (HB.out.trans (hb5.mono HB.out.size)).size)).size)⟩
end Go.Proofs.YtpkiepjmcepnoaaGreatDoor
