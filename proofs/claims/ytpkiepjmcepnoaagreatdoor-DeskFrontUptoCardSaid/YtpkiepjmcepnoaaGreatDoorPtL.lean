/- A part of a proof. -/
import Derived.Test.YtpkiepjmcepnoaaGreatDoorPtJ
set_option maxHeartbeats 16000000
set_option maxRecDepth 100000
namespace Go.Proofs.YtpkiepjmcepnoaaGreatDoor
open Go.ChangeShapes Go.WideShapes Go.ChangeAt Go.RowKit
set_option linter.unusedVariables false
theorem next_3f (r e:Int) (w:World) (h:0≤r∧r≤10000) (he:e=1∨e=2∨e=3∨e=4∨e=5∨e=6∨e=7) (m':Int) (f':Bool) (r':Int) (hr:nextI 3 false r e=(m',f',r')):
  Calls Tryz.prog 172 #[.agg #[.int .i64 3,.bool false,.int .i64 r],.int .i64 e] w fun e' w'=>e'=.returned (.tuple #[.agg #[.int .i64 m',.bool f',.int .i64 r'],.int .i64 0])∧Below w.heap.size w w':=by
 have H:Hid (LaneOk 3 false r):=(⟨by decide,h.1,h.2⟩:LaneOk 3 false r)
 obtain⟨h1,h2⟩:=h
 rcases he with rfl|rfl|rfl|rfl|rfl|rfl|rfl
 ·obtain⟨rfl,rfl,rfl⟩:3=m'∧false=f'∧r=r':=by
   have h0:nextI 3 false r 1=(3,false,r):=by first|(simp[nextI,turnB,turnI];done)|simp[nextI,turnB,turnV,turnI]
   rw[h0]at hr;simpa using hr
  clear hr
  go_enter Tryz.func172,Tryz.ntmps172
  go_wp2_with fail
  refine(laneCheck_yes _ _ _ _ H.out).mono ?_
  rintro e1 w1 ⟨rfl,rfl⟩
  go_wp2_with fail
  go_region_held3 (fun w'=>w'.cell? ⟨w.heap.size,0,none⟩=some (.int .i64 3)) (go_keep) ((go_at_call 187;refine(turns_any _).mono ?_;rintro e2 w2 ⟨b,rfl,hT,hb2,hbl⟩;have c0:w2.cell? ⟨w.heap.size,0,none⟩=some (.int .i64 3):=cell_later hb2 (by go_simp);have hl:=turns_look hT (s:=3) (e:=1) ⟨by omega,by omega⟩;rw[show turnV 3 1=0 from rfl,show turnB 3 1=false from rfl]at hl))
  have z2:=hb2.size
  have BA:Below w.heap.size w w2:=by repeat(first|(with_reducible first|exact bLr)|((with_reducible first|refine bLs ?_ ?_ _|refine bLt hb2 ?_ ?_|refine bLa ?_ ?_ _);·first|omega|(simp<;>omega))|with_reducible first|refine bLn ?_ _|refine bLd ?_)
  have c1:w2.cell? ⟨w.heap.size,1,none⟩=some (.bool false):=cell_later hb2 (by go_simp)
  have c2:w2.cell? ⟨w.heap.size,2,none⟩=some (.int .i64 r):=cell_later hb2 (by go_simp)
  have x0:w2.cell? ⟨w.heap.size+1,0,none⟩=some (.int .i64 0):=cell_later hb2 (by go_simp)
  have x1:w2.cell? ⟨w.heap.size+1,1,none⟩=some (.bool false):=cell_later hb2 (by go_simp)
  have x2:w2.cell? ⟨w.heap.size+1,2,none⟩=some (.int .i64 0):=cell_later hb2 (by go_simp)
  have xf:∀o,w2.frozen? ⟨w.heap.size+1,o,none⟩=false:=fun o=>by rw[hb2.frozen (by simp)];go_simp
  simp at z2
  have s1:w.heap.size<w2.heap.size:=by omega
  have s2:w.heap.size+1<w2.heap.size:=by omega
  clear hb2 hT hl hbl z2
  go_wp2
  refine bodyPost_ret (v:=.tuple #[.agg #[_,_,_],_]) (by simp[results,Tryz.results172,go_sem,x0,x1,x2]) rfl ⟨rfl,?_⟩
  repeat(first|(with_reducible first|exact bLr|exact BA)|((with_reducible first|refine bLs ?_ ?_ _|refine bLa ?_ ?_ _);·first|omega|(simp<;>omega))|with_reducible first|refine bLn ?_ _|refine bLd ?_)
 ·obtain⟨rfl,rfl,rfl⟩:3=m'∧false=f'∧r=r':=by
   have h0:nextI 3 false r 2=(3,false,r):=by first|(simp[nextI,turnB,turnI];done)|simp[nextI,turnB,turnV,turnI]
   rw[h0]at hr;simpa using hr
  clear hr
  go_enter Tryz.func172,Tryz.ntmps172
  go_wp2_with fail
  refine(laneCheck_yes _ _ _ _ H.out).mono ?_
  rintro e1 w1 ⟨rfl,rfl⟩
  go_wp2_with fail
  go_region_held3 (fun w'=>w'.cell? ⟨w.heap.size,0,none⟩=some (.int .i64 3)) (go_keep) ((go_at_call 187;refine(turns_any _).mono ?_;rintro e2 w2 ⟨b,rfl,hT,hb2,hbl⟩;have c0:w2.cell? ⟨w.heap.size,0,none⟩=some (.int .i64 3):=cell_later hb2 (by go_simp);have hl:=turns_look hT (s:=3) (e:=2) ⟨by omega,by omega⟩;rw[show turnV 3 2=0 from rfl,show turnB 3 2=false from rfl]at hl))
  have z2:=hb2.size
  have BA:Below w.heap.size w w2:=by repeat(first|(with_reducible first|exact bLr)|((with_reducible first|refine bLs ?_ ?_ _|refine bLt hb2 ?_ ?_|refine bLa ?_ ?_ _);·first|omega|(simp<;>omega))|with_reducible first|refine bLn ?_ _|refine bLd ?_)
  have c1:w2.cell? ⟨w.heap.size,1,none⟩=some (.bool false):=cell_later hb2 (by go_simp)
  have c2:w2.cell? ⟨w.heap.size,2,none⟩=some (.int .i64 r):=cell_later hb2 (by go_simp)
  have x0:w2.cell? ⟨w.heap.size+1,0,none⟩=some (.int .i64 0):=cell_later hb2 (by go_simp)
  have x1:w2.cell? ⟨w.heap.size+1,1,none⟩=some (.bool false):=cell_later hb2 (by go_simp)
  have x2:w2.cell? ⟨w.heap.size+1,2,none⟩=some (.int .i64 0):=cell_later hb2 (by go_simp)
  have xf:∀o,w2.frozen? ⟨w.heap.size+1,o,none⟩=false:=fun o=>by rw[hb2.frozen (by simp)];go_simp
  simp at z2
  have s1:w.heap.size<w2.heap.size:=by omega
  have s2:w.heap.size+1<w2.heap.size:=by omega
  clear hb2 hT hl hbl z2
  go_wp2
  refine bodyPost_ret (v:=.tuple #[.agg #[_,_,_],_]) (by simp[results,Tryz.results172,go_sem,x0,x1,x2]) rfl ⟨rfl,?_⟩
  repeat(first|(with_reducible first|exact bLr|exact BA)|((with_reducible first|refine bLs ?_ ?_ _|refine bLa ?_ ?_ _);·first|omega|(simp<;>omega))|with_reducible first|refine bLn ?_ _|refine bLd ?_)
 ·obtain⟨rfl,rfl,rfl⟩:3=m'∧true=f'∧r=r':=by
   have h0:nextI 3 false r 3=(3,true,r):=by first|(simp[nextI,turnB,turnI];done)|simp[nextI,turnB,turnV,turnI]
   rw[h0]at hr;simpa using hr
  clear hr
  go_enter Tryz.func172,Tryz.ntmps172
  go_wp2_with fail
  refine(laneCheck_yes _ _ _ _ H.out).mono ?_
  rintro e1 w1 ⟨rfl,rfl⟩
  go_wp2_with fail
  go_region_held3 (fun w'=>w'.cell? ⟨w.heap.size,0,none⟩=some (.int .i64 3)) (go_keep) ((go_at_call 187;refine(turns_any _).mono ?_;rintro e2 w2 ⟨b,rfl,hT,hb2,hbl⟩;have c0:w2.cell? ⟨w.heap.size,0,none⟩=some (.int .i64 3):=cell_later hb2 (by go_simp);have hl:=turns_look hT (s:=3) (e:=3) ⟨by omega,by omega⟩;rw[show turnV 3 3=0 from rfl,show turnB 3 3=false from rfl]at hl))
  have z2:=hb2.size
  have BA:Below w.heap.size w w2:=by repeat(first|(with_reducible first|exact bLr)|((with_reducible first|refine bLs ?_ ?_ _|refine bLt hb2 ?_ ?_|refine bLa ?_ ?_ _);·first|omega|(simp<;>omega))|with_reducible first|refine bLn ?_ _|refine bLd ?_)
  have c1:w2.cell? ⟨w.heap.size,1,none⟩=some (.bool false):=cell_later hb2 (by go_simp)
  have c2:w2.cell? ⟨w.heap.size,2,none⟩=some (.int .i64 r):=cell_later hb2 (by go_simp)
  have x0:w2.cell? ⟨w.heap.size+1,0,none⟩=some (.int .i64 0):=cell_later hb2 (by go_simp)
  have x1:w2.cell? ⟨w.heap.size+1,1,none⟩=some (.bool false):=cell_later hb2 (by go_simp)
  have x2:w2.cell? ⟨w.heap.size+1,2,none⟩=some (.int .i64 0):=cell_later hb2 (by go_simp)
  have xf:∀o,w2.frozen? ⟨w.heap.size+1,o,none⟩=false:=fun o=>by rw[hb2.frozen (by simp)];go_simp
  simp at z2
  have s1:w.heap.size<w2.heap.size:=by omega
  have s2:w.heap.size+1<w2.heap.size:=by omega
  clear hb2 hT hl hbl z2
  go_wp2
  refine bodyPost_ret (v:=.tuple #[.agg #[_,_,_],_]) (by simp[results,Tryz.results172,go_sem,x0,x1,x2]) rfl ⟨rfl,?_⟩
  repeat(first|(with_reducible first|exact bLr|exact BA)|((with_reducible first|refine bLs ?_ ?_ _|refine bLa ?_ ?_ _);·first|omega|(simp<;>omega))|with_reducible first|refine bLn ?_ _|refine bLd ?_)
 ·obtain⟨rfl,rfl,rfl⟩:3=m'∧false=f'∧r=r':=by
   have h0:nextI 3 false r 4=(3,false,r):=by first|(simp[nextI,turnB,turnI];done)|simp[nextI,turnB,turnV,turnI]
   rw[h0]at hr;simpa using hr
  clear hr
  go_enter Tryz.func172,Tryz.ntmps172
  go_wp2_with fail
  refine(laneCheck_yes _ _ _ _ H.out).mono ?_
  rintro e1 w1 ⟨rfl,rfl⟩
  go_wp2_with fail
  go_region_held3 (fun w'=>w'.cell? ⟨w.heap.size,0,none⟩=some (.int .i64 3)) (go_keep) ((go_at_call 187;refine(turns_any _).mono ?_;rintro e2 w2 ⟨b,rfl,hT,hb2,hbl⟩;have c0:w2.cell? ⟨w.heap.size,0,none⟩=some (.int .i64 3):=cell_later hb2 (by go_simp);have hl:=turns_look hT (s:=3) (e:=4) ⟨by omega,by omega⟩;rw[show turnV 3 4=0 from rfl,show turnB 3 4=false from rfl]at hl))
  have z2:=hb2.size
  have BA:Below w.heap.size w w2:=by repeat(first|(with_reducible first|exact bLr)|((with_reducible first|refine bLs ?_ ?_ _|refine bLt hb2 ?_ ?_|refine bLa ?_ ?_ _);·first|omega|(simp<;>omega))|with_reducible first|refine bLn ?_ _|refine bLd ?_)
  have c1:w2.cell? ⟨w.heap.size,1,none⟩=some (.bool false):=cell_later hb2 (by go_simp)
  have c2:w2.cell? ⟨w.heap.size,2,none⟩=some (.int .i64 r):=cell_later hb2 (by go_simp)
  have x0:w2.cell? ⟨w.heap.size+1,0,none⟩=some (.int .i64 0):=cell_later hb2 (by go_simp)
  have x1:w2.cell? ⟨w.heap.size+1,1,none⟩=some (.bool false):=cell_later hb2 (by go_simp)
  have x2:w2.cell? ⟨w.heap.size+1,2,none⟩=some (.int .i64 0):=cell_later hb2 (by go_simp)
  have xf:∀o,w2.frozen? ⟨w.heap.size+1,o,none⟩=false:=fun o=>by rw[hb2.frozen (by simp)];go_simp
  simp at z2
  have s1:w.heap.size<w2.heap.size:=by omega
  have s2:w.heap.size+1<w2.heap.size:=by omega
  clear hb2 hT hl hbl z2
  go_wp2
  refine bodyPost_ret (v:=.tuple #[.agg #[_,_,_],_]) (by simp[results,Tryz.results172,go_sem,x0,x1,x2]) rfl ⟨rfl,?_⟩
  repeat(first|(with_reducible first|exact bLr|exact BA)|((with_reducible first|refine bLs ?_ ?_ _|refine bLa ?_ ?_ _);·first|omega|(simp<;>omega))|with_reducible first|refine bLn ?_ _|refine bLd ?_)
 ·obtain⟨rfl,rfl,rfl⟩:3=m'∧false=f'∧r=r':=by
   have h0:nextI 3 false r 5=(3,false,r):=by first|(simp[nextI,turnB,turnI];done)|simp[nextI,turnB,turnV,turnI]
   rw[h0]at hr;simpa using hr
  clear hr
  go_enter Tryz.func172,Tryz.ntmps172
  go_wp2_with fail
  refine(laneCheck_yes _ _ _ _ H.out).mono ?_
  rintro e1 w1 ⟨rfl,rfl⟩
  go_wp2_with fail
  go_region_held3 (fun w'=>w'.cell? ⟨w.heap.size,0,none⟩=some (.int .i64 3)) (go_keep) ((go_at_call 187;refine(turns_any _).mono ?_;rintro e2 w2 ⟨b,rfl,hT,hb2,hbl⟩;have c0:w2.cell? ⟨w.heap.size,0,none⟩=some (.int .i64 3):=cell_later hb2 (by go_simp);have hl:=turns_look hT (s:=3) (e:=5) ⟨by omega,by omega⟩;rw[show turnV 3 5=0 from rfl,show turnB 3 5=false from rfl]at hl))
  have z2:=hb2.size
  have BA:Below w.heap.size w w2:=by repeat(first|(with_reducible first|exact bLr)|((with_reducible first|refine bLs ?_ ?_ _|refine bLt hb2 ?_ ?_|refine bLa ?_ ?_ _);·first|omega|(simp<;>omega))|with_reducible first|refine bLn ?_ _|refine bLd ?_)
  have c1:w2.cell? ⟨w.heap.size,1,none⟩=some (.bool false):=cell_later hb2 (by go_simp)
  have c2:w2.cell? ⟨w.heap.size,2,none⟩=some (.int .i64 r):=cell_later hb2 (by go_simp)
  have x0:w2.cell? ⟨w.heap.size+1,0,none⟩=some (.int .i64 0):=cell_later hb2 (by go_simp)
  have x1:w2.cell? ⟨w.heap.size+1,1,none⟩=some (.bool false):=cell_later hb2 (by go_simp)
  have x2:w2.cell? ⟨w.heap.size+1,2,none⟩=some (.int .i64 0):=cell_later hb2 (by go_simp)
  have xf:∀o,w2.frozen? ⟨w.heap.size+1,o,none⟩=false:=fun o=>by rw[hb2.frozen (by simp)];go_simp
  simp at z2
  have s1:w.heap.size<w2.heap.size:=by omega
  have s2:w.heap.size+1<w2.heap.size:=by omega
  clear hb2 hT hl hbl z2
  go_wp2
  refine bodyPost_ret (v:=.tuple #[.agg #[_,_,_],_]) (by simp[results,Tryz.results172,go_sem,x0,x1,x2]) rfl ⟨rfl,?_⟩
  repeat(first|(with_reducible first|exact bLr|exact BA)|((with_reducible first|refine bLs ?_ ?_ _|refine bLa ?_ ?_ _);·first|omega|(simp<;>omega))|with_reducible first|refine bLn ?_ _|refine bLd ?_)
 ·obtain⟨rfl,rfl,rfl⟩:0=m'∧false=f'∧0=r':=by
   have h0:nextI 3 false r 6=(0,false,0):=by first|(simp[nextI,turnB,turnI];done)|simp[nextI,turnB,turnV,turnI]
   rw[h0]at hr;simpa using hr
  clear hr
  go_enter Tryz.func172,Tryz.ntmps172
  go_wp2_with fail
  refine(laneCheck_yes _ _ _ _ H.out).mono ?_
  rintro e1 w1 ⟨rfl,rfl⟩
  go_wp2_with fail
  go_region_held3 (fun w'=>w'.cell? ⟨w.heap.size,0,none⟩=some (.int .i64 3)) (go_keep) ((go_at_call 187;refine(turns_any _).mono ?_;rintro e2 w2 ⟨b,rfl,hT,hb2,hbl⟩;have c0:w2.cell? ⟨w.heap.size,0,none⟩=some (.int .i64 3):=cell_later hb2 (by go_simp);have hl:=turns_look hT (s:=3) (e:=6) ⟨by omega,by omega⟩;rw[show turnV 3 6=0 from rfl,show turnB 3 6=true from rfl]at hl))
  have z2:=hb2.size
  have BA:Below w.heap.size w w2:=by repeat(first|(with_reducible first|exact bLr)|((with_reducible first|refine bLs ?_ ?_ _|refine bLt hb2 ?_ ?_|refine bLa ?_ ?_ _);·first|omega|(simp<;>omega))|with_reducible first|refine bLn ?_ _|refine bLd ?_)
  have c1:w2.cell? ⟨w.heap.size,1,none⟩=some (.bool false):=cell_later hb2 (by go_simp)
  have c2:w2.cell? ⟨w.heap.size,2,none⟩=some (.int .i64 r):=cell_later hb2 (by go_simp)
  have x0:w2.cell? ⟨w.heap.size+1,0,none⟩=some (.int .i64 0):=cell_later hb2 (by go_simp)
  have x1:w2.cell? ⟨w.heap.size+1,1,none⟩=some (.bool false):=cell_later hb2 (by go_simp)
  have x2:w2.cell? ⟨w.heap.size+1,2,none⟩=some (.int .i64 0):=cell_later hb2 (by go_simp)
  have xf:∀o,w2.frozen? ⟨w.heap.size+1,o,none⟩=false:=fun o=>by rw[hb2.frozen (by simp)];go_simp
  simp at z2
  have s1:w.heap.size<w2.heap.size:=by omega
  have s2:w.heap.size+1<w2.heap.size:=by omega
  clear hb2 hT hl hbl z2
  go_wp2
  refine bodyPost_ret (v:=.tuple #[.agg #[_,_,_],_]) (by simp[results,Tryz.results172,go_sem,x0,x1,x2]) rfl ⟨rfl,?_⟩
  repeat(first|(with_reducible first|exact bLr|exact BA)|((with_reducible first|refine bLs ?_ ?_ _|refine bLa ?_ ?_ _);·first|omega|(simp<;>omega))|with_reducible first|refine bLn ?_ _|refine bLd ?_)
 ·obtain⟨rfl,rfl,rfl⟩:0=m'∧false=f'∧0=r':=by
   have h0:nextI 3 false r 7=(0,false,0):=by first|(simp[nextI,turnB,turnI];done)|simp[nextI,turnB,turnV,turnI]
   rw[h0]at hr;simpa using hr
  clear hr
  go_enter Tryz.func172,Tryz.ntmps172
  go_wp2_with fail
  refine(laneCheck_yes _ _ _ _ H.out).mono ?_
  rintro e1 w1 ⟨rfl,rfl⟩
  go_wp2_with fail
  go_region_held3 (fun w'=>w'.cell? ⟨w.heap.size,0,none⟩=some (.int .i64 3)) (go_keep) ((go_at_call 187;refine(turns_any _).mono ?_;rintro e2 w2 ⟨b,rfl,hT,hb2,hbl⟩;have c0:w2.cell? ⟨w.heap.size,0,none⟩=some (.int .i64 3):=cell_later hb2 (by go_simp);have hl:=turns_look hT (s:=3) (e:=7) ⟨by omega,by omega⟩;rw[show turnV 3 7=0 from rfl,show turnB 3 7=true from rfl]at hl))
  have z2:=hb2.size
  have BA:Below w.heap.size w w2:=by repeat(first|(with_reducible first|exact bLr)|((with_reducible first|refine bLs ?_ ?_ _|refine bLt hb2 ?_ ?_|refine bLa ?_ ?_ _);·first|omega|(simp<;>omega))|with_reducible first|refine bLn ?_ _|refine bLd ?_)
  have c1:w2.cell? ⟨w.heap.size,1,none⟩=some (.bool false):=cell_later hb2 (by go_simp)
  have c2:w2.cell? ⟨w.heap.size,2,none⟩=some (.int .i64 r):=cell_later hb2 (by go_simp)
  have x0:w2.cell? ⟨w.heap.size+1,0,none⟩=some (.int .i64 0):=cell_later hb2 (by go_simp)
  have x1:w2.cell? ⟨w.heap.size+1,1,none⟩=some (.bool false):=cell_later hb2 (by go_simp)
  have x2:w2.cell? ⟨w.heap.size+1,2,none⟩=some (.int .i64 0):=cell_later hb2 (by go_simp)
  have xf:∀o,w2.frozen? ⟨w.heap.size+1,o,none⟩=false:=fun o=>by rw[hb2.frozen (by simp)];go_simp
  simp at z2
  have s1:w.heap.size<w2.heap.size:=by omega
  have s2:w.heap.size+1<w2.heap.size:=by omega
  clear hb2 hT hl hbl z2
  go_wp2
  refine bodyPost_ret (v:=.tuple #[.agg #[_,_,_],_]) (by simp[results,Tryz.results172,go_sem,x0,x1,x2]) rfl ⟨rfl,?_⟩
  repeat(first|(with_reducible first|exact bLr|exact BA)|((with_reducible first|refine bLs ?_ ?_ _|refine bLa ?_ ?_ _);·first|omega|(simp<;>omega))|with_reducible first|refine bLn ?_ _|refine bLd ?_)
theorem next_3t (r e:Int) (w:World) (h:0≤r∧r≤10000) (he:e=1∨e=2∨e=3∨e=4∨e=5∨e=6∨e=7) (m':Int) (f':Bool) (r':Int) (hr:nextI 3 true r e=(m',f',r')):
  Calls Tryz.prog 172 #[.agg #[.int .i64 3,.bool true,.int .i64 r],.int .i64 e] w fun e' w'=>e'=.returned (.tuple #[.agg #[.int .i64 m',.bool f',.int .i64 r'],.int .i64 0])∧Below w.heap.size w w':=by
 have H:Hid (LaneOk 3 true r):=(⟨by decide,h.1,h.2⟩:LaneOk 3 true r)
 obtain⟨h1,h2⟩:=h
 rcases he with rfl|rfl|rfl|rfl|rfl|rfl|rfl
 ·obtain⟨rfl,rfl,rfl⟩:3=m'∧true=f'∧r=r':=by
   have h0:nextI 3 true r 1=(3,true,r):=by first|(simp[nextI,turnB,turnI];done)|simp[nextI,turnB,turnV,turnI]
   rw[h0]at hr;simpa using hr
  clear hr
  go_enter Tryz.func172,Tryz.ntmps172
  go_wp2_with fail
  refine(laneCheck_yes _ _ _ _ H.out).mono ?_
  rintro e1 w1 ⟨rfl,rfl⟩
  go_wp2_with fail
  go_region_held3 (fun w'=>w'.cell? ⟨w.heap.size,0,none⟩=some (.int .i64 3)) (go_keep) ((go_at_call 187;refine(turns_any _).mono ?_;rintro e2 w2 ⟨b,rfl,hT,hb2,hbl⟩;have c0:w2.cell? ⟨w.heap.size,0,none⟩=some (.int .i64 3):=cell_later hb2 (by go_simp);have hl:=turns_look hT (s:=3) (e:=1) ⟨by omega,by omega⟩;rw[show turnV 3 1=0 from rfl,show turnB 3 1=false from rfl]at hl))
  have z2:=hb2.size
  have BA:Below w.heap.size w w2:=by repeat(first|(with_reducible first|exact bLr)|((with_reducible first|refine bLs ?_ ?_ _|refine bLt hb2 ?_ ?_|refine bLa ?_ ?_ _);·first|omega|(simp<;>omega))|with_reducible first|refine bLn ?_ _|refine bLd ?_)
  have c1:w2.cell? ⟨w.heap.size,1,none⟩=some (.bool true):=cell_later hb2 (by go_simp)
  have c2:w2.cell? ⟨w.heap.size,2,none⟩=some (.int .i64 r):=cell_later hb2 (by go_simp)
  have x0:w2.cell? ⟨w.heap.size+1,0,none⟩=some (.int .i64 0):=cell_later hb2 (by go_simp)
  have x1:w2.cell? ⟨w.heap.size+1,1,none⟩=some (.bool false):=cell_later hb2 (by go_simp)
  have x2:w2.cell? ⟨w.heap.size+1,2,none⟩=some (.int .i64 0):=cell_later hb2 (by go_simp)
  have xf:∀o,w2.frozen? ⟨w.heap.size+1,o,none⟩=false:=fun o=>by rw[hb2.frozen (by simp)];go_simp
  simp at z2
  have s1:w.heap.size<w2.heap.size:=by omega
  have s2:w.heap.size+1<w2.heap.size:=by omega
  clear hb2 hT hl hbl z2
  go_wp2
  refine bodyPost_ret (v:=.tuple #[.agg #[_,_,_],_]) (by simp[results,Tryz.results172,go_sem,x0,x1,x2]) rfl ⟨rfl,?_⟩
  repeat(first|(with_reducible first|exact bLr|exact BA)|((with_reducible first|refine bLs ?_ ?_ _|refine bLa ?_ ?_ _);·first|omega|(simp<;>omega))|with_reducible first|refine bLn ?_ _|refine bLd ?_)
 ·obtain⟨rfl,rfl,rfl⟩:3=m'∧true=f'∧r=r':=by
   have h0:nextI 3 true r 2=(3,true,r):=by first|(simp[nextI,turnB,turnI];done)|simp[nextI,turnB,turnV,turnI]
   rw[h0]at hr;simpa using hr
  clear hr
  go_enter Tryz.func172,Tryz.ntmps172
  go_wp2_with fail
  refine(laneCheck_yes _ _ _ _ H.out).mono ?_
  rintro e1 w1 ⟨rfl,rfl⟩
  go_wp2_with fail
  go_region_held3 (fun w'=>w'.cell? ⟨w.heap.size,0,none⟩=some (.int .i64 3)) (go_keep) ((go_at_call 187;refine(turns_any _).mono ?_;rintro e2 w2 ⟨b,rfl,hT,hb2,hbl⟩;have c0:w2.cell? ⟨w.heap.size,0,none⟩=some (.int .i64 3):=cell_later hb2 (by go_simp);have hl:=turns_look hT (s:=3) (e:=2) ⟨by omega,by omega⟩;rw[show turnV 3 2=0 from rfl,show turnB 3 2=false from rfl]at hl))
  have z2:=hb2.size
  have BA:Below w.heap.size w w2:=by repeat(first|(with_reducible first|exact bLr)|((with_reducible first|refine bLs ?_ ?_ _|refine bLt hb2 ?_ ?_|refine bLa ?_ ?_ _);·first|omega|(simp<;>omega))|with_reducible first|refine bLn ?_ _|refine bLd ?_)
  have c1:w2.cell? ⟨w.heap.size,1,none⟩=some (.bool true):=cell_later hb2 (by go_simp)
  have c2:w2.cell? ⟨w.heap.size,2,none⟩=some (.int .i64 r):=cell_later hb2 (by go_simp)
  have x0:w2.cell? ⟨w.heap.size+1,0,none⟩=some (.int .i64 0):=cell_later hb2 (by go_simp)
  have x1:w2.cell? ⟨w.heap.size+1,1,none⟩=some (.bool false):=cell_later hb2 (by go_simp)
  have x2:w2.cell? ⟨w.heap.size+1,2,none⟩=some (.int .i64 0):=cell_later hb2 (by go_simp)
  have xf:∀o,w2.frozen? ⟨w.heap.size+1,o,none⟩=false:=fun o=>by rw[hb2.frozen (by simp)];go_simp
  simp at z2
  have s1:w.heap.size<w2.heap.size:=by omega
  have s2:w.heap.size+1<w2.heap.size:=by omega
  clear hb2 hT hl hbl z2
  go_wp2
  refine bodyPost_ret (v:=.tuple #[.agg #[_,_,_],_]) (by simp[results,Tryz.results172,go_sem,x0,x1,x2]) rfl ⟨rfl,?_⟩
  repeat(first|(with_reducible first|exact bLr|exact BA)|((with_reducible first|refine bLs ?_ ?_ _|refine bLa ?_ ?_ _);·first|omega|(simp<;>omega))|with_reducible first|refine bLn ?_ _|refine bLd ?_)
 ·obtain⟨rfl,rfl,rfl⟩:3=m'∧true=f'∧r=r':=by
   have h0:nextI 3 true r 3=(3,true,r):=by first|(simp[nextI,turnB,turnI];done)|simp[nextI,turnB,turnV,turnI]
   rw[h0]at hr;simpa using hr
  clear hr
  go_enter Tryz.func172,Tryz.ntmps172
  go_wp2_with fail
  refine(laneCheck_yes _ _ _ _ H.out).mono ?_
  rintro e1 w1 ⟨rfl,rfl⟩
  go_wp2_with fail
  go_region_held3 (fun w'=>w'.cell? ⟨w.heap.size,0,none⟩=some (.int .i64 3)) (go_keep) ((go_at_call 187;refine(turns_any _).mono ?_;rintro e2 w2 ⟨b,rfl,hT,hb2,hbl⟩;have c0:w2.cell? ⟨w.heap.size,0,none⟩=some (.int .i64 3):=cell_later hb2 (by go_simp);have hl:=turns_look hT (s:=3) (e:=3) ⟨by omega,by omega⟩;rw[show turnV 3 3=0 from rfl,show turnB 3 3=false from rfl]at hl))
  have z2:=hb2.size
  have BA:Below w.heap.size w w2:=by repeat(first|(with_reducible first|exact bLr)|((with_reducible first|refine bLs ?_ ?_ _|refine bLt hb2 ?_ ?_|refine bLa ?_ ?_ _);·first|omega|(simp<;>omega))|with_reducible first|refine bLn ?_ _|refine bLd ?_)
  have c1:w2.cell? ⟨w.heap.size,1,none⟩=some (.bool true):=cell_later hb2 (by go_simp)
  have c2:w2.cell? ⟨w.heap.size,2,none⟩=some (.int .i64 r):=cell_later hb2 (by go_simp)
  have x0:w2.cell? ⟨w.heap.size+1,0,none⟩=some (.int .i64 0):=cell_later hb2 (by go_simp)
  have x1:w2.cell? ⟨w.heap.size+1,1,none⟩=some (.bool false):=cell_later hb2 (by go_simp)
  have x2:w2.cell? ⟨w.heap.size+1,2,none⟩=some (.int .i64 0):=cell_later hb2 (by go_simp)
  have xf:∀o,w2.frozen? ⟨w.heap.size+1,o,none⟩=false:=fun o=>by rw[hb2.frozen (by simp)];go_simp
  simp at z2
  have s1:w.heap.size<w2.heap.size:=by omega
  have s2:w.heap.size+1<w2.heap.size:=by omega
  clear hb2 hT hl hbl z2
  go_wp2
  refine bodyPost_ret (v:=.tuple #[.agg #[_,_,_],_]) (by simp[results,Tryz.results172,go_sem,x0,x1,x2]) rfl ⟨rfl,?_⟩
  repeat(first|(with_reducible first|exact bLr|exact BA)|((with_reducible first|refine bLs ?_ ?_ _|refine bLa ?_ ?_ _);·first|omega|(simp<;>omega))|with_reducible first|refine bLn ?_ _|refine bLd ?_)
 ·obtain⟨rfl,rfl,rfl⟩:3=m'∧true=f'∧r=r':=by
   have h0:nextI 3 true r 4=(3,true,r):=by first|(simp[nextI,turnB,turnI];done)|simp[nextI,turnB,turnV,turnI]
   rw[h0]at hr;simpa using hr
  clear hr
  go_enter Tryz.func172,Tryz.ntmps172
  go_wp2_with fail
  refine(laneCheck_yes _ _ _ _ H.out).mono ?_
  rintro e1 w1 ⟨rfl,rfl⟩
  go_wp2_with fail
  go_region_held3 (fun w'=>w'.cell? ⟨w.heap.size,0,none⟩=some (.int .i64 3)) (go_keep) ((go_at_call 187;refine(turns_any _).mono ?_;rintro e2 w2 ⟨b,rfl,hT,hb2,hbl⟩;have c0:w2.cell? ⟨w.heap.size,0,none⟩=some (.int .i64 3):=cell_later hb2 (by go_simp);have hl:=turns_look hT (s:=3) (e:=4) ⟨by omega,by omega⟩;rw[show turnV 3 4=0 from rfl,show turnB 3 4=false from rfl]at hl))
  have z2:=hb2.size
  have BA:Below w.heap.size w w2:=by repeat(first|(with_reducible first|exact bLr)|((with_reducible first|refine bLs ?_ ?_ _|refine bLt hb2 ?_ ?_|refine bLa ?_ ?_ _);·first|omega|(simp<;>omega))|with_reducible first|refine bLn ?_ _|refine bLd ?_)
  have c1:w2.cell? ⟨w.heap.size,1,none⟩=some (.bool true):=cell_later hb2 (by go_simp)
  have c2:w2.cell? ⟨w.heap.size,2,none⟩=some (.int .i64 r):=cell_later hb2 (by go_simp)
  have x0:w2.cell? ⟨w.heap.size+1,0,none⟩=some (.int .i64 0):=cell_later hb2 (by go_simp)
  have x1:w2.cell? ⟨w.heap.size+1,1,none⟩=some (.bool false):=cell_later hb2 (by go_simp)
  have x2:w2.cell? ⟨w.heap.size+1,2,none⟩=some (.int .i64 0):=cell_later hb2 (by go_simp)
  have xf:∀o,w2.frozen? ⟨w.heap.size+1,o,none⟩=false:=fun o=>by rw[hb2.frozen (by simp)];go_simp
  simp at z2
  have s1:w.heap.size<w2.heap.size:=by omega
  have s2:w.heap.size+1<w2.heap.size:=by omega
  clear hb2 hT hl hbl z2
  go_wp2
  refine bodyPost_ret (v:=.tuple #[.agg #[_,_,_],_]) (by simp[results,Tryz.results172,go_sem,x0,x1,x2]) rfl ⟨rfl,?_⟩
  repeat(first|(with_reducible first|exact bLr|exact BA)|((with_reducible first|refine bLs ?_ ?_ _|refine bLa ?_ ?_ _);·first|omega|(simp<;>omega))|with_reducible first|refine bLn ?_ _|refine bLd ?_)
 ·obtain⟨rfl,rfl,rfl⟩:3=m'∧true=f'∧r=r':=by
   have h0:nextI 3 true r 5=(3,true,r):=by first|(simp[nextI,turnB,turnI];done)|simp[nextI,turnB,turnV,turnI]
   rw[h0]at hr;simpa using hr
  clear hr
  go_enter Tryz.func172,Tryz.ntmps172
  go_wp2_with fail
  refine(laneCheck_yes _ _ _ _ H.out).mono ?_
  rintro e1 w1 ⟨rfl,rfl⟩
  go_wp2_with fail
  go_region_held3 (fun w'=>w'.cell? ⟨w.heap.size,0,none⟩=some (.int .i64 3)) (go_keep) ((go_at_call 187;refine(turns_any _).mono ?_;rintro e2 w2 ⟨b,rfl,hT,hb2,hbl⟩;have c0:w2.cell? ⟨w.heap.size,0,none⟩=some (.int .i64 3):=cell_later hb2 (by go_simp);have hl:=turns_look hT (s:=3) (e:=5) ⟨by omega,by omega⟩;rw[show turnV 3 5=0 from rfl,show turnB 3 5=false from rfl]at hl))
  have z2:=hb2.size
  have BA:Below w.heap.size w w2:=by repeat(first|(with_reducible first|exact bLr)|((with_reducible first|refine bLs ?_ ?_ _|refine bLt hb2 ?_ ?_|refine bLa ?_ ?_ _);·first|omega|(simp<;>omega))|with_reducible first|refine bLn ?_ _|refine bLd ?_)
  have c1:w2.cell? ⟨w.heap.size,1,none⟩=some (.bool true):=cell_later hb2 (by go_simp)
  have c2:w2.cell? ⟨w.heap.size,2,none⟩=some (.int .i64 r):=cell_later hb2 (by go_simp)
  have x0:w2.cell? ⟨w.heap.size+1,0,none⟩=some (.int .i64 0):=cell_later hb2 (by go_simp)
  have x1:w2.cell? ⟨w.heap.size+1,1,none⟩=some (.bool false):=cell_later hb2 (by go_simp)
  have x2:w2.cell? ⟨w.heap.size+1,2,none⟩=some (.int .i64 0):=cell_later hb2 (by go_simp)
  have xf:∀o,w2.frozen? ⟨w.heap.size+1,o,none⟩=false:=fun o=>by rw[hb2.frozen (by simp)];go_simp
  simp at z2
  have s1:w.heap.size<w2.heap.size:=by omega
  have s2:w.heap.size+1<w2.heap.size:=by omega
  clear hb2 hT hl hbl z2
  go_wp2
  refine bodyPost_ret (v:=.tuple #[.agg #[_,_,_],_]) (by simp[results,Tryz.results172,go_sem,x0,x1,x2]) rfl ⟨rfl,?_⟩
  repeat(first|(with_reducible first|exact bLr|exact BA)|((with_reducible first|refine bLs ?_ ?_ _|refine bLa ?_ ?_ _);·first|omega|(simp<;>omega))|with_reducible first|refine bLn ?_ _|refine bLd ?_)
 ·obtain⟨rfl,rfl,rfl⟩:2=m'∧true=f'∧0=r':=by
   have h0:nextI 3 true r 6=(2,true,0):=by first|(simp[nextI,turnB,turnI];done)|simp[nextI,turnB,turnV,turnI]
   rw[h0]at hr;simpa using hr
  clear hr
  go_enter Tryz.func172,Tryz.ntmps172
  go_wp2_with fail
  refine(laneCheck_yes _ _ _ _ H.out).mono ?_
  rintro e1 w1 ⟨rfl,rfl⟩
  go_wp2_with fail
  go_region_held3 (fun w'=>w'.cell? ⟨w.heap.size,0,none⟩=some (.int .i64 3)) (go_keep) ((go_at_call 187;refine(turns_any _).mono ?_;rintro e2 w2 ⟨b,rfl,hT,hb2,hbl⟩;have c0:w2.cell? ⟨w.heap.size,0,none⟩=some (.int .i64 3):=cell_later hb2 (by go_simp);have hl:=turns_look hT (s:=3) (e:=6) ⟨by omega,by omega⟩;rw[show turnV 3 6=0 from rfl,show turnB 3 6=true from rfl]at hl))
  have z2:=hb2.size
  have BA:Below w.heap.size w w2:=by repeat(first|(with_reducible first|exact bLr)|((with_reducible first|refine bLs ?_ ?_ _|refine bLt hb2 ?_ ?_|refine bLa ?_ ?_ _);·first|omega|(simp<;>omega))|with_reducible first|refine bLn ?_ _|refine bLd ?_)
  have c1:w2.cell? ⟨w.heap.size,1,none⟩=some (.bool true):=cell_later hb2 (by go_simp)
  have c2:w2.cell? ⟨w.heap.size,2,none⟩=some (.int .i64 r):=cell_later hb2 (by go_simp)
  have x0:w2.cell? ⟨w.heap.size+1,0,none⟩=some (.int .i64 0):=cell_later hb2 (by go_simp)
  have x1:w2.cell? ⟨w.heap.size+1,1,none⟩=some (.bool false):=cell_later hb2 (by go_simp)
  have x2:w2.cell? ⟨w.heap.size+1,2,none⟩=some (.int .i64 0):=cell_later hb2 (by go_simp)
  have xf:∀o,w2.frozen? ⟨w.heap.size+1,o,none⟩=false:=fun o=>by rw[hb2.frozen (by simp)];go_simp
  simp at z2
  have s1:w.heap.size<w2.heap.size:=by omega
  have s2:w.heap.size+1<w2.heap.size:=by omega
  clear hb2 hT hl hbl z2
  go_wp2
  refine bodyPost_ret (v:=.tuple #[.agg #[_,_,_],_]) (by simp[results,Tryz.results172,go_sem,x0,x1,x2]) rfl ⟨rfl,?_⟩
  repeat(first|(with_reducible first|exact bLr|exact BA)|((with_reducible first|refine bLs ?_ ?_ _|refine bLa ?_ ?_ _);·first|omega|(simp<;>omega))|with_reducible first|refine bLn ?_ _|refine bLd ?_)
 ·obtain⟨rfl,rfl,rfl⟩:0=m'∧false=f'∧0=r':=by
   have h0:nextI 3 true r 7=(0,false,0):=by first|(simp[nextI,turnB,turnI];done)|simp[nextI,turnB,turnV,turnI]
   rw[h0]at hr;simpa using hr
  clear hr
  go_enter Tryz.func172,Tryz.ntmps172
  go_wp2_with fail
  refine(laneCheck_yes _ _ _ _ H.out).mono ?_
  rintro e1 w1 ⟨rfl,rfl⟩
  go_wp2_with fail
  go_region_held3 (fun w'=>w'.cell? ⟨w.heap.size,0,none⟩=some (.int .i64 3)) (go_keep) ((go_at_call 187;refine(turns_any _).mono ?_;rintro e2 w2 ⟨b,rfl,hT,hb2,hbl⟩;have c0:w2.cell? ⟨w.heap.size,0,none⟩=some (.int .i64 3):=cell_later hb2 (by go_simp);have hl:=turns_look hT (s:=3) (e:=7) ⟨by omega,by omega⟩;rw[show turnV 3 7=0 from rfl,show turnB 3 7=true from rfl]at hl))
  have z2:=hb2.size
  have BA:Below w.heap.size w w2:=by repeat(first|(with_reducible first|exact bLr)|((with_reducible first|refine bLs ?_ ?_ _|refine bLt hb2 ?_ ?_|refine bLa ?_ ?_ _);·first|omega|(simp<;>omega))|with_reducible first|refine bLn ?_ _|refine bLd ?_)
  have c1:w2.cell? ⟨w.heap.size,1,none⟩=some (.bool true):=cell_later hb2 (by go_simp)
  have c2:w2.cell? ⟨w.heap.size,2,none⟩=some (.int .i64 r):=cell_later hb2 (by go_simp)
  have x0:w2.cell? ⟨w.heap.size+1,0,none⟩=some (.int .i64 0):=cell_later hb2 (by go_simp)
  have x1:w2.cell? ⟨w.heap.size+1,1,none⟩=some (.bool false):=cell_later hb2 (by go_simp)
  have x2:w2.cell? ⟨w.heap.size+1,2,none⟩=some (.int .i64 0):=cell_later hb2 (by go_simp)
  have xf:∀o,w2.frozen? ⟨w.heap.size+1,o,none⟩=false:=fun o=>by rw[hb2.frozen (by simp)];go_simp
  simp at z2
  have s1:w.heap.size<w2.heap.size:=by omega
  have s2:w.heap.size+1<w2.heap.size:=by omega
  clear hb2 hT hl hbl z2
  go_wp2
  refine bodyPost_ret (v:=.tuple #[.agg #[_,_,_],_]) (by simp[results,Tryz.results172,go_sem,x0,x1,x2]) rfl ⟨rfl,?_⟩
  repeat(first|(with_reducible first|exact bLr|exact BA)|((with_reducible first|refine bLs ?_ ?_ _|refine bLa ?_ ?_ _);·first|omega|(simp<;>omega))|with_reducible first|refine bLn ?_ _|refine bLd ?_)
end Go.Proofs.YtpkiepjmcepnoaaGreatDoor
