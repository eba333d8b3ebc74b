/- steadref.SameStatus: two statuses of one state are the same. -/
import Derived.Test.YtlagmebnjagoaaaGreatPtZf
import Derived.Laws.StructEq
namespace Go.Proofs.YtlagmebnjagoaaaGreat
open Go.ChangeShapes Go.WideShapes Go.ChangeAt Go.RowKit
set_option linter.unusedVariables false

theorem eqEnt (a b c d : Int) (w : World) : (Op.equalIn 10000 72 (entV (a,b,c,d)) (entV (a,b,c,d))).run Tryz.prog w = .ok true w:=by
  have u3:=Tryz.underlying3
  have a3:=Tryz.isAgg3
  have z3:=Tryz.sizeOf3
  rw [show (10000 : Nat) = 9999 + 1 from rfl,run_equalIn_struct w 9999 _ _ _ (by kernel_rfl) (by kernel_rfl)]
  have hf:=Tryz.underlying72
  simp only [Program.fieldsOf,hf]
  go_simp
theorem eqMode (a : Int) (b c : Bool) (w : World) : (Op.equalIn 10000 50 (.agg #[.int .i64 a,.bool b,.bool c]) (.agg #[.int .i64 a,.bool b,.bool c])).run Tryz.prog w = .ok true w:=by
  have u3:=Tryz.underlying3
  have a3:=Tryz.isAgg3
  have z3:=Tryz.sizeOf3
  have u4:=Tryz.underlying4
  have a4:=Tryz.isAgg4
  have z4:=Tryz.sizeOf4
  rw [show (10000 : Nat) = 9999 + 1 from rfl,run_equalIn_struct w 9999 _ _ _ (by kernel_rfl) (by kernel_rfl)]
  have hf:=Tryz.underlying50
  simp only [Program.fieldsOf,hf]
  go_simp
theorem eqRep (a b : Int) (c : Bool) (w : World) : (Op.equalIn 10000 56 (.agg #[.int .i64 a,.int .i64 b,.bool c]) (.agg #[.int .i64 a,.int .i64 b,.bool c])).run Tryz.prog w = .ok true w:=by
  have u3:=Tryz.underlying3
  have a3:=Tryz.isAgg3
  have z3:=Tryz.sizeOf3
  have u4:=Tryz.underlying4
  have a4:=Tryz.isAgg4
  have z4:=Tryz.sizeOf4
  rw [show (10000 : Nat) = 9999 + 1 from rfl,run_equalIn_struct w 9999 _ _ _ (by kernel_rfl) (by kernel_rfl)]
  have hf:=Tryz.underlying56
  simp only [Program.fieldsOf,hf]
  go_simp
theorem eqRam (a b : Int) (w : World) : (Op.equalIn 10000 58 (.agg #[.int .i32 a,.int .i32 b]) (.agg #[.int .i32 a,.int .i32 b])).run Tryz.prog w = .ok true w:=by
  have u3:=Tryz.underlying21
  have a3:=Tryz.isAgg21
  have z3:=Tryz.sizeOf21
  rw [show (10000 : Nat) = 9999 + 1 from rfl,run_equalIn_struct w 9999 _ _ _ (by kernel_rfl) (by kernel_rfl)]
  have hf:=Tryz.underlying58
  simp only [Program.fieldsOf,hf]
  go_simp
theorem eqFour (a b c d : Int) (w : World) : (Op.equalIn 10000 59 (.agg #[.int .i32 a,.int .i32 b,.int .i32 c,.int .i32 d]) (.agg #[.int .i32 a,.int .i32 b,.int .i32 c,.int .i32 d])).run Tryz.prog w = .ok true w:=by
  have u3:=Tryz.underlying21
  have a3:=Tryz.isAgg21
  have z3:=Tryz.sizeOf21
  rw [show (10000 : Nat) = 9999 + 1 from rfl,Op.equalIn]
  simp only [Sem.run_bind,run_underlying Tryz.underlying59,Result.andThen_ok]
  simp only [Std.Legacy.Range.forIn_eq_forIn_range',Std.Legacy.Range.size,Nat.sub_zero,Nat.add_sub_cancel,Nat.div_one,List.range'_succ,List.range'_zero,List.forIn_cons,List.forIn_nil]
  go_simp
theorem eqLane (a c : Int) (b : Bool) (w : World) : (Op.equalIn 9999 52 (.agg #[.int .i64 a,.bool b,.int .i64 c]) (.agg #[.int .i64 a,.bool b,.int .i64 c])).run Tryz.prog w = .ok true w:=by
  have u3:=Tryz.underlying3
  have a3:=Tryz.isAgg3
  have z3:=Tryz.sizeOf3
  have u4:=Tryz.underlying4
  have a4:=Tryz.isAgg4
  have z4:=Tryz.sizeOf4
  rw [show (9999 : Nat) = 9998 + 1 from rfl,run_equalIn_struct w 9998 _ _ _ (by kernel_rfl) (by kernel_rfl)]
  have hf:=Tryz.underlying52
  simp only [Program.fieldsOf,hf]
  go_simp
theorem eqTeam (a0 c0 a1 c1 a2 c2 a3 c3 : Int) (b0 b1 b2 b3 : Bool) (w : World) : (Op.equalIn 10000 54 (.agg #[.int .i64 a0,.bool b0,.int .i64 c0,.int .i64 a1,.bool b1,.int .i64 c1,.int .i64 a2,.bool b2,.int .i64 c2,.int .i64 a3,.bool b3,.int .i64 c3]) (.agg #[.int .i64 a0,.bool b0,.int .i64 c0,.int .i64 a1,.bool b1,.int .i64 c1,.int .i64 a2,.bool b2,.int .i64 c2,.int .i64 a3,.bool b3,.int .i64 c3])).run Tryz.prog w = .ok true w:=by
  have l0:=eqLane a0 c0 b0;have l1:=eqLane a1 c1 b1;have l2:=eqLane a2 c2 b2;have l3:=eqLane a3 c3 b3
  rw [show (10000 : Nat) = 9999 + 1 from rfl,Op.equalIn]
  simp only [Sem.run_bind,run_underlying Tryz.underlying54,Result.andThen_ok]
  simp only [Std.Legacy.Range.forIn_eq_forIn_range',Std.Legacy.Range.size,Nat.sub_zero,Nat.add_sub_cancel,Nat.div_one,List.range'_succ,List.range'_zero,List.forIn_cons,List.forIn_nil]
  go_simp
set_option maxHeartbeats 16000000 in
set_option maxRecDepth 100000 in
theorem same_is {D : Dyn} {v u : Value} {w : World} (hv : RecsAt 4 entLay w v D.log) (hu : RecsAt 4 entLay w u D.log) (hx : D.log.length ≤ 9223372036854775807) :
    Calls Tryz.prog 19 #[statV D v,statV D u] w fun e w' => e = .returned (.bool true) ∧ Below w.heap.size w w':=by
  obtain ⟨a1,ca1,rfl⟩:=hv.len
  obtain ⟨a2,ca2,rfl⟩:=hu.len
  have HI27 : Hid ((Tryz.prog.info? 62).map (·.size) = some 27):=Lib.hid (by kernel_rfl)
  obtain ⟨w3,hw3⟩ : ∃ x,(w.alloc (.cells #[.int .i64 D.frame,.int .i64 D.mm,.bool D.mp,.bool D.mg,.int .i64 (D.team 0).1,.bool (D.team 0).2.1,.int .i64 (D.team 0).2.2,.int .i64 (D.team 1).1,.bool (D.team 1).2.1,.int .i64 (D.team 1).2.2,.int .i64 (D.team 2).1,.bool (D.team 2).2.1,.int .i64 (D.team 2).2.2,.int .i64 (D.team 3).1,.bool (D.team 3).2.1,.int .i64 (D.team 3).2.2,.int .i64 D.us,.int .i64 D.ac,.bool D.lost,.int .i32 D.pos,.int .i32 D.vel,.int .i32 D.want,.int .i32 (D.off 0),.int .i32 (D.off 1),.int .i32 (D.off 2),.int .i32 (D.off 3),.slice a1 D.log.length ca1] 62)).alloc (.cells #[.int .i64 D.frame,.int .i64 D.mm,.bool D.mp,.bool D.mg,.int .i64 (D.team 0).1,.bool (D.team 0).2.1,.int .i64 (D.team 0).2.2,.int .i64 (D.team 1).1,.bool (D.team 1).2.1,.int .i64 (D.team 1).2.2,.int .i64 (D.team 2).1,.bool (D.team 2).2.1,.int .i64 (D.team 2).2.2,.int .i64 (D.team 3).1,.bool (D.team 3).2.1,.int .i64 (D.team 3).2.2,.int .i64 D.us,.int .i64 D.ac,.bool D.lost,.int .i32 D.pos,.int .i32 D.vel,.int .i32 D.want,.int .i32 (D.off 0),.int .i32 (D.off 1),.int .i32 (D.off 2),.int .i32 (D.off 3),.slice a2 D.log.length ca2] 62) = x:=⟨_,rfl⟩
  have b3 : Below w.heap.size w w3:=hw3 ▸ (((Below.refl _ _).alloc (Nat.le_refl _) _).alloc (by simp) _)
  have C1 : CellsAt w3 w.heap.size (statL D (.slice a1 D.log.length ca1)):=hw3 ▸ (CellsAt.new' rfl rfl : CellsAt (w.alloc _) _ _).alloc _
  have C2 : CellsAt w3 (w.heap.size + 1) (statL D (.slice a2 D.log.length ca2)):=by
    have h : CellsAt w3 (w.alloc (.cells #[.int .i64 D.frame,.int .i64 D.mm,.bool D.mp,.bool D.mg,.int .i64 (D.team 0).1,.bool (D.team 0).2.1,.int .i64 (D.team 0).2.2,.int .i64 (D.team 1).1,.bool (D.team 1).2.1,.int .i64 (D.team 1).2.2,.int .i64 (D.team 2).1,.bool (D.team 2).2.1,.int .i64 (D.team 2).2.2,.int .i64 (D.team 3).1,.bool (D.team 3).2.1,.int .i64 (D.team 3).2.2,.int .i64 D.us,.int .i64 D.ac,.bool D.lost,.int .i32 D.pos,.int .i32 D.vel,.int .i32 D.want,.int .i32 (D.off 0),.int .i32 (D.off 1),.int .i32 (D.off 2),.int .i32 (D.off 3),.slice a1 D.log.length ca1] 62)).heap.size (statL D (.slice a2 D.log.length ca2)):=hw3 ▸ CellsAt.new' rfl rfl
    simpa using h
  have HV:=Lib.hid (hv.later entLay_len b3 (Nat.le_refl _));have HU:=Lib.hid (hu.later entLay_len b3 (Nat.le_refl _))
  have x26:=C1.at_ 26 rfl;have y26:=C2.at_ 26 rfl;have xz:=C1.lt;have yz:=C2.lt
  have HC1:=Lib.hid C1;have HC2:=Lib.hid C2;have HB:=Lib.hid b3
  have HW3:=Lib.hid hw3
  clear hv hu hw3 b3 C1 C2
  have hne : ((D.log.length : Int) != (D.log.length : Int)) = false:=by simp
  go_enter Tryz.func19,Tryz.ntmps19
  go_upto_region 1 with (fail)
  rw [HW3.out]
  clear HW3
  go_wp2_with fail
  go_loopw [16] (fun i wr => (∃ k : Nat,k ≤ D.log.length ∧ i = .int .i64 k) ∧ ∃ m,wr = w3.drewN m) (fun i _ => D.log.length - (intOf i).toNat)
  case atStart => exact ⟨⟨0,by omega,rfl⟩,0,rfl⟩
  case round =>
    obtain ⟨⟨k,hk,rfl⟩,m,rfl⟩:=hrel
    by_cases hlt : k < D.log.length
    · obtain ⟨x,hx'⟩ : ∃ x,D.log[k]? = some x:=⟨_,List.getElem?_eq_getElem hlt⟩
      obtain ⟨b,off,cap',hv',hl1,hl2,hc⟩:=HV.out.at_ hx'
      obtain ⟨b2,off2,cap2',hv2',hm1,hm2,hc2⟩:=HU.out.at_ hx'
      cases hv'
      cases hv2'
      obtain ⟨f,l,c,m'⟩:=x
      have c0:=hc 0 (by omega);have c1:=hc 1 (by omega);have c2:=hc 2 (by omega);have c3:=hc 3 (by omega)
      have e0:=hc2 0 (by omega);have e1:=hc2 1 (by omega);have e2:=hc2 2 (by omega);have e3:=hc2 3 (by omega)
      change w3.cell? ⟨b,off + k * 4,none⟩ = some (.int .i64 f) at c0
      change w3.cell? ⟨b,off + k * 4 + 1,none⟩ = some (.int .i64 l) at c1
      change w3.cell? ⟨b,off + k * 4 + 2,none⟩ = some (.int .i64 c) at c2
      change w3.cell? ⟨b,off + k * 4 + 3,none⟩ = some (.int .i64 m') at c3
      change w3.cell? ⟨b2,off2 + k * 4,none⟩ = some (.int .i64 f) at e0
      change w3.cell? ⟨b2,off2 + k * 4 + 1,none⟩ = some (.int .i64 l) at e1
      change w3.cell? ⟨b2,off2 + k * 4 + 2,none⟩ = some (.int .i64 c) at e2
      change w3.cell? ⟨b2,off2 + k * 4 + 3,none⟩ = some (.int .i64 m') at e3
      have d1 : (k : Int) < (D.log.length : Int):=by omega
      have d0 : k + 1 ≤ D.log.length:=hlt
      have d2 : k + 1 ≤ ca1:=by omega
      have d3 : k + 1 ≤ ca2:=by omega
      have qq:=eqEnt f l c m'
      clear hc hc2 hx'
      go_wp2_with fail
      go_quiet (fail)
      go_wp2_with fail
      go_roundw
      case rel => exact ⟨⟨k + 1,by omega,by go_num⟩,_,by first | rfl | exact World.drewN_drewN _ _ _⟩
      case measure => simp [intOf];omega
    · obtain rfl : k = D.log.length:=by omega
      have p0:=HC1.out.at_ 0 rfl;have q0:=HC2.out.at_ 0 rfl
      have p1:=HC1.out.at_ 1 rfl;have q1:=HC2.out.at_ 1 rfl
      have p2:=HC1.out.at_ 2 rfl;have q2:=HC2.out.at_ 2 rfl
      have p3:=HC1.out.at_ 3 rfl;have q3:=HC2.out.at_ 3 rfl
      have p4:=HC1.out.at_ 4 rfl;have q4:=HC2.out.at_ 4 rfl
      have p5:=HC1.out.at_ 5 rfl;have q5:=HC2.out.at_ 5 rfl
      have p6:=HC1.out.at_ 6 rfl;have q6:=HC2.out.at_ 6 rfl
      have p7:=HC1.out.at_ 7 rfl;have q7:=HC2.out.at_ 7 rfl
      have p8:=HC1.out.at_ 8 rfl;have q8:=HC2.out.at_ 8 rfl
      have p9:=HC1.out.at_ 9 rfl;have q9:=HC2.out.at_ 9 rfl
      have p10:=HC1.out.at_ 10 rfl;have q10:=HC2.out.at_ 10 rfl
      have p11:=HC1.out.at_ 11 rfl;have q11:=HC2.out.at_ 11 rfl
      have p12:=HC1.out.at_ 12 rfl;have q12:=HC2.out.at_ 12 rfl
      have p13:=HC1.out.at_ 13 rfl;have q13:=HC2.out.at_ 13 rfl
      have p14:=HC1.out.at_ 14 rfl;have q14:=HC2.out.at_ 14 rfl
      have p15:=HC1.out.at_ 15 rfl;have q15:=HC2.out.at_ 15 rfl
      have p16:=HC1.out.at_ 16 rfl;have q16:=HC2.out.at_ 16 rfl
      have p17:=HC1.out.at_ 17 rfl;have q17:=HC2.out.at_ 17 rfl
      have p18:=HC1.out.at_ 18 rfl;have q18:=HC2.out.at_ 18 rfl
      have p19:=HC1.out.at_ 19 rfl;have q19:=HC2.out.at_ 19 rfl
      have p20:=HC1.out.at_ 20 rfl;have q20:=HC2.out.at_ 20 rfl
      have p21:=HC1.out.at_ 21 rfl;have q21:=HC2.out.at_ 21 rfl
      have p22:=HC1.out.at_ 22 rfl;have q22:=HC2.out.at_ 22 rfl
      have p23:=HC1.out.at_ 23 rfl;have q23:=HC2.out.at_ 23 rfl
      have p24:=HC1.out.at_ 24 rfl;have q24:=HC2.out.at_ 24 rfl
      have p25:=HC1.out.at_ 25 rfl;have q25:=HC2.out.at_ 25 rfl
      have E1:=eqMode D.mm D.mp D.mg;have E2:=eqRep D.us D.ac D.lost;have E3:=eqRam D.pos D.vel;have E4:=eqFour (D.off 0) (D.off 1) (D.off 2) (D.off 3)
      have E5:=eqTeam (D.team 0).1 (D.team 0).2.2 (D.team 1).1 (D.team 1).2.2 (D.team 2).1 (D.team 2).2.2 (D.team 3).1 (D.team 3).2.2 (D.team 0).2.1 (D.team 1).2.1 (D.team 2).2.1 (D.team 3).2.1
      go_wp2_with fail
      go_ret
      exact ⟨rfl,by rw [← World.drewN_zero w3] at *;exact below_drewN HB.out _⟩

end Go.Proofs.YtlagmebnjagoaaaGreat
