/- Part of a proof: texts of this session, one behind the other, and words that print.sh printed for this seat, of these only those that the proof leans on (wip/tools/pack.py). -/
import Derived.Test.YtaeabemipnbgbaaZT400a
section
namespace Go.Proofs.Ytaeabemipnbgbaa.QCm
open RowKit YtaeabemipnbgbaaW.PrintWords YtaeabemipnbgbaaW.PrintLast YtaeabemipnbgbaaW.PrintMore
attribute [local go_sem] max2_int min2_int max_two min_two max_three min_three max_four min_four   -- for this text's walks alone
set_option linter.unusedVariables false
set_option linter.unusedSimpArgs false
attribute [local go_sem high] eqA24
mutual
def cmd_good.j0:Nat→Bool→Bool→Bool→Bool→Int→Int→Int→Int→Int→Int→List Int→Int→Option (Bool)
  | 0,_,_,_,_,_,_,_,_,_,_,_,_=>none
  | k+1,x3,x4,x5,x6,x105000,x105001,x105002,x105003,x105004,x105005,x105006,x105007=>if x105000=1 then ((cmd_Sub.f x105001 x105002 x105003 x105004).bind fun t106=>(if t106=true then (if x105001=x105007 then (if x4=true then (some x5) else (some false)) else (some false)) else (some false))) else (if x105000=2 then (if (x105001 == x105007&&(x105003 == 0&&(x105004 == 0)))=true then ((cmd_Sensor.f x105002).bind fun t107=>(if t107=true then (if x4=true then (some x5) else (some false)) else (some false))) else (some false)) else (if x105000=3 then (cmd_good.j1 k x3 x4 x5 x6 x105000 (x105000 == 3) x105000 x105001 x105002 x105003 x105004 x105005 x105006 x105007) else (cmd_good.j1 k x3 x4 x5 x6 x105000 (x105000 == 6) x105000 x105001 x105002 x105003 x105004 x105005 x105006 x105007)))
def cmd_good.j1:Nat→Bool→Bool→Bool→Bool→Int→Bool→Int→Int→Int→Int→Int→Int→List Int→Int→Option (Bool)
  | 0,_,_,_,_,_,_,_,_,_,_,_,_,_,_=>none
  | k+1,x3,x4,x5,x6,x31,x74,x105000,x105001,x105002,x105003,x105004,x105005,x105006,x105007=>if x74=true then (if x3=true then (if x4=true then (some x5) else (some false)) else (some false)) else (if x31=4 then (if x3=true then (if x6=true then (some (decide ((x105006.length:Int)≤24))) else (some false)) else (some false)) else (if x31=5 then (if x3=true then (if x6=true then (some x5) else (some false)) else (some false)) else (some false)))
end
def cmd_good.f (k:Nat) (a0_0:Int) (a0_1:Int) (a0_2:Int) (a0_3:Int) (a0_4:Int) (a0_5:Int) (l0_6:List Int) (a0_7:Int):Option (Bool):=(cmd_Client.f a0_7).bind fun t105=>(if t105=true then (if a0_5≥0 then (cmd_good.j0 k (a0_1 == 0&&(a0_2 == 0&&(a0_3 == 0&&(a0_4 == 0)))) (a0_5 == 0) ((l0_6.length:Int) == 0) (decide (a0_5<16)) a0_0 a0_1 a0_2 a0_3 a0_4 a0_5 l0_6 a0_7) else (cmd_good.j0 k (a0_1 == 0&&(a0_2 == 0&&(a0_3 == 0&&(a0_4 == 0)))) (a0_5 == 0) ((l0_6.length:Int) == 0) false a0_0 a0_1 a0_2 a0_3 a0_4 a0_5 l0_6 a0_7)) else (some false))
theorem cmd_good.mono_l:∀ k,(∀ y0 y1 y2 y3 y4 y5 y6 y7 y8 y9 y10 y11,LeO (cmd_good.j0 k y0 y1 y2 y3 y4 y5 y6 y7 y8 y9 y10 y11) (cmd_good.j0 (k+1) y0 y1 y2 y3 y4 y5 y6 y7 y8 y9 y10 y11))∧(∀ y0 y1 y2 y3 y4 y5 y6 y7 y8 y9 y10 y11 y12 y13,LeO (cmd_good.j1 k y0 y1 y2 y3 y4 y5 y6 y7 y8 y9 y10 y11 y12 y13) (cmd_good.j1 (k+1) y0 y1 y2 y3 y4 y5 y6 y7 y8 y9 y10 y11 y12 y13))
  | 0=>⟨fun _ _ _ _ _ _ _ _ _ _ _ _ r h=>by simp [cmd_good.j0] at h,fun _ _ _ _ _ _ _ _ _ _ _ _ _ _ r h=>by simp [cmd_good.j1] at h⟩
  | k + 1 => by
    obtain ⟨ih0,ih1⟩:=cmd_good.mono_l k
    refine ⟨?_,?_⟩
    · intro y0 y1 y2 y3 y4 y5 y6 y7 y8 y9 y10 y11
      unfold cmd_good.j0
      repeat' first
      | (with_reducible exact ih0 _ _ _ _ _ _ _ _ _ _ _ _)
      | (with_reducible exact ih1 _ _ _ _ _ _ _ _ _ _ _ _ _ _)
      | (with_reducible exact LeO.refl _)
      | (with_reducible exact LeO.none _)
      | (with_reducible refine LeO.ite ?_ ?_)
      | (with_reducible refine LeO.bind ?_ (fun _=>?_))
      | exact ih0 _ _ _ _ _ _ _ _ _ _ _ _
      | exact ih1 _ _ _ _ _ _ _ _ _ _ _ _ _ _
      | exact LeO.none _
      | refine LeO.ite ?_ ?_
      | refine LeO.bind ?_ (fun _=>?_)
    · intro y0 y1 y2 y3 y4 y5 y6 y7 y8 y9 y10 y11 y12 y13
      unfold cmd_good.j1
      repeat' first
      | (with_reducible exact ih0 _ _ _ _ _ _ _ _ _ _ _ _)
      | (with_reducible exact ih1 _ _ _ _ _ _ _ _ _ _ _ _ _ _)
      | (with_reducible exact LeO.refl _)
      | (with_reducible exact LeO.none _)
      | (with_reducible refine LeO.ite ?_ ?_)
      | (with_reducible refine LeO.bind ?_ (fun _=>?_))
      | exact ih0 _ _ _ _ _ _ _ _ _ _ _ _
      | exact ih1 _ _ _ _ _ _ _ _ _ _ _ _ _ _
      | exact LeO.none _
      | refine LeO.ite ?_ ?_
      | refine LeO.bind ?_ (fun _=>?_)
theorem cmd_good.mono:∀ a0 a1 a2 a3 a4 a5 a6 a7 k,LeO (cmd_good.f k a0 a1 a2 a3 a4 a5 a6 a7) (cmd_good.f (k+1) a0 a1 a2 a3 a4 a5 a6 a7):=by
  intro a0 a1 a2 a3 a4 a5 a6 a7 k
  obtain ⟨ih0,ih1⟩:=cmd_good.mono_l k
  unfold cmd_good.f
  repeat' first
      | (with_reducible exact ih0 _ _ _ _ _ _ _ _ _ _ _ _)
      | (with_reducible exact ih1 _ _ _ _ _ _ _ _ _ _ _ _ _ _)
      | (with_reducible exact LeO.refl _)
      | (with_reducible exact LeO.none _)
      | (with_reducible refine LeO.ite ?_ ?_)
      | (with_reducible refine LeO.bind ?_ (fun _=>?_))
      | exact ih0 _ _ _ _ _ _ _ _ _ _ _ _
      | exact ih1 _ _ _ _ _ _ _ _ _ _ _ _ _ _
      | exact LeO.none _
      | refine LeO.ite ?_ ?_
      | refine LeO.bind ?_ (fun _=>?_)
set_option maxHeartbeats 8000000 in
set_option maxRecDepth 100000 in
theorem cmd_good.calls (k : Nat) (a0_0 : Int) (a0_1 : Int) (a0_2 : Int) (a0_3 : Int) (a0_4 : Int) (a0_5 : Int) (A0_6 : Option Addr) (c0_6 : Nat) (l0_6 : List Int) (a0_7 : Int) (r : Bool) (w : World) (hr0_6 : Kd.C (Kd.int .u8) w A0_6 l0_6.length l0_6) (hc0_6 : l0_6.length ≤ c0_6) (h : cmd_good.f k a0_0 a0_1 a0_2 a0_3 a0_4 a0_5 l0_6 a0_7 = some r) :
    Calls Try.prog 71 #[.agg #[.int .i64 a0_0,.int .i64 a0_1,.int .i64 a0_2,.int .i64 a0_3,.int .i64 a0_4,.int .i64 a0_5,.slice A0_6 l0_6.length c0_6,.int .i64 a0_7]] w fun e w'=>e = .returned (.bool r)∧Below w.heap.size w w':=by
  have hu27:=Try.underlying27
  have hu24:=Try.underlying24
  have HR0_6:=Aside0.mk hr0_6
  have HC0_6:=Aside0.mk hc0_6
  clear hr0_6 hc0_6
  have HB:=Aside0.mk (Below.refl w.heap.size w)
  have H:((cmd_Client.f a0_7).bind fun t105=>(if t105=true then (if a0_5≥0 then (cmd_good.j0 k (a0_1 == 0&&(a0_2 == 0&&(a0_3 == 0&&(a0_4 == 0)))) (a0_5 == 0) ((l0_6.length:Int) == 0) (decide (a0_5<16)) a0_0 a0_1 a0_2 a0_3 a0_4 a0_5 l0_6 a0_7) else (cmd_good.j0 k (a0_1 == 0&&(a0_2 == 0&&(a0_3 == 0&&(a0_4 == 0)))) (a0_5 == 0) ((l0_6.length:Int) == 0) false a0_0 a0_1 a0_2 a0_3 a0_4 a0_5 l0_6 a0_7)) else (some false)))=some r:=h
  clear h
  replace H:=Option.bind_eq_some_iff.mp H
  obtain ⟨t105,A20,H⟩:=H
  replace H:(if t105=true then (if a0_5≥0 then (cmd_good.j0 k (a0_1 == 0&&(a0_2 == 0&&(a0_3 == 0&&(a0_4 == 0)))) (a0_5 == 0) ((l0_6.length:Int) == 0) (decide (a0_5<16)) a0_0 a0_1 a0_2 a0_3 a0_4 a0_5 l0_6 a0_7) else (cmd_good.j0 k (a0_1 == 0&&(a0_2 == 0&&(a0_3 == 0&&(a0_4 == 0)))) (a0_5 == 0) ((l0_6.length:Int) == 0) false a0_0 a0_1 a0_2 a0_3 a0_4 a0_5 l0_6 a0_7)) else (some false))=some r:=H
  have A2:=Aside0.mk A20
  clear A20
  by_cases c3:t105=true
  · subst c3
    have H1:(if a0_5≥0 then (cmd_good.j0 k (a0_1 == 0&&(a0_2 == 0&&(a0_3 == 0&&(a0_4 == 0)))) (a0_5 == 0) ((l0_6.length:Int) == 0) (decide (a0_5<16)) a0_0 a0_1 a0_2 a0_3 a0_4 a0_5 l0_6 a0_7) else (cmd_good.j0 k (a0_1 == 0&&(a0_2 == 0&&(a0_3 == 0&&(a0_4 == 0)))) (a0_5 == 0) ((l0_6.length:Int) == 0) false a0_0 a0_1 a0_2 a0_3 a0_4 a0_5 l0_6 a0_7))=some r:=by rw [if_pos rfl] at H;exact H
    clear H
    have H:=H1
    clear H1
    have HC4:=Aside0.mk H
    clear H
    go_enter Try.func71,Try.ntmps71
    go_upto_region 4 with (first|((with_reducible refine gate_dst (N:=1) rfl ?_);(try (refine gate_guard (by rfl) ?_;dsimp only));refine box_event ?hg (N:=1) ?hd (cs:=#[.int .i64 a0_0,.int .i64 a0_1,.int .i64 a0_2,.int .i64 a0_3,.int .i64 a0_4,.int .i64 a0_5,.slice A0_6 l0_6.length c0_6,.int .i64 a0_7]) (t:=27) ?hr ?_;(case hd=>rfl);(case hg=>rfl);(case hr=>first|(go_simp;done)|(go_simp;rfl));intro gb104 hg w5 hbox hb;have n0_:=Aside0.mk (below_step (by repeat (first|(with_reducible first|exact HB.out|apply below_alloc|apply pw_below_drewN|apply below_drew1)|exact HB.out)) hb);have n1_:=Aside0.mk (hbox);have n2_:=Aside0.mk ((by rw [hg];exact (below_size (by repeat (first|(with_reducible first|exact HB.out|apply below_alloc|apply pw_below_drewN|apply below_drew1)|exact HB.out))):w.heap.size≤gb104));have n3_:=Aside0.mk ((by rw [hg];exact (below_size (by repeat (first|(with_reducible first|exact HB.out|apply below_alloc|apply pw_below_drewN|apply below_drew1)|exact HB.out))):w.heap.size≤gb104));clear HB;have HB:=n0_;have BK104:=n1_;have GW104:=n2_;have GE104:=n3_;clear n0_ n1_ n2_ n3_;clear hb hbox hg;have hcz6_0:w5.cell? ⟨gb104,0,none⟩=some (.int .i64 a0_0):=(blk_cell BK104.out 0).trans rfl;have hcz6_1:w5.cell? ⟨gb104,1,none⟩=some (.int .i64 a0_1):=(blk_cell BK104.out 1).trans rfl;have hcz6_2:w5.cell? ⟨gb104,2,none⟩=some (.int .i64 a0_2):=(blk_cell BK104.out 2).trans rfl;have hcz6_3:w5.cell? ⟨gb104,3,none⟩=some (.int .i64 a0_3):=(blk_cell BK104.out 3).trans rfl;have hcz6_4:w5.cell? ⟨gb104,4,none⟩=some (.int .i64 a0_4):=(blk_cell BK104.out 4).trans rfl;have hcz6_5:w5.cell? ⟨gb104,5,none⟩=some (.int .i64 a0_5):=(blk_cell BK104.out 5).trans rfl;have hcz6_6:w5.cell? ⟨gb104,6,none⟩=some (.slice A0_6 l0_6.length c0_6):=(blk_cell BK104.out 6).trans rfl;have hcz6_7:w5.cell? ⟨gb104,7,none⟩=some (.int .i64 a0_7):=(blk_cell BK104.out 7).trans rfl;have hfz6_0:=blk_frozen BK104.out 0;have hfz6_1:=blk_frozen BK104.out 1;have hfz6_2:=blk_frozen BK104.out 2;have hfz6_3:=blk_frozen BK104.out 3;have hfz6_4:=blk_frozen BK104.out 4;have hfz6_5:=blk_frozen BK104.out 5;have hfz6_6:=blk_frozen BK104.out 6;have hfz6_7:=blk_frozen BK104.out 7)|(go_at_call 93;(with_reducible refine (cmd_Client.calls a0_7 true _ A2.out).mono ?_);rintro e w' ⟨rfl,⟨nd,rfl⟩⟩;(try first|exact ⟨rfl,_,World.drewN_drewN _ _ _⟩|exact ⟨rfl,_,Eq.trans (World.drewN_drewN _ _ _) (congrArg (World.drewN _) (Nat.add_assoc _ _ _))⟩)))
    repeat (go_quiet (first|((with_reducible refine gate_dst (N:=1) rfl ?_);(try (refine gate_guard (by rfl) ?_;dsimp only));refine box_event ?hg (N:=1) ?hd (cs:=#[.int .i64 a0_0,.int .i64 a0_1,.int .i64 a0_2,.int .i64 a0_3,.int .i64 a0_4,.int .i64 a0_5,.slice A0_6 l0_6.length c0_6,.int .i64 a0_7]) (t:=27) ?hr ?_;(case hd=>rfl);(case hg=>rfl);(case hr=>first|(go_simp;done)|(go_simp;rfl));intro gb104 hg w5 hbox hb;have n0_:=Aside0.mk (below_step (by repeat (first|(with_reducible first|exact HB.out|apply below_alloc|apply pw_below_drewN|apply below_drew1)|exact HB.out)) hb);have n1_:=Aside0.mk (hbox);have n2_:=Aside0.mk ((by rw [hg];exact (below_size (by repeat (first|(with_reducible first|exact HB.out|apply below_alloc|apply pw_below_drewN|apply below_drew1)|exact HB.out))):w.heap.size≤gb104));have n3_:=Aside0.mk ((by rw [hg];exact (below_size (by repeat (first|(with_reducible first|exact HB.out|apply below_alloc|apply pw_below_drewN|apply below_drew1)|exact HB.out))):w.heap.size≤gb104));clear HB;have HB:=n0_;have BK104:=n1_;have GW104:=n2_;have GE104:=n3_;clear n0_ n1_ n2_ n3_;clear hb hbox hg;have hcz6_0:w5.cell? ⟨gb104,0,none⟩=some (.int .i64 a0_0):=(blk_cell BK104.out 0).trans rfl;have hcz6_1:w5.cell? ⟨gb104,1,none⟩=some (.int .i64 a0_1):=(blk_cell BK104.out 1).trans rfl;have hcz6_2:w5.cell? ⟨gb104,2,none⟩=some (.int .i64 a0_2):=(blk_cell BK104.out 2).trans rfl;have hcz6_3:w5.cell? ⟨gb104,3,none⟩=some (.int .i64 a0_3):=(blk_cell BK104.out 3).trans rfl;have hcz6_4:w5.cell? ⟨gb104,4,none⟩=some (.int .i64 a0_4):=(blk_cell BK104.out 4).trans rfl;have hcz6_5:w5.cell? ⟨gb104,5,none⟩=some (.int .i64 a0_5):=(blk_cell BK104.out 5).trans rfl;have hcz6_6:w5.cell? ⟨gb104,6,none⟩=some (.slice A0_6 l0_6.length c0_6):=(blk_cell BK104.out 6).trans rfl;have hcz6_7:w5.cell? ⟨gb104,7,none⟩=some (.int .i64 a0_7):=(blk_cell BK104.out 7).trans rfl;have hfz6_0:=blk_frozen BK104.out 0;have hfz6_1:=blk_frozen BK104.out 1;have hfz6_2:=blk_frozen BK104.out 2;have hfz6_3:=blk_frozen BK104.out 3;have hfz6_4:=blk_frozen BK104.out 4;have hfz6_5:=blk_frozen BK104.out 5;have hfz6_6:=blk_frozen BK104.out 6;have hfz6_7:=blk_frozen BK104.out 7)|(go_at_call 93;(with_reducible refine (cmd_Client.calls a0_7 true _ A2.out).mono ?_);rintro e w' ⟨rfl,⟨nd,rfl⟩⟩;(try first|exact ⟨rfl,_,World.drewN_drewN _ _ _⟩|exact ⟨rfl,_,Eq.trans (World.drewN_drewN _ _ _) (congrArg (World.drewN _) (Nat.add_assoc _ _ _))⟩)));go_upto_region 4 with (first|((with_reducible refine gate_dst (N:=1) rfl ?_);(try (refine gate_guard (by rfl) ?_;dsimp only));refine box_event ?hg (N:=1) ?hd (cs:=#[.int .i64 a0_0,.int .i64 a0_1,.int .i64 a0_2,.int .i64 a0_3,.int .i64 a0_4,.int .i64 a0_5,.slice A0_6 l0_6.length c0_6,.int .i64 a0_7]) (t:=27) ?hr ?_;(case hd=>rfl);(case hg=>rfl);(case hr=>first|(go_simp;done)|(go_simp;rfl));intro gb104 hg w5 hbox hb;have n0_:=Aside0.mk (below_step (by repeat (first|(with_reducible first|exact HB.out|apply below_alloc|apply pw_below_drewN|apply below_drew1)|exact HB.out)) hb);have n1_:=Aside0.mk (hbox);have n2_:=Aside0.mk ((by rw [hg];exact (below_size (by repeat (first|(with_reducible first|exact HB.out|apply below_alloc|apply pw_below_drewN|apply below_drew1)|exact HB.out))):w.heap.size≤gb104));have n3_:=Aside0.mk ((by rw [hg];exact (below_size (by repeat (first|(with_reducible first|exact HB.out|apply below_alloc|apply pw_below_drewN|apply below_drew1)|exact HB.out))):w.heap.size≤gb104));clear HB;have HB:=n0_;have BK104:=n1_;have GW104:=n2_;have GE104:=n3_;clear n0_ n1_ n2_ n3_;clear hb hbox hg;have hcz6_0:w5.cell? ⟨gb104,0,none⟩=some (.int .i64 a0_0):=(blk_cell BK104.out 0).trans rfl;have hcz6_1:w5.cell? ⟨gb104,1,none⟩=some (.int .i64 a0_1):=(blk_cell BK104.out 1).trans rfl;have hcz6_2:w5.cell? ⟨gb104,2,none⟩=some (.int .i64 a0_2):=(blk_cell BK104.out 2).trans rfl;have hcz6_3:w5.cell? ⟨gb104,3,none⟩=some (.int .i64 a0_3):=(blk_cell BK104.out 3).trans rfl;have hcz6_4:w5.cell? ⟨gb104,4,none⟩=some (.int .i64 a0_4):=(blk_cell BK104.out 4).trans rfl;have hcz6_5:w5.cell? ⟨gb104,5,none⟩=some (.int .i64 a0_5):=(blk_cell BK104.out 5).trans rfl;have hcz6_6:w5.cell? ⟨gb104,6,none⟩=some (.slice A0_6 l0_6.length c0_6):=(blk_cell BK104.out 6).trans rfl;have hcz6_7:w5.cell? ⟨gb104,7,none⟩=some (.int .i64 a0_7):=(blk_cell BK104.out 7).trans rfl;have hfz6_0:=blk_frozen BK104.out 0;have hfz6_1:=blk_frozen BK104.out 1;have hfz6_2:=blk_frozen BK104.out 2;have hfz6_3:=blk_frozen BK104.out 3;have hfz6_4:=blk_frozen BK104.out 4;have hfz6_5:=blk_frozen BK104.out 5;have hfz6_6:=blk_frozen BK104.out 6;have hfz6_7:=blk_frozen BK104.out 7)|(go_at_call 93;(with_reducible refine (cmd_Client.calls a0_7 true _ A2.out).mono ?_);rintro e w' ⟨rfl,⟨nd,rfl⟩⟩;(try first|exact ⟨rfl,_,World.drewN_drewN _ _ _⟩|exact ⟨rfl,_,Eq.trans (World.drewN_drewN _ _ _) (congrArg (World.drewN _) (Nat.add_assoc _ _ _))⟩))))
    (try simp only [Act.put,List.setIfInBounds_toArray,List.set_cons_zero,List.set_cons_succ])
    go_cut [6] (fun v6 wc=>∃ (kq:Nat) (x6_3:Bool),v6 = .bool x6_3∧Aside0 (cmd_good.j0 kq (a0_1 == 0&&(a0_2 == 0&&(a0_3 == 0&&(a0_4 == 0)))) (a0_5 == 0) ((l0_6.length:Int) == 0) x6_3 a0_0 a0_1 a0_2 a0_3 a0_4 a0_5 l0_6 a0_7=some r)∧Aside0 (kq≤k)∧Aside0 (wc.heap[gb104]?=some (.cells #[.int .i64 a0_0,.int .i64 a0_1,.int .i64 a0_2,.int .i64 a0_3,.int .i64 a0_4,.int .i64 a0_5,(.slice A0_6 l0_6.length c0_6),.int .i64 a0_7] 27 (0,0)))∧Aside0 (Below w.heap.size w wc))
    case first =>
      have H:=HC4.out
      clear HC4
      by_cases c7:a0_5≥0
      · rw [if_pos c7] at H
        have c7b0:decide (0≤a0_5)=true:=decide_eq_true c7
        clear c7
        (first|rw [c7b0]|(simp only [i64_w,i32_w];rw [c7b0])|skip)
        have H':=Aside0.mk H
        clear H
        have hcz8_0:w5.cell? ⟨gb104,0,none⟩=some (.int .i64 a0_0):=(blk_cell BK104.out 0).trans rfl
        have hcz8_1:w5.cell? ⟨gb104,1,none⟩=some (.int .i64 a0_1):=(blk_cell BK104.out 1).trans rfl
        have hcz8_2:w5.cell? ⟨gb104,2,none⟩=some (.int .i64 a0_2):=(blk_cell BK104.out 2).trans rfl
        have hcz8_3:w5.cell? ⟨gb104,3,none⟩=some (.int .i64 a0_3):=(blk_cell BK104.out 3).trans rfl
        have hcz8_4:w5.cell? ⟨gb104,4,none⟩=some (.int .i64 a0_4):=(blk_cell BK104.out 4).trans rfl
        have hcz8_5:w5.cell? ⟨gb104,5,none⟩=some (.int .i64 a0_5):=(blk_cell BK104.out 5).trans rfl
        have hcz8_6:w5.cell? ⟨gb104,6,none⟩=some (.slice A0_6 l0_6.length c0_6):=(blk_cell BK104.out 6).trans rfl
        have hcz8_7:w5.cell? ⟨gb104,7,none⟩=some (.int .i64 a0_7):=(blk_cell BK104.out 7).trans rfl
        have hfz8_0:=blk_frozen BK104.out 0
        have hfz8_1:=blk_frozen BK104.out 1
        have hfz8_2:=blk_frozen BK104.out 2
        have hfz8_3:=blk_frozen BK104.out 3
        have hfz8_4:=blk_frozen BK104.out 4
        have hfz8_5:=blk_frozen BK104.out 5
        have hfz8_6:=blk_frozen BK104.out 6
        have hfz8_7:=blk_frozen BK104.out 7
        go_wp2
        repeat (go_quiet (fail);try go_wp2)
        go_meet
        case rel=>exact ⟨_,(decide (a0_5<16)),(by first|rfl|(simp;done)|(simp [*];done)),H',⟨by first|omega|exact Nat.le_refl _⟩,⟨by (with_reducible repeat (first|refine blk_drewN ?_ _|refine blk_drew ?_|refine blk_alloc ?_ _));exact BK104.out⟩,⟨by repeat (first|(with_reducible first|exact HB.out|apply below_alloc|apply pw_below_drewN|apply below_drew1|refine below_set ?_ GE104.out)|exact HB.out)⟩⟩
      · rw [if_neg c7] at H
        have c7b0:decide (0≤a0_5)=false:=decide_eq_false c7
        clear c7
        (first|rw [c7b0]|(simp only [i64_w,i32_w];rw [c7b0])|skip)
        have H':=Aside0.mk H
        clear H
        have hcz9_0:w5.cell? ⟨gb104,0,none⟩=some (.int .i64 a0_0):=(blk_cell BK104.out 0).trans rfl
        have hcz9_1:w5.cell? ⟨gb104,1,none⟩=some (.int .i64 a0_1):=(blk_cell BK104.out 1).trans rfl
        have hcz9_2:w5.cell? ⟨gb104,2,none⟩=some (.int .i64 a0_2):=(blk_cell BK104.out 2).trans rfl
        have hcz9_3:w5.cell? ⟨gb104,3,none⟩=some (.int .i64 a0_3):=(blk_cell BK104.out 3).trans rfl
        have hcz9_4:w5.cell? ⟨gb104,4,none⟩=some (.int .i64 a0_4):=(blk_cell BK104.out 4).trans rfl
        have hcz9_5:w5.cell? ⟨gb104,5,none⟩=some (.int .i64 a0_5):=(blk_cell BK104.out 5).trans rfl
        have hcz9_6:w5.cell? ⟨gb104,6,none⟩=some (.slice A0_6 l0_6.length c0_6):=(blk_cell BK104.out 6).trans rfl
        have hcz9_7:w5.cell? ⟨gb104,7,none⟩=some (.int .i64 a0_7):=(blk_cell BK104.out 7).trans rfl
        have hfz9_0:=blk_frozen BK104.out 0
        have hfz9_1:=blk_frozen BK104.out 1
        have hfz9_2:=blk_frozen BK104.out 2
        have hfz9_3:=blk_frozen BK104.out 3
        have hfz9_4:=blk_frozen BK104.out 4
        have hfz9_5:=blk_frozen BK104.out 5
        have hfz9_6:=blk_frozen BK104.out 6
        have hfz9_7:=blk_frozen BK104.out 7
        go_wp2
        repeat (go_quiet (fail);try go_wp2)
        go_meet
        case rel=>exact ⟨_,(false),(by first|rfl|(simp;done)|(simp [*];done)),H',⟨by first|omega|exact Nat.le_refl _⟩,⟨by (with_reducible repeat (first|refine blk_drewN ?_ _|refine blk_drew ?_|refine blk_alloc ?_ _));exact BK104.out⟩,⟨by repeat (first|(with_reducible first|exact HB.out|apply below_alloc|apply pw_below_drewN|apply below_drew1|refine below_set ?_ GE104.out)|exact HB.out)⟩⟩
    case rest =>
      clear HC4
      try clear p2
      try clear c3
      try clear c7
      try clear c7b0
      try clear hcz6_0
      try clear hcz6_1
      try clear hcz6_2
      try clear hcz6_3
      try clear hcz6_4
      try clear hcz6_5
      try clear hcz6_6
      try clear hcz6_7
      try clear hcz8_0
      try clear hcz8_1
      try clear hcz8_2
      try clear hcz8_3
      try clear hcz8_4
      try clear hcz8_5
      try clear hcz8_6
      try clear hcz8_7
      try clear hcz9_0
      try clear hcz9_1
      try clear hcz9_2
      try clear hcz9_3
      try clear hcz9_4
      try clear hcz9_5
      try clear hcz9_6
      try clear hcz9_7
      try clear hfz6_0
      try clear hfz6_1
      try clear hfz6_2
      try clear hfz6_3
      try clear hfz6_4
      try clear hfz6_5
      try clear hfz6_6
      try clear hfz6_7
      try clear hfz8_0
      try clear hfz8_1
      try clear hfz8_2
      try clear hfz8_3
      try clear hfz8_4
      try clear hfz8_5
      try clear hfz8_6
      try clear hfz8_7
      try clear hfz9_0
      try clear hfz9_1
      try clear hfz9_2
      try clear hfz9_3
      try clear hfz9_4
      try clear hfz9_5
      try clear hfz9_6
      try clear hfz9_7
      obtain ⟨kq,x6_3,rfl,HA,HJ3,BK104,HB⟩:=hcut
      cases kq with
      | zero=>exact absurd HA.out (by simp [cmd_good.j0])
      | succ kj3 =>
        have H:=HA.out
        clear HA
        simp only [cmd_good.j0] at H
        by_cases c10:a0_0=1
        · rw [if_pos c10] at H
          have c10b0:(a0_0 == 1)=true:=beq_iff_eq.mpr c10
          have c10b1:(a0_0 != 1)=false:=bne_eq_false_iff_eq.mpr c10
          clear c10
          replace H:=Option.bind_eq_some_iff.mp H
          obtain ⟨t106,A110,H⟩:=H
          replace H:(if t106=true then (if a0_1=a0_7 then (if (a0_5 == 0)=true then (some ((l0_6.length:Int) == 0)) else (some false)) else (some false)) else (some false))=some r:=H
          have A11:=Aside0.mk A110
          clear A110
          by_cases c12:t106=true
          · subst c12
            have H1:(if a0_1=a0_7 then (if (a0_5 == 0)=true then (some ((l0_6.length:Int) == 0)) else (some false)) else (some false))=some r:=by rw [if_pos rfl] at H;exact H
            clear H
            have H:=H1
            clear H1
            by_cases c13:a0_1=a0_7
            · rw [if_pos c13] at H
              have c13b0:(a0_1 == a0_7)=true:=beq_iff_eq.mpr c13
              have c13b1:(a0_1 != a0_7)=false:=bne_eq_false_iff_eq.mpr c13
              clear c13
              by_cases c14:(a0_5 == 0)=true
              · rw [if_pos c14] at H
                have c14b0:(a0_5 == 0)=true:=c14
                (try (have c14b1:decide (a0_5=0)=true:=by simpa using c14))
                (try (have c14b2:(a0_5 == 0)=true:=by simpa using c14))
                clear c14
                obtain rfl:=Option.some.inj H
                have hcz15_0:wc.cell? ⟨gb104,0,none⟩=some (.int .i64 a0_0):=(blk_cell BK104.out 0).trans rfl
                have hcz15_1:wc.cell? ⟨gb104,1,none⟩=some (.int .i64 a0_1):=(blk_cell BK104.out 1).trans rfl
                have hcz15_2:wc.cell? ⟨gb104,2,none⟩=some (.int .i64 a0_2):=(blk_cell BK104.out 2).trans rfl
                have hcz15_3:wc.cell? ⟨gb104,3,none⟩=some (.int .i64 a0_3):=(blk_cell BK104.out 3).trans rfl
                have hcz15_4:wc.cell? ⟨gb104,4,none⟩=some (.int .i64 a0_4):=(blk_cell BK104.out 4).trans rfl
                have hcz15_5:wc.cell? ⟨gb104,5,none⟩=some (.int .i64 a0_5):=(blk_cell BK104.out 5).trans rfl
                have hcz15_6:wc.cell? ⟨gb104,6,none⟩=some (.slice A0_6 l0_6.length c0_6):=(blk_cell BK104.out 6).trans rfl
                have hcz15_7:wc.cell? ⟨gb104,7,none⟩=some (.int .i64 a0_7):=(blk_cell BK104.out 7).trans rfl
                have hfz15_0:=blk_frozen BK104.out 0
                have hfz15_1:=blk_frozen BK104.out 1
                have hfz15_2:=blk_frozen BK104.out 2
                have hfz15_3:=blk_frozen BK104.out 3
                have hfz15_4:=blk_frozen BK104.out 4
                have hfz15_5:=blk_frozen BK104.out 5
                have hfz15_6:=blk_frozen BK104.out 6
                have hfz15_7:=blk_frozen BK104.out 7
                go_wp2_with (first|(go_at_call 94;(with_reducible refine (cmd_Sub.calls a0_1 a0_2 a0_3 a0_4 true _ A11.out).mono ?_);rintro e w16 ⟨rfl,hb⟩;have n0_:=Aside0.mk (blk_below (g:=gb104) (o := .cells #[.int .i64 a0_0,.int .i64 a0_1,.int .i64 a0_2,.int .i64 a0_3,.int .i64 a0_4,.int .i64 a0_5,.slice A0_6 l0_6.length c0_6,.int .i64 a0_7] 27 (0,0)) (by (with_reducible repeat (first|refine blk_drewN ?_ _|refine blk_drew ?_|refine blk_alloc ?_ _));exact BK104.out) hb);have n1_:=Aside0.mk (below_step (by repeat (first|(with_reducible first|exact HB.out|apply below_alloc|apply pw_below_drewN|apply below_drew1|refine below_set ?_ GE104.out)|exact HB.out)) hb);clear BK104;clear HB;have BK104:=n0_;have HB:=n1_;clear n0_ n1_;(try clear hb);(try clear hb2);(try clear hk);(try clear hi);have hcz17_0:w16.cell? ⟨gb104,0,none⟩=some (.int .i64 a0_0):=(blk_cell BK104.out 0).trans rfl;have hcz17_1:w16.cell? ⟨gb104,1,none⟩=some (.int .i64 a0_1):=(blk_cell BK104.out 1).trans rfl;have hcz17_2:w16.cell? ⟨gb104,2,none⟩=some (.int .i64 a0_2):=(blk_cell BK104.out 2).trans rfl;have hcz17_3:w16.cell? ⟨gb104,3,none⟩=some (.int .i64 a0_3):=(blk_cell BK104.out 3).trans rfl;have hcz17_4:w16.cell? ⟨gb104,4,none⟩=some (.int .i64 a0_4):=(blk_cell BK104.out 4).trans rfl;have hcz17_5:w16.cell? ⟨gb104,5,none⟩=some (.int .i64 a0_5):=(blk_cell BK104.out 5).trans rfl;have hcz17_6:w16.cell? ⟨gb104,6,none⟩=some (.slice A0_6 l0_6.length c0_6):=(blk_cell BK104.out 6).trans rfl;have hcz17_7:w16.cell? ⟨gb104,7,none⟩=some (.int .i64 a0_7):=(blk_cell BK104.out 7).trans rfl;have hfz17_0:=blk_frozen BK104.out 0;have hfz17_1:=blk_frozen BK104.out 1;have hfz17_2:=blk_frozen BK104.out 2;have hfz17_3:=blk_frozen BK104.out 3;have hfz17_4:=blk_frozen BK104.out 4;have hfz17_5:=blk_frozen BK104.out 5;have hfz17_6:=blk_frozen BK104.out 6;have hfz17_7:=blk_frozen BK104.out 7))
                repeat (go_quiet (first|(go_at_call 94;(with_reducible refine (cmd_Sub.calls a0_1 a0_2 a0_3 a0_4 true _ A11.out).mono ?_);rintro e w16 ⟨rfl,hb⟩;have n0_:=Aside0.mk (blk_below (g:=gb104) (o := .cells #[.int .i64 a0_0,.int .i64 a0_1,.int .i64 a0_2,.int .i64 a0_3,.int .i64 a0_4,.int .i64 a0_5,.slice A0_6 l0_6.length c0_6,.int .i64 a0_7] 27 (0,0)) (by (with_reducible repeat (first|refine blk_drewN ?_ _|refine blk_drew ?_|refine blk_alloc ?_ _));exact BK104.out) hb);have n1_:=Aside0.mk (below_step (by repeat (first|(with_reducible first|exact HB.out|apply below_alloc|apply pw_below_drewN|apply below_drew1|refine below_set ?_ GE104.out)|exact HB.out)) hb);clear BK104;clear HB;have BK104:=n0_;have HB:=n1_;clear n0_ n1_;(try clear hb);(try clear hb2);(try clear hk);(try clear hi);have hcz17_0:w16.cell? ⟨gb104,0,none⟩=some (.int .i64 a0_0):=(blk_cell BK104.out 0).trans rfl;have hcz17_1:w16.cell? ⟨gb104,1,none⟩=some (.int .i64 a0_1):=(blk_cell BK104.out 1).trans rfl;have hcz17_2:w16.cell? ⟨gb104,2,none⟩=some (.int .i64 a0_2):=(blk_cell BK104.out 2).trans rfl;have hcz17_3:w16.cell? ⟨gb104,3,none⟩=some (.int .i64 a0_3):=(blk_cell BK104.out 3).trans rfl;have hcz17_4:w16.cell? ⟨gb104,4,none⟩=some (.int .i64 a0_4):=(blk_cell BK104.out 4).trans rfl;have hcz17_5:w16.cell? ⟨gb104,5,none⟩=some (.int .i64 a0_5):=(blk_cell BK104.out 5).trans rfl;have hcz17_6:w16.cell? ⟨gb104,6,none⟩=some (.slice A0_6 l0_6.length c0_6):=(blk_cell BK104.out 6).trans rfl;have hcz17_7:w16.cell? ⟨gb104,7,none⟩=some (.int .i64 a0_7):=(blk_cell BK104.out 7).trans rfl;have hfz17_0:=blk_frozen BK104.out 0;have hfz17_1:=blk_frozen BK104.out 1;have hfz17_2:=blk_frozen BK104.out 2;have hfz17_3:=blk_frozen BK104.out 3;have hfz17_4:=blk_frozen BK104.out 4;have hfz17_5:=blk_frozen BK104.out 5;have hfz17_6:=blk_frozen BK104.out 6;have hfz17_7:=blk_frozen BK104.out 7));try go_wp2_with (first|(go_at_call 94;(with_reducible refine (cmd_Sub.calls a0_1 a0_2 a0_3 a0_4 true _ A11.out).mono ?_);rintro e w16 ⟨rfl,hb⟩;have n0_:=Aside0.mk (blk_below (g:=gb104) (o := .cells #[.int .i64 a0_0,.int .i64 a0_1,.int .i64 a0_2,.int .i64 a0_3,.int .i64 a0_4,.int .i64 a0_5,.slice A0_6 l0_6.length c0_6,.int .i64 a0_7] 27 (0,0)) (by (with_reducible repeat (first|refine blk_drewN ?_ _|refine blk_drew ?_|refine blk_alloc ?_ _));exact BK104.out) hb);have n1_:=Aside0.mk (below_step (by repeat (first|(with_reducible first|exact HB.out|apply below_alloc|apply pw_below_drewN|apply below_drew1|refine below_set ?_ GE104.out)|exact HB.out)) hb);clear BK104;clear HB;have BK104:=n0_;have HB:=n1_;clear n0_ n1_;(try clear hb);(try clear hb2);(try clear hk);(try clear hi);have hcz17_0:w16.cell? ⟨gb104,0,none⟩=some (.int .i64 a0_0):=(blk_cell BK104.out 0).trans rfl;have hcz17_1:w16.cell? ⟨gb104,1,none⟩=some (.int .i64 a0_1):=(blk_cell BK104.out 1).trans rfl;have hcz17_2:w16.cell? ⟨gb104,2,none⟩=some (.int .i64 a0_2):=(blk_cell BK104.out 2).trans rfl;have hcz17_3:w16.cell? ⟨gb104,3,none⟩=some (.int .i64 a0_3):=(blk_cell BK104.out 3).trans rfl;have hcz17_4:w16.cell? ⟨gb104,4,none⟩=some (.int .i64 a0_4):=(blk_cell BK104.out 4).trans rfl;have hcz17_5:w16.cell? ⟨gb104,5,none⟩=some (.int .i64 a0_5):=(blk_cell BK104.out 5).trans rfl;have hcz17_6:w16.cell? ⟨gb104,6,none⟩=some (.slice A0_6 l0_6.length c0_6):=(blk_cell BK104.out 6).trans rfl;have hcz17_7:w16.cell? ⟨gb104,7,none⟩=some (.int .i64 a0_7):=(blk_cell BK104.out 7).trans rfl;have hfz17_0:=blk_frozen BK104.out 0;have hfz17_1:=blk_frozen BK104.out 1;have hfz17_2:=blk_frozen BK104.out 2;have hfz17_3:=blk_frozen BK104.out 3;have hfz17_4:=blk_frozen BK104.out 4;have hfz17_5:=blk_frozen BK104.out 5;have hfz17_6:=blk_frozen BK104.out 6;have hfz17_7:=blk_frozen BK104.out 7)))
                go_ret
                exact ⟨by first|rfl|(simp [errW_none,errW_some]<;>rfl)|(simp [*,errW_none,errW_some]<;>rfl),by repeat (first|(with_reducible first|exact HB.out|apply below_alloc|apply pw_below_drewN|apply below_drew1|refine below_set ?_ GE104.out)|exact HB.out)⟩
              · rw [if_neg c14] at H
                have c14b0:(a0_5 == 0)=false:=by simpa using c14
                (try (have c14b1:decide (a0_5=0)=false:=by simpa using c14))
                (try (have c14b2:(a0_5 == 0)=false:=by simpa using c14))
                (try (have c14b3:¬ (a0_5=0):=by simpa using c14))
                clear c14
                obtain rfl:=Option.some.inj H
                have hcz18_0:wc.cell? ⟨gb104,0,none⟩=some (.int .i64 a0_0):=(blk_cell BK104.out 0).trans rfl
                have hcz18_1:wc.cell? ⟨gb104,1,none⟩=some (.int .i64 a0_1):=(blk_cell BK104.out 1).trans rfl
                have hcz18_2:wc.cell? ⟨gb104,2,none⟩=some (.int .i64 a0_2):=(blk_cell BK104.out 2).trans rfl
                have hcz18_3:wc.cell? ⟨gb104,3,none⟩=some (.int .i64 a0_3):=(blk_cell BK104.out 3).trans rfl
                have hcz18_4:wc.cell? ⟨gb104,4,none⟩=some (.int .i64 a0_4):=(blk_cell BK104.out 4).trans rfl
                have hcz18_5:wc.cell? ⟨gb104,5,none⟩=some (.int .i64 a0_5):=(blk_cell BK104.out 5).trans rfl
                have hcz18_6:wc.cell? ⟨gb104,6,none⟩=some (.slice A0_6 l0_6.length c0_6):=(blk_cell BK104.out 6).trans rfl
                have hcz18_7:wc.cell? ⟨gb104,7,none⟩=some (.int .i64 a0_7):=(blk_cell BK104.out 7).trans rfl
                have hfz18_0:=blk_frozen BK104.out 0
                have hfz18_1:=blk_frozen BK104.out 1
                have hfz18_2:=blk_frozen BK104.out 2
                have hfz18_3:=blk_frozen BK104.out 3
                have hfz18_4:=blk_frozen BK104.out 4
                have hfz18_5:=blk_frozen BK104.out 5
                have hfz18_6:=blk_frozen BK104.out 6
                have hfz18_7:=blk_frozen BK104.out 7
                go_wp2_with (first|(go_at_call 94;(with_reducible refine (cmd_Sub.calls a0_1 a0_2 a0_3 a0_4 true _ A11.out).mono ?_);rintro e w19 ⟨rfl,hb⟩;have n0_:=Aside0.mk (blk_below (g:=gb104) (o := .cells #[.int .i64 a0_0,.int .i64 a0_1,.int .i64 a0_2,.int .i64 a0_3,.int .i64 a0_4,.int .i64 a0_5,.slice A0_6 l0_6.length c0_6,.int .i64 a0_7] 27 (0,0)) (by (with_reducible repeat (first|refine blk_drewN ?_ _|refine blk_drew ?_|refine blk_alloc ?_ _));exact BK104.out) hb);have n1_:=Aside0.mk (below_step (by repeat (first|(with_reducible first|exact HB.out|apply below_alloc|apply pw_below_drewN|apply below_drew1|refine below_set ?_ GE104.out)|exact HB.out)) hb);clear BK104;clear HB;have BK104:=n0_;have HB:=n1_;clear n0_ n1_;(try clear hb);(try clear hb2);(try clear hk);(try clear hi);have hcz20_0:w19.cell? ⟨gb104,0,none⟩=some (.int .i64 a0_0):=(blk_cell BK104.out 0).trans rfl;have hcz20_1:w19.cell? ⟨gb104,1,none⟩=some (.int .i64 a0_1):=(blk_cell BK104.out 1).trans rfl;have hcz20_2:w19.cell? ⟨gb104,2,none⟩=some (.int .i64 a0_2):=(blk_cell BK104.out 2).trans rfl;have hcz20_3:w19.cell? ⟨gb104,3,none⟩=some (.int .i64 a0_3):=(blk_cell BK104.out 3).trans rfl;have hcz20_4:w19.cell? ⟨gb104,4,none⟩=some (.int .i64 a0_4):=(blk_cell BK104.out 4).trans rfl;have hcz20_5:w19.cell? ⟨gb104,5,none⟩=some (.int .i64 a0_5):=(blk_cell BK104.out 5).trans rfl;have hcz20_6:w19.cell? ⟨gb104,6,none⟩=some (.slice A0_6 l0_6.length c0_6):=(blk_cell BK104.out 6).trans rfl;have hcz20_7:w19.cell? ⟨gb104,7,none⟩=some (.int .i64 a0_7):=(blk_cell BK104.out 7).trans rfl;have hfz20_0:=blk_frozen BK104.out 0;have hfz20_1:=blk_frozen BK104.out 1;have hfz20_2:=blk_frozen BK104.out 2;have hfz20_3:=blk_frozen BK104.out 3;have hfz20_4:=blk_frozen BK104.out 4;have hfz20_5:=blk_frozen BK104.out 5;have hfz20_6:=blk_frozen BK104.out 6;have hfz20_7:=blk_frozen BK104.out 7))
                repeat (go_quiet (first|(go_at_call 94;(with_reducible refine (cmd_Sub.calls a0_1 a0_2 a0_3 a0_4 true _ A11.out).mono ?_);rintro e w19 ⟨rfl,hb⟩;have n0_:=Aside0.mk (blk_below (g:=gb104) (o := .cells #[.int .i64 a0_0,.int .i64 a0_1,.int .i64 a0_2,.int .i64 a0_3,.int .i64 a0_4,.int .i64 a0_5,.slice A0_6 l0_6.length c0_6,.int .i64 a0_7] 27 (0,0)) (by (with_reducible repeat (first|refine blk_drewN ?_ _|refine blk_drew ?_|refine blk_alloc ?_ _));exact BK104.out) hb);have n1_:=Aside0.mk (below_step (by repeat (first|(with_reducible first|exact HB.out|apply below_alloc|apply pw_below_drewN|apply below_drew1|refine below_set ?_ GE104.out)|exact HB.out)) hb);clear BK104;clear HB;have BK104:=n0_;have HB:=n1_;clear n0_ n1_;(try clear hb);(try clear hb2);(try clear hk);(try clear hi);have hcz20_0:w19.cell? ⟨gb104,0,none⟩=some (.int .i64 a0_0):=(blk_cell BK104.out 0).trans rfl;have hcz20_1:w19.cell? ⟨gb104,1,none⟩=some (.int .i64 a0_1):=(blk_cell BK104.out 1).trans rfl;have hcz20_2:w19.cell? ⟨gb104,2,none⟩=some (.int .i64 a0_2):=(blk_cell BK104.out 2).trans rfl;have hcz20_3:w19.cell? ⟨gb104,3,none⟩=some (.int .i64 a0_3):=(blk_cell BK104.out 3).trans rfl;have hcz20_4:w19.cell? ⟨gb104,4,none⟩=some (.int .i64 a0_4):=(blk_cell BK104.out 4).trans rfl;have hcz20_5:w19.cell? ⟨gb104,5,none⟩=some (.int .i64 a0_5):=(blk_cell BK104.out 5).trans rfl;have hcz20_6:w19.cell? ⟨gb104,6,none⟩=some (.slice A0_6 l0_6.length c0_6):=(blk_cell BK104.out 6).trans rfl;have hcz20_7:w19.cell? ⟨gb104,7,none⟩=some (.int .i64 a0_7):=(blk_cell BK104.out 7).trans rfl;have hfz20_0:=blk_frozen BK104.out 0;have hfz20_1:=blk_frozen BK104.out 1;have hfz20_2:=blk_frozen BK104.out 2;have hfz20_3:=blk_frozen BK104.out 3;have hfz20_4:=blk_frozen BK104.out 4;have hfz20_5:=blk_frozen BK104.out 5;have hfz20_6:=blk_frozen BK104.out 6;have hfz20_7:=blk_frozen BK104.out 7));try go_wp2_with (first|(go_at_call 94;(with_reducible refine (cmd_Sub.calls a0_1 a0_2 a0_3 a0_4 true _ A11.out).mono ?_);rintro e w19 ⟨rfl,hb⟩;have n0_:=Aside0.mk (blk_below (g:=gb104) (o := .cells #[.int .i64 a0_0,.int .i64 a0_1,.int .i64 a0_2,.int .i64 a0_3,.int .i64 a0_4,.int .i64 a0_5,.slice A0_6 l0_6.length c0_6,.int .i64 a0_7] 27 (0,0)) (by (with_reducible repeat (first|refine blk_drewN ?_ _|refine blk_drew ?_|refine blk_alloc ?_ _));exact BK104.out) hb);have n1_:=Aside0.mk (below_step (by repeat (first|(with_reducible first|exact HB.out|apply below_alloc|apply pw_below_drewN|apply below_drew1|refine below_set ?_ GE104.out)|exact HB.out)) hb);clear BK104;clear HB;have BK104:=n0_;have HB:=n1_;clear n0_ n1_;(try clear hb);(try clear hb2);(try clear hk);(try clear hi);have hcz20_0:w19.cell? ⟨gb104,0,none⟩=some (.int .i64 a0_0):=(blk_cell BK104.out 0).trans rfl;have hcz20_1:w19.cell? ⟨gb104,1,none⟩=some (.int .i64 a0_1):=(blk_cell BK104.out 1).trans rfl;have hcz20_2:w19.cell? ⟨gb104,2,none⟩=some (.int .i64 a0_2):=(blk_cell BK104.out 2).trans rfl;have hcz20_3:w19.cell? ⟨gb104,3,none⟩=some (.int .i64 a0_3):=(blk_cell BK104.out 3).trans rfl;have hcz20_4:w19.cell? ⟨gb104,4,none⟩=some (.int .i64 a0_4):=(blk_cell BK104.out 4).trans rfl;have hcz20_5:w19.cell? ⟨gb104,5,none⟩=some (.int .i64 a0_5):=(blk_cell BK104.out 5).trans rfl;have hcz20_6:w19.cell? ⟨gb104,6,none⟩=some (.slice A0_6 l0_6.length c0_6):=(blk_cell BK104.out 6).trans rfl;have hcz20_7:w19.cell? ⟨gb104,7,none⟩=some (.int .i64 a0_7):=(blk_cell BK104.out 7).trans rfl;have hfz20_0:=blk_frozen BK104.out 0;have hfz20_1:=blk_frozen BK104.out 1;have hfz20_2:=blk_frozen BK104.out 2;have hfz20_3:=blk_frozen BK104.out 3;have hfz20_4:=blk_frozen BK104.out 4;have hfz20_5:=blk_frozen BK104.out 5;have hfz20_6:=blk_frozen BK104.out 6;have hfz20_7:=blk_frozen BK104.out 7)))
                go_ret
                exact ⟨by first|rfl|(simp [errW_none,errW_some]<;>rfl)|(simp [*,errW_none,errW_some]<;>rfl),by repeat (first|(with_reducible first|exact HB.out|apply below_alloc|apply pw_below_drewN|apply below_drew1|refine below_set ?_ GE104.out)|exact HB.out)⟩
            · rw [if_neg c13] at H
              have c13b0:(a0_1 == a0_7)=false:=beq_eq_false_iff_ne.mpr c13
              have c13b1:(a0_1 != a0_7)=true:=bne_iff_ne.mpr c13
              obtain rfl:=Option.some.inj H
              have hcz21_0:wc.cell? ⟨gb104,0,none⟩=some (.int .i64 a0_0):=(blk_cell BK104.out 0).trans rfl
              have hcz21_1:wc.cell? ⟨gb104,1,none⟩=some (.int .i64 a0_1):=(blk_cell BK104.out 1).trans rfl
              have hcz21_2:wc.cell? ⟨gb104,2,none⟩=some (.int .i64 a0_2):=(blk_cell BK104.out 2).trans rfl
              have hcz21_3:wc.cell? ⟨gb104,3,none⟩=some (.int .i64 a0_3):=(blk_cell BK104.out 3).trans rfl
              have hcz21_4:wc.cell? ⟨gb104,4,none⟩=some (.int .i64 a0_4):=(blk_cell BK104.out 4).trans rfl
              have hcz21_5:wc.cell? ⟨gb104,5,none⟩=some (.int .i64 a0_5):=(blk_cell BK104.out 5).trans rfl
              have hcz21_6:wc.cell? ⟨gb104,6,none⟩=some (.slice A0_6 l0_6.length c0_6):=(blk_cell BK104.out 6).trans rfl
              have hcz21_7:wc.cell? ⟨gb104,7,none⟩=some (.int .i64 a0_7):=(blk_cell BK104.out 7).trans rfl
              have hfz21_0:=blk_frozen BK104.out 0
              have hfz21_1:=blk_frozen BK104.out 1
              have hfz21_2:=blk_frozen BK104.out 2
              have hfz21_3:=blk_frozen BK104.out 3
              have hfz21_4:=blk_frozen BK104.out 4
              have hfz21_5:=blk_frozen BK104.out 5
              have hfz21_6:=blk_frozen BK104.out 6
              have hfz21_7:=blk_frozen BK104.out 7
              go_wp2_with (first|(go_at_call 94;(with_reducible refine (cmd_Sub.calls a0_1 a0_2 a0_3 a0_4 true _ A11.out).mono ?_);rintro e w22 ⟨rfl,hb⟩;have n0_:=Aside0.mk (blk_below (g:=gb104) (o := .cells #[.int .i64 a0_0,.int .i64 a0_1,.int .i64 a0_2,.int .i64 a0_3,.int .i64 a0_4,.int .i64 a0_5,.slice A0_6 l0_6.length c0_6,.int .i64 a0_7] 27 (0,0)) (by (with_reducible repeat (first|refine blk_drewN ?_ _|refine blk_drew ?_|refine blk_alloc ?_ _));exact BK104.out) hb);have n1_:=Aside0.mk (below_step (by repeat (first|(with_reducible first|exact HB.out|apply below_alloc|apply pw_below_drewN|apply below_drew1|refine below_set ?_ GE104.out)|exact HB.out)) hb);clear BK104;clear HB;have BK104:=n0_;have HB:=n1_;clear n0_ n1_;(try clear hb);(try clear hb2);(try clear hk);(try clear hi);have hcz23_0:w22.cell? ⟨gb104,0,none⟩=some (.int .i64 a0_0):=(blk_cell BK104.out 0).trans rfl;have hcz23_1:w22.cell? ⟨gb104,1,none⟩=some (.int .i64 a0_1):=(blk_cell BK104.out 1).trans rfl;have hcz23_2:w22.cell? ⟨gb104,2,none⟩=some (.int .i64 a0_2):=(blk_cell BK104.out 2).trans rfl;have hcz23_3:w22.cell? ⟨gb104,3,none⟩=some (.int .i64 a0_3):=(blk_cell BK104.out 3).trans rfl;have hcz23_4:w22.cell? ⟨gb104,4,none⟩=some (.int .i64 a0_4):=(blk_cell BK104.out 4).trans rfl;have hcz23_5:w22.cell? ⟨gb104,5,none⟩=some (.int .i64 a0_5):=(blk_cell BK104.out 5).trans rfl;have hcz23_6:w22.cell? ⟨gb104,6,none⟩=some (.slice A0_6 l0_6.length c0_6):=(blk_cell BK104.out 6).trans rfl;have hcz23_7:w22.cell? ⟨gb104,7,none⟩=some (.int .i64 a0_7):=(blk_cell BK104.out 7).trans rfl;have hfz23_0:=blk_frozen BK104.out 0;have hfz23_1:=blk_frozen BK104.out 1;have hfz23_2:=blk_frozen BK104.out 2;have hfz23_3:=blk_frozen BK104.out 3;have hfz23_4:=blk_frozen BK104.out 4;have hfz23_5:=blk_frozen BK104.out 5;have hfz23_6:=blk_frozen BK104.out 6;have hfz23_7:=blk_frozen BK104.out 7))
              repeat (go_quiet (first|(go_at_call 94;(with_reducible refine (cmd_Sub.calls a0_1 a0_2 a0_3 a0_4 true _ A11.out).mono ?_);rintro e w22 ⟨rfl,hb⟩;have n0_:=Aside0.mk (blk_below (g:=gb104) (o := .cells #[.int .i64 a0_0,.int .i64 a0_1,.int .i64 a0_2,.int .i64 a0_3,.int .i64 a0_4,.int .i64 a0_5,.slice A0_6 l0_6.length c0_6,.int .i64 a0_7] 27 (0,0)) (by (with_reducible repeat (first|refine blk_drewN ?_ _|refine blk_drew ?_|refine blk_alloc ?_ _));exact BK104.out) hb);have n1_:=Aside0.mk (below_step (by repeat (first|(with_reducible first|exact HB.out|apply below_alloc|apply pw_below_drewN|apply below_drew1|refine below_set ?_ GE104.out)|exact HB.out)) hb);clear BK104;clear HB;have BK104:=n0_;have HB:=n1_;clear n0_ n1_;(try clear hb);(try clear hb2);(try clear hk);(try clear hi);have hcz23_0:w22.cell? ⟨gb104,0,none⟩=some (.int .i64 a0_0):=(blk_cell BK104.out 0).trans rfl;have hcz23_1:w22.cell? ⟨gb104,1,none⟩=some (.int .i64 a0_1):=(blk_cell BK104.out 1).trans rfl;have hcz23_2:w22.cell? ⟨gb104,2,none⟩=some (.int .i64 a0_2):=(blk_cell BK104.out 2).trans rfl;have hcz23_3:w22.cell? ⟨gb104,3,none⟩=some (.int .i64 a0_3):=(blk_cell BK104.out 3).trans rfl;have hcz23_4:w22.cell? ⟨gb104,4,none⟩=some (.int .i64 a0_4):=(blk_cell BK104.out 4).trans rfl;have hcz23_5:w22.cell? ⟨gb104,5,none⟩=some (.int .i64 a0_5):=(blk_cell BK104.out 5).trans rfl;have hcz23_6:w22.cell? ⟨gb104,6,none⟩=some (.slice A0_6 l0_6.length c0_6):=(blk_cell BK104.out 6).trans rfl;have hcz23_7:w22.cell? ⟨gb104,7,none⟩=some (.int .i64 a0_7):=(blk_cell BK104.out 7).trans rfl;have hfz23_0:=blk_frozen BK104.out 0;have hfz23_1:=blk_frozen BK104.out 1;have hfz23_2:=blk_frozen BK104.out 2;have hfz23_3:=blk_frozen BK104.out 3;have hfz23_4:=blk_frozen BK104.out 4;have hfz23_5:=blk_frozen BK104.out 5;have hfz23_6:=blk_frozen BK104.out 6;have hfz23_7:=blk_frozen BK104.out 7));try go_wp2_with (first|(go_at_call 94;(with_reducible refine (cmd_Sub.calls a0_1 a0_2 a0_3 a0_4 true _ A11.out).mono ?_);rintro e w22 ⟨rfl,hb⟩;have n0_:=Aside0.mk (blk_below (g:=gb104) (o := .cells #[.int .i64 a0_0,.int .i64 a0_1,.int .i64 a0_2,.int .i64 a0_3,.int .i64 a0_4,.int .i64 a0_5,.slice A0_6 l0_6.length c0_6,.int .i64 a0_7] 27 (0,0)) (by (with_reducible repeat (first|refine blk_drewN ?_ _|refine blk_drew ?_|refine blk_alloc ?_ _));exact BK104.out) hb);have n1_:=Aside0.mk (below_step (by repeat (first|(with_reducible first|exact HB.out|apply below_alloc|apply pw_below_drewN|apply below_drew1|refine below_set ?_ GE104.out)|exact HB.out)) hb);clear BK104;clear HB;have BK104:=n0_;have HB:=n1_;clear n0_ n1_;(try clear hb);(try clear hb2);(try clear hk);(try clear hi);have hcz23_0:w22.cell? ⟨gb104,0,none⟩=some (.int .i64 a0_0):=(blk_cell BK104.out 0).trans rfl;have hcz23_1:w22.cell? ⟨gb104,1,none⟩=some (.int .i64 a0_1):=(blk_cell BK104.out 1).trans rfl;have hcz23_2:w22.cell? ⟨gb104,2,none⟩=some (.int .i64 a0_2):=(blk_cell BK104.out 2).trans rfl;have hcz23_3:w22.cell? ⟨gb104,3,none⟩=some (.int .i64 a0_3):=(blk_cell BK104.out 3).trans rfl;have hcz23_4:w22.cell? ⟨gb104,4,none⟩=some (.int .i64 a0_4):=(blk_cell BK104.out 4).trans rfl;have hcz23_5:w22.cell? ⟨gb104,5,none⟩=some (.int .i64 a0_5):=(blk_cell BK104.out 5).trans rfl;have hcz23_6:w22.cell? ⟨gb104,6,none⟩=some (.slice A0_6 l0_6.length c0_6):=(blk_cell BK104.out 6).trans rfl;have hcz23_7:w22.cell? ⟨gb104,7,none⟩=some (.int .i64 a0_7):=(blk_cell BK104.out 7).trans rfl;have hfz23_0:=blk_frozen BK104.out 0;have hfz23_1:=blk_frozen BK104.out 1;have hfz23_2:=blk_frozen BK104.out 2;have hfz23_3:=blk_frozen BK104.out 3;have hfz23_4:=blk_frozen BK104.out 4;have hfz23_5:=blk_frozen BK104.out 5;have hfz23_6:=blk_frozen BK104.out 6;have hfz23_7:=blk_frozen BK104.out 7)))
              go_ret
              exact ⟨by first|rfl|(simp [errW_none,errW_some]<;>rfl)|(simp [*,errW_none,errW_some]<;>rfl),by repeat (first|(with_reducible first|exact HB.out|apply below_alloc|apply pw_below_drewN|apply below_drew1|refine below_set ?_ GE104.out)|exact HB.out)⟩
          · replace c12:=Bool.eq_false_iff.mpr c12
            subst c12
            have H1:(some false)=some r:=by rw [if_neg (show ¬ (false=true) by decide)] at H;exact H
            clear H
            have H:=H1
            clear H1
            obtain rfl:=Option.some.inj H
            have hcz24_0:wc.cell? ⟨gb104,0,none⟩=some (.int .i64 a0_0):=(blk_cell BK104.out 0).trans rfl
            have hcz24_1:wc.cell? ⟨gb104,1,none⟩=some (.int .i64 a0_1):=(blk_cell BK104.out 1).trans rfl
            have hcz24_2:wc.cell? ⟨gb104,2,none⟩=some (.int .i64 a0_2):=(blk_cell BK104.out 2).trans rfl
            have hcz24_3:wc.cell? ⟨gb104,3,none⟩=some (.int .i64 a0_3):=(blk_cell BK104.out 3).trans rfl
            have hcz24_4:wc.cell? ⟨gb104,4,none⟩=some (.int .i64 a0_4):=(blk_cell BK104.out 4).trans rfl
            have hcz24_5:wc.cell? ⟨gb104,5,none⟩=some (.int .i64 a0_5):=(blk_cell BK104.out 5).trans rfl
            have hcz24_6:wc.cell? ⟨gb104,6,none⟩=some (.slice A0_6 l0_6.length c0_6):=(blk_cell BK104.out 6).trans rfl
            have hcz24_7:wc.cell? ⟨gb104,7,none⟩=some (.int .i64 a0_7):=(blk_cell BK104.out 7).trans rfl
            have hfz24_0:=blk_frozen BK104.out 0
            have hfz24_1:=blk_frozen BK104.out 1
            have hfz24_2:=blk_frozen BK104.out 2
            have hfz24_3:=blk_frozen BK104.out 3
            have hfz24_4:=blk_frozen BK104.out 4
            have hfz24_5:=blk_frozen BK104.out 5
            have hfz24_6:=blk_frozen BK104.out 6
            have hfz24_7:=blk_frozen BK104.out 7
            go_wp2_with (first|(go_at_call 94;(with_reducible refine (cmd_Sub.calls a0_1 a0_2 a0_3 a0_4 false _ A11.out).mono ?_);rintro e w25 ⟨rfl,hb⟩;have n0_:=Aside0.mk (blk_below (g:=gb104) (o := .cells #[.int .i64 a0_0,.int .i64 a0_1,.int .i64 a0_2,.int .i64 a0_3,.int .i64 a0_4,.int .i64 a0_5,.slice A0_6 l0_6.length c0_6,.int .i64 a0_7] 27 (0,0)) (by (with_reducible repeat (first|refine blk_drewN ?_ _|refine blk_drew ?_|refine blk_alloc ?_ _));exact BK104.out) hb);have n1_:=Aside0.mk (below_step (by repeat (first|(with_reducible first|exact HB.out|apply below_alloc|apply pw_below_drewN|apply below_drew1|refine below_set ?_ GE104.out)|exact HB.out)) hb);clear BK104;clear HB;have BK104:=n0_;have HB:=n1_;clear n0_ n1_;(try clear hb);(try clear hb2);(try clear hk);(try clear hi)))
            repeat (go_quiet (first|(go_at_call 94;(with_reducible refine (cmd_Sub.calls a0_1 a0_2 a0_3 a0_4 false _ A11.out).mono ?_);rintro e w25 ⟨rfl,hb⟩;have n0_:=Aside0.mk (blk_below (g:=gb104) (o := .cells #[.int .i64 a0_0,.int .i64 a0_1,.int .i64 a0_2,.int .i64 a0_3,.int .i64 a0_4,.int .i64 a0_5,.slice A0_6 l0_6.length c0_6,.int .i64 a0_7] 27 (0,0)) (by (with_reducible repeat (first|refine blk_drewN ?_ _|refine blk_drew ?_|refine blk_alloc ?_ _));exact BK104.out) hb);have n1_:=Aside0.mk (below_step (by repeat (first|(with_reducible first|exact HB.out|apply below_alloc|apply pw_below_drewN|apply below_drew1|refine below_set ?_ GE104.out)|exact HB.out)) hb);clear BK104;clear HB;have BK104:=n0_;have HB:=n1_;clear n0_ n1_;(try clear hb);(try clear hb2);(try clear hk);(try clear hi)));try go_wp2_with (first|(go_at_call 94;(with_reducible refine (cmd_Sub.calls a0_1 a0_2 a0_3 a0_4 false _ A11.out).mono ?_);rintro e w25 ⟨rfl,hb⟩;have n0_:=Aside0.mk (blk_below (g:=gb104) (o := .cells #[.int .i64 a0_0,.int .i64 a0_1,.int .i64 a0_2,.int .i64 a0_3,.int .i64 a0_4,.int .i64 a0_5,.slice A0_6 l0_6.length c0_6,.int .i64 a0_7] 27 (0,0)) (by (with_reducible repeat (first|refine blk_drewN ?_ _|refine blk_drew ?_|refine blk_alloc ?_ _));exact BK104.out) hb);have n1_:=Aside0.mk (below_step (by repeat (first|(with_reducible first|exact HB.out|apply below_alloc|apply pw_below_drewN|apply below_drew1|refine below_set ?_ GE104.out)|exact HB.out)) hb);clear BK104;clear HB;have BK104:=n0_;have HB:=n1_;clear n0_ n1_;(try clear hb);(try clear hb2);(try clear hk);(try clear hi))))
            go_ret
            exact ⟨by first|rfl|(simp [errW_none,errW_some]<;>rfl)|(simp [*,errW_none,errW_some]<;>rfl),by repeat (first|(with_reducible first|exact HB.out|apply below_alloc|apply pw_below_drewN|apply below_drew1|refine below_set ?_ GE104.out)|exact HB.out)⟩
        · rw [if_neg c10] at H
          have c10b0:(a0_0 == 1)=false:=beq_eq_false_iff_ne.mpr c10
          have c10b1:(a0_0 != 1)=true:=bne_iff_ne.mpr c10
          by_cases c26:a0_0=2
          · rw [if_pos c26] at H
            have c26b0:(a0_0 == 2)=true:=beq_iff_eq.mpr c26
            have c26b1:(a0_0 != 2)=false:=bne_eq_false_iff_eq.mpr c26
            clear c26
            by_cases c27:(a0_1 == a0_7&&(a0_3 == 0&&(a0_4 == 0)))=true
            · rw [if_pos c27] at H
              have c27b0:(a0_1 == a0_7&&(a0_3 == 0&&(a0_4 == 0)))=true:=c27
              (try (have c27b1:decide (a0_1=a0_7&&(a0_3 == 0&&(a0_4 == 0)))=true:=by simpa using c27))
              (try (have c27b2:(a0_1 == a0_7&&(a0_3 == 0&&(a0_4 == 0)))=true:=by simpa using c27))
              clear c27
              replace H:=Option.bind_eq_some_iff.mp H
              obtain ⟨t107,A280,H⟩:=H
              replace H:(if t107=true then (if (a0_5 == 0)=true then (some ((l0_6.length:Int) == 0)) else (some false)) else (some false))=some r:=H
              have A28:=Aside0.mk A280
              clear A280
              by_cases c29:t107=true
              · subst c29
                have H1:(if (a0_5 == 0)=true then (some ((l0_6.length:Int) == 0)) else (some false))=some r:=by rw [if_pos rfl] at H;exact H
                clear H
                have H:=H1
                clear H1
                by_cases c30:(a0_5 == 0)=true
                · rw [if_pos c30] at H
                  have c30b0:(a0_5 == 0)=true:=c30
                  (try (have c30b1:decide (a0_5=0)=true:=by simpa using c30))
                  (try (have c30b2:(a0_5 == 0)=true:=by simpa using c30))
                  clear c30
                  obtain rfl:=Option.some.inj H
                  have hcz31_0:wc.cell? ⟨gb104,0,none⟩=some (.int .i64 a0_0):=(blk_cell BK104.out 0).trans rfl
                  have hcz31_1:wc.cell? ⟨gb104,1,none⟩=some (.int .i64 a0_1):=(blk_cell BK104.out 1).trans rfl
                  have hcz31_2:wc.cell? ⟨gb104,2,none⟩=some (.int .i64 a0_2):=(blk_cell BK104.out 2).trans rfl
                  have hcz31_3:wc.cell? ⟨gb104,3,none⟩=some (.int .i64 a0_3):=(blk_cell BK104.out 3).trans rfl
                  have hcz31_4:wc.cell? ⟨gb104,4,none⟩=some (.int .i64 a0_4):=(blk_cell BK104.out 4).trans rfl
                  have hcz31_5:wc.cell? ⟨gb104,5,none⟩=some (.int .i64 a0_5):=(blk_cell BK104.out 5).trans rfl
                  have hcz31_6:wc.cell? ⟨gb104,6,none⟩=some (.slice A0_6 l0_6.length c0_6):=(blk_cell BK104.out 6).trans rfl
                  have hcz31_7:wc.cell? ⟨gb104,7,none⟩=some (.int .i64 a0_7):=(blk_cell BK104.out 7).trans rfl
                  have hfz31_0:=blk_frozen BK104.out 0
                  have hfz31_1:=blk_frozen BK104.out 1
                  have hfz31_2:=blk_frozen BK104.out 2
                  have hfz31_3:=blk_frozen BK104.out 3
                  have hfz31_4:=blk_frozen BK104.out 4
                  have hfz31_5:=blk_frozen BK104.out 5
                  have hfz31_6:=blk_frozen BK104.out 6
                  have hfz31_7:=blk_frozen BK104.out 7
                  go_wp2_with (first|(go_at_call 95;(with_reducible refine (cmd_Sensor.calls a0_2 true _ A28.out).mono ?_);rintro e w' ⟨rfl,⟨nd,rfl⟩⟩;(try first|exact ⟨rfl,_,World.drewN_drewN _ _ _⟩|exact ⟨rfl,_,Eq.trans (World.drewN_drewN _ _ _) (congrArg (World.drewN _) (Nat.add_assoc _ _ _))⟩)))
                  repeat (go_quiet (first|(go_at_call 95;(with_reducible refine (cmd_Sensor.calls a0_2 true _ A28.out).mono ?_);rintro e w' ⟨rfl,⟨nd,rfl⟩⟩;(try first|exact ⟨rfl,_,World.drewN_drewN _ _ _⟩|exact ⟨rfl,_,Eq.trans (World.drewN_drewN _ _ _) (congrArg (World.drewN _) (Nat.add_assoc _ _ _))⟩)));try go_wp2_with (first|(go_at_call 95;(with_reducible refine (cmd_Sensor.calls a0_2 true _ A28.out).mono ?_);rintro e w' ⟨rfl,⟨nd,rfl⟩⟩;(try first|exact ⟨rfl,_,World.drewN_drewN _ _ _⟩|exact ⟨rfl,_,Eq.trans (World.drewN_drewN _ _ _) (congrArg (World.drewN _) (Nat.add_assoc _ _ _))⟩))))
                  go_ret
                  exact ⟨by first|rfl|(simp [errW_none,errW_some]<;>rfl)|(simp [*,errW_none,errW_some]<;>rfl),by repeat (first|(with_reducible first|exact HB.out|apply below_alloc|apply pw_below_drewN|apply below_drew1|refine below_set ?_ GE104.out)|exact HB.out)⟩
                · rw [if_neg c30] at H
                  have c30b0:(a0_5 == 0)=false:=by simpa using c30
                  (try (have c30b1:decide (a0_5=0)=false:=by simpa using c30))
                  (try (have c30b2:(a0_5 == 0)=false:=by simpa using c30))
                  (try (have c30b3:¬ (a0_5=0):=by simpa using c30))
                  clear c30
                  obtain rfl:=Option.some.inj H
                  have hcz32_0:wc.cell? ⟨gb104,0,none⟩=some (.int .i64 a0_0):=(blk_cell BK104.out 0).trans rfl
                  have hcz32_1:wc.cell? ⟨gb104,1,none⟩=some (.int .i64 a0_1):=(blk_cell BK104.out 1).trans rfl
                  have hcz32_2:wc.cell? ⟨gb104,2,none⟩=some (.int .i64 a0_2):=(blk_cell BK104.out 2).trans rfl
                  have hcz32_3:wc.cell? ⟨gb104,3,none⟩=some (.int .i64 a0_3):=(blk_cell BK104.out 3).trans rfl
                  have hcz32_4:wc.cell? ⟨gb104,4,none⟩=some (.int .i64 a0_4):=(blk_cell BK104.out 4).trans rfl
                  have hcz32_5:wc.cell? ⟨gb104,5,none⟩=some (.int .i64 a0_5):=(blk_cell BK104.out 5).trans rfl
                  have hcz32_6:wc.cell? ⟨gb104,6,none⟩=some (.slice A0_6 l0_6.length c0_6):=(blk_cell BK104.out 6).trans rfl
                  have hcz32_7:wc.cell? ⟨gb104,7,none⟩=some (.int .i64 a0_7):=(blk_cell BK104.out 7).trans rfl
                  have hfz32_0:=blk_frozen BK104.out 0
                  have hfz32_1:=blk_frozen BK104.out 1
                  have hfz32_2:=blk_frozen BK104.out 2
                  have hfz32_3:=blk_frozen BK104.out 3
                  have hfz32_4:=blk_frozen BK104.out 4
                  have hfz32_5:=blk_frozen BK104.out 5
                  have hfz32_6:=blk_frozen BK104.out 6
                  have hfz32_7:=blk_frozen BK104.out 7
                  go_wp2_with (first|(go_at_call 95;(with_reducible refine (cmd_Sensor.calls a0_2 true _ A28.out).mono ?_);rintro e w' ⟨rfl,⟨nd,rfl⟩⟩;(try first|exact ⟨rfl,_,World.drewN_drewN _ _ _⟩|exact ⟨rfl,_,Eq.trans (World.drewN_drewN _ _ _) (congrArg (World.drewN _) (Nat.add_assoc _ _ _))⟩)))
                  repeat (go_quiet (first|(go_at_call 95;(with_reducible refine (cmd_Sensor.calls a0_2 true _ A28.out).mono ?_);rintro e w' ⟨rfl,⟨nd,rfl⟩⟩;(try first|exact ⟨rfl,_,World.drewN_drewN _ _ _⟩|exact ⟨rfl,_,Eq.trans (World.drewN_drewN _ _ _) (congrArg (World.drewN _) (Nat.add_assoc _ _ _))⟩)));try go_wp2_with (first|(go_at_call 95;(with_reducible refine (cmd_Sensor.calls a0_2 true _ A28.out).mono ?_);rintro e w' ⟨rfl,⟨nd,rfl⟩⟩;(try first|exact ⟨rfl,_,World.drewN_drewN _ _ _⟩|exact ⟨rfl,_,Eq.trans (World.drewN_drewN _ _ _) (congrArg (World.drewN _) (Nat.add_assoc _ _ _))⟩))))
                  go_ret
                  exact ⟨by first|rfl|(simp [errW_none,errW_some]<;>rfl)|(simp [*,errW_none,errW_some]<;>rfl),by repeat (first|(with_reducible first|exact HB.out|apply below_alloc|apply pw_below_drewN|apply below_drew1|refine below_set ?_ GE104.out)|exact HB.out)⟩
              · replace c29:=Bool.eq_false_iff.mpr c29
                subst c29
                have H1:(some false)=some r:=by rw [if_neg (show ¬ (false=true) by decide)] at H;exact H
                clear H
                have H:=H1
                clear H1
                obtain rfl:=Option.some.inj H
                have hcz33_0:wc.cell? ⟨gb104,0,none⟩=some (.int .i64 a0_0):=(blk_cell BK104.out 0).trans rfl
                have hcz33_1:wc.cell? ⟨gb104,1,none⟩=some (.int .i64 a0_1):=(blk_cell BK104.out 1).trans rfl
                have hcz33_2:wc.cell? ⟨gb104,2,none⟩=some (.int .i64 a0_2):=(blk_cell BK104.out 2).trans rfl
                have hcz33_3:wc.cell? ⟨gb104,3,none⟩=some (.int .i64 a0_3):=(blk_cell BK104.out 3).trans rfl
                have hcz33_4:wc.cell? ⟨gb104,4,none⟩=some (.int .i64 a0_4):=(blk_cell BK104.out 4).trans rfl
                have hcz33_5:wc.cell? ⟨gb104,5,none⟩=some (.int .i64 a0_5):=(blk_cell BK104.out 5).trans rfl
                have hcz33_6:wc.cell? ⟨gb104,6,none⟩=some (.slice A0_6 l0_6.length c0_6):=(blk_cell BK104.out 6).trans rfl
                have hcz33_7:wc.cell? ⟨gb104,7,none⟩=some (.int .i64 a0_7):=(blk_cell BK104.out 7).trans rfl
                have hfz33_0:=blk_frozen BK104.out 0
                have hfz33_1:=blk_frozen BK104.out 1
                have hfz33_2:=blk_frozen BK104.out 2
                have hfz33_3:=blk_frozen BK104.out 3
                have hfz33_4:=blk_frozen BK104.out 4
                have hfz33_5:=blk_frozen BK104.out 5
                have hfz33_6:=blk_frozen BK104.out 6
                have hfz33_7:=blk_frozen BK104.out 7
                go_wp2_with (first|(go_at_call 95;(with_reducible refine (cmd_Sensor.calls a0_2 false _ A28.out).mono ?_);rintro e w' ⟨rfl,⟨nd,rfl⟩⟩;(try first|exact ⟨rfl,_,World.drewN_drewN _ _ _⟩|exact ⟨rfl,_,Eq.trans (World.drewN_drewN _ _ _) (congrArg (World.drewN _) (Nat.add_assoc _ _ _))⟩)))
                repeat (go_quiet (first|(go_at_call 95;(with_reducible refine (cmd_Sensor.calls a0_2 false _ A28.out).mono ?_);rintro e w' ⟨rfl,⟨nd,rfl⟩⟩;(try first|exact ⟨rfl,_,World.drewN_drewN _ _ _⟩|exact ⟨rfl,_,Eq.trans (World.drewN_drewN _ _ _) (congrArg (World.drewN _) (Nat.add_assoc _ _ _))⟩)));try go_wp2_with (first|(go_at_call 95;(with_reducible refine (cmd_Sensor.calls a0_2 false _ A28.out).mono ?_);rintro e w' ⟨rfl,⟨nd,rfl⟩⟩;(try first|exact ⟨rfl,_,World.drewN_drewN _ _ _⟩|exact ⟨rfl,_,Eq.trans (World.drewN_drewN _ _ _) (congrArg (World.drewN _) (Nat.add_assoc _ _ _))⟩))))
                go_ret
                exact ⟨by first|rfl|(simp [errW_none,errW_some]<;>rfl)|(simp [*,errW_none,errW_some]<;>rfl),by repeat (first|(with_reducible first|exact HB.out|apply below_alloc|apply pw_below_drewN|apply below_drew1|refine below_set ?_ GE104.out)|exact HB.out)⟩
            · rw [if_neg c27] at H
              have c27b0:(a0_1 == a0_7&&(a0_3 == 0&&(a0_4 == 0)))=false:=by simpa using c27
              (try (have c27b1:decide (a0_1=a0_7&&(a0_3 == 0&&(a0_4 == 0)))=false:=by simpa using c27))
              (try (have c27b2:(a0_1 == a0_7&&(a0_3 == 0&&(a0_4 == 0)))=false:=by simpa using c27))
              (try (have c27b3:¬ (a0_1=a0_7&&(a0_3 == 0&&(a0_4 == 0))):=by simpa using c27))
              clear c27
              obtain rfl:=Option.some.inj H
              have hcz34_0:wc.cell? ⟨gb104,0,none⟩=some (.int .i64 a0_0):=(blk_cell BK104.out 0).trans rfl
              have hcz34_1:wc.cell? ⟨gb104,1,none⟩=some (.int .i64 a0_1):=(blk_cell BK104.out 1).trans rfl
              have hcz34_2:wc.cell? ⟨gb104,2,none⟩=some (.int .i64 a0_2):=(blk_cell BK104.out 2).trans rfl
              have hcz34_3:wc.cell? ⟨gb104,3,none⟩=some (.int .i64 a0_3):=(blk_cell BK104.out 3).trans rfl
              have hcz34_4:wc.cell? ⟨gb104,4,none⟩=some (.int .i64 a0_4):=(blk_cell BK104.out 4).trans rfl
              have hcz34_5:wc.cell? ⟨gb104,5,none⟩=some (.int .i64 a0_5):=(blk_cell BK104.out 5).trans rfl
              have hcz34_6:wc.cell? ⟨gb104,6,none⟩=some (.slice A0_6 l0_6.length c0_6):=(blk_cell BK104.out 6).trans rfl
              have hcz34_7:wc.cell? ⟨gb104,7,none⟩=some (.int .i64 a0_7):=(blk_cell BK104.out 7).trans rfl
              have hfz34_0:=blk_frozen BK104.out 0
              have hfz34_1:=blk_frozen BK104.out 1
              have hfz34_2:=blk_frozen BK104.out 2
              have hfz34_3:=blk_frozen BK104.out 3
              have hfz34_4:=blk_frozen BK104.out 4
              have hfz34_5:=blk_frozen BK104.out 5
              have hfz34_6:=blk_frozen BK104.out 6
              have hfz34_7:=blk_frozen BK104.out 7
              go_wp2
              repeat (go_quiet (fail);try go_wp2)
              go_ret
              exact ⟨by first|rfl|(simp [errW_none,errW_some]<;>rfl)|(simp [*,errW_none,errW_some]<;>rfl),by repeat (first|(with_reducible first|exact HB.out|apply below_alloc|apply pw_below_drewN|apply below_drew1|refine below_set ?_ GE104.out)|exact HB.out)⟩
          · rw [if_neg c26] at H
            have c26b0:(a0_0 == 2)=false:=beq_eq_false_iff_ne.mpr c26
            have c26b1:(a0_0 != 2)=true:=bne_iff_ne.mpr c26
            have HC35:=Aside0.mk H
            clear H
            have hcz36_0:wc.cell? ⟨gb104,0,none⟩=some (.int .i64 a0_0):=(blk_cell BK104.out 0).trans rfl
            have hcz36_1:wc.cell? ⟨gb104,1,none⟩=some (.int .i64 a0_1):=(blk_cell BK104.out 1).trans rfl
            have hcz36_2:wc.cell? ⟨gb104,2,none⟩=some (.int .i64 a0_2):=(blk_cell BK104.out 2).trans rfl
            have hcz36_3:wc.cell? ⟨gb104,3,none⟩=some (.int .i64 a0_3):=(blk_cell BK104.out 3).trans rfl
            have hcz36_4:wc.cell? ⟨gb104,4,none⟩=some (.int .i64 a0_4):=(blk_cell BK104.out 4).trans rfl
            have hcz36_5:wc.cell? ⟨gb104,5,none⟩=some (.int .i64 a0_5):=(blk_cell BK104.out 5).trans rfl
            have hcz36_6:wc.cell? ⟨gb104,6,none⟩=some (.slice A0_6 l0_6.length c0_6):=(blk_cell BK104.out 6).trans rfl
            have hcz36_7:wc.cell? ⟨gb104,7,none⟩=some (.int .i64 a0_7):=(blk_cell BK104.out 7).trans rfl
            have hfz36_0:=blk_frozen BK104.out 0
            have hfz36_1:=blk_frozen BK104.out 1
            have hfz36_2:=blk_frozen BK104.out 2
            have hfz36_3:=blk_frozen BK104.out 3
            have hfz36_4:=blk_frozen BK104.out 4
            have hfz36_5:=blk_frozen BK104.out 5
            have hfz36_6:=blk_frozen BK104.out 6
            have hfz36_7:=blk_frozen BK104.out 7
            go_upto_if 74 with (fail)
            repeat (go_quiet (fail);go_upto_if 74 with (fail))
            go_cut [74] (fun v74 wc=>∃ (kq:Nat) (x74_34:Bool),v74 = .bool x74_34∧Aside0 (cmd_good.j1 kq (a0_1 == 0&&(a0_2 == 0&&(a0_3 == 0&&(a0_4 == 0)))) (a0_5 == 0) ((l0_6.length:Int) == 0) x6_3 a0_0 x74_34 a0_0 a0_1 a0_2 a0_3 a0_4 a0_5 l0_6 a0_7=some r)∧Aside0 (kq≤kj3)∧Aside0 (wc.heap[gb104]?=some (.cells #[.int .i64 a0_0,.int .i64 a0_1,.int .i64 a0_2,.int .i64 a0_3,.int .i64 a0_4,.int .i64 a0_5,(.slice A0_6 l0_6.length c0_6),.int .i64 a0_7] 27 (0,0)))∧Aside0 (Below w.heap.size w wc))
            case first =>
              have H:=HC35.out
              clear HC35
              by_cases c37:a0_0=3
              · rw [if_pos c37] at H
                have c37b0:(a0_0 == 3)=true:=beq_iff_eq.mpr c37
                have c37b1:(a0_0 != 3)=false:=bne_eq_false_iff_eq.mpr c37
                clear c37
                (first|rw [c37b0]|(simp only [i64_w,i32_w];rw [c37b0])|skip)
                have H':=Aside0.mk H
                clear H
                go_wp2
                repeat (go_quiet (fail);try go_wp2)
                go_meet
                case rel=>exact ⟨_,((a0_0 == 3)),(by first|rfl|(simp;done)|(simp [*];done)),H',⟨by have:=HJ3.out;first|omega|exact Nat.le_refl _⟩,⟨by (with_reducible repeat (first|refine blk_drewN ?_ _|refine blk_drew ?_|refine blk_alloc ?_ _));exact BK104.out⟩,⟨by repeat (first|(with_reducible first|exact HB.out|apply below_alloc|apply pw_below_drewN|apply below_drew1|refine below_set ?_ GE104.out)|exact HB.out)⟩⟩
              · rw [if_neg c37] at H
                have c37b0:(a0_0 == 3)=false:=beq_eq_false_iff_ne.mpr c37
                have c37b1:(a0_0 != 3)=true:=bne_iff_ne.mpr c37
                (first|rw [c37b0]|(simp only [i64_w,i32_w];rw [c37b0])|skip)
                have H':=Aside0.mk H
                clear H
                go_wp2
                repeat (go_quiet (fail);try go_wp2)
                go_meet
                case rel=>exact ⟨_,((a0_0 == 6)),(by first|rfl|(simp;done)|(simp [*];done)),H',⟨by have:=HJ3.out;first|omega|exact Nat.le_refl _⟩,⟨by (with_reducible repeat (first|refine blk_drewN ?_ _|refine blk_drew ?_|refine blk_alloc ?_ _));exact BK104.out⟩,⟨by repeat (first|(with_reducible first|exact HB.out|apply below_alloc|apply pw_below_drewN|apply below_drew1|refine below_set ?_ GE104.out)|exact HB.out)⟩⟩
            case rest =>
              clear HC35
              try clear c1
              try clear c2
              try clear p2
              try clear c3
              try clear c7
              try clear c7b0
              try clear c10
              try clear c10b0
              try clear c10b1
              try clear c12
              try clear c13
              try clear c13b0
              try clear c13b1
              try clear c14
              try clear c14b0
              try clear c14b1
              try clear c14b2
              try clear c26
              try clear c26b0
              try clear c26b1
              try clear c27
              try clear c27b0
              try clear c27b1
              try clear c27b2
              try clear c29
              try clear c30
              try clear c30b0
              try clear c30b1
              try clear c30b2
              try clear c37
              try clear c37b0
              try clear c37b1
              try clear hcz15_0
              try clear hcz15_1
              try clear hcz15_2
              try clear hcz15_3
              try clear hcz15_4
              try clear hcz15_5
              try clear hcz15_6
              try clear hcz15_7
              try clear hcz17_0
              try clear hcz17_1
              try clear hcz17_2
              try clear hcz17_3
              try clear hcz17_4
              try clear hcz17_5
              try clear hcz17_6
              try clear hcz17_7
              try clear hcz18_0
              try clear hcz18_1
              try clear hcz18_2
              try clear hcz18_3
              try clear hcz18_4
              try clear hcz18_5
              try clear hcz18_6
              try clear hcz18_7
              try clear hcz20_0
              try clear hcz20_1
              try clear hcz20_2
              try clear hcz20_3
              try clear hcz20_4
              try clear hcz20_5
              try clear hcz20_6
              try clear hcz20_7
              try clear hcz21_0
              try clear hcz21_1
              try clear hcz21_2
              try clear hcz21_3
              try clear hcz21_4
              try clear hcz21_5
              try clear hcz21_6
              try clear hcz21_7
              try clear hcz23_0
              try clear hcz23_1
              try clear hcz23_2
              try clear hcz23_3
              try clear hcz23_4
              try clear hcz23_5
              try clear hcz23_6
              try clear hcz23_7
              try clear hcz24_0
              try clear hcz24_1
              try clear hcz24_2
              try clear hcz24_3
              try clear hcz24_4
              try clear hcz24_5
              try clear hcz24_6
              try clear hcz24_7
              try clear hcz31_0
              try clear hcz31_1
              try clear hcz31_2
              try clear hcz31_3
              try clear hcz31_4
              try clear hcz31_5
              try clear hcz31_6
              try clear hcz31_7
              try clear hcz32_0
              try clear hcz32_1
              try clear hcz32_2
              try clear hcz32_3
              try clear hcz32_4
              try clear hcz32_5
              try clear hcz32_6
              try clear hcz32_7
              try clear hcz33_0
              try clear hcz33_1
              try clear hcz33_2
              try clear hcz33_3
              try clear hcz33_4
              try clear hcz33_5
              try clear hcz33_6
              try clear hcz33_7
              try clear hcz34_0
              try clear hcz34_1
              try clear hcz34_2
              try clear hcz34_3
              try clear hcz34_4
              try clear hcz34_5
              try clear hcz34_6
              try clear hcz34_7
              try clear hcz36_0
              try clear hcz36_1
              try clear hcz36_2
              try clear hcz36_3
              try clear hcz36_4
              try clear hcz36_5
              try clear hcz36_6
              try clear hcz36_7
              try clear hcz6_0
              try clear hcz6_1
              try clear hcz6_2
              try clear hcz6_3
              try clear hcz6_4
              try clear hcz6_5
              try clear hcz6_6
              try clear hcz6_7
              try clear hcz8_0
              try clear hcz8_1
              try clear hcz8_2
              try clear hcz8_3
              try clear hcz8_4
              try clear hcz8_5
              try clear hcz8_6
              try clear hcz8_7
              try clear hcz9_0
              try clear hcz9_1
              try clear hcz9_2
              try clear hcz9_3
              try clear hcz9_4
              try clear hcz9_5
              try clear hcz9_6
              try clear hcz9_7
              try clear hfz15_0
              try clear hfz15_1
              try clear hfz15_2
              try clear hfz15_3
              try clear hfz15_4
              try clear hfz15_5
              try clear hfz15_6
              try clear hfz15_7
              try clear hfz17_0
              try clear hfz17_1
              try clear hfz17_2
              try clear hfz17_3
              try clear hfz17_4
              try clear hfz17_5
              try clear hfz17_6
              try clear hfz17_7
              try clear hfz18_0
              try clear hfz18_1
              try clear hfz18_2
              try clear hfz18_3
              try clear hfz18_4
              try clear hfz18_5
              try clear hfz18_6
              try clear hfz18_7
              try clear hfz20_0
              try clear hfz20_1
              try clear hfz20_2
              try clear hfz20_3
              try clear hfz20_4
              try clear hfz20_5
              try clear hfz20_6
              try clear hfz20_7
              try clear hfz21_0
              try clear hfz21_1
              try clear hfz21_2
              try clear hfz21_3
              try clear hfz21_4
              try clear hfz21_5
              try clear hfz21_6
              try clear hfz21_7
              try clear hfz23_0
              try clear hfz23_1
              try clear hfz23_2
              try clear hfz23_3
              try clear hfz23_4
              try clear hfz23_5
              try clear hfz23_6
              try clear hfz23_7
              try clear hfz24_0
              try clear hfz24_1
              try clear hfz24_2
              try clear hfz24_3
              try clear hfz24_4
              try clear hfz24_5
              try clear hfz24_6
              try clear hfz24_7
              try clear hfz31_0
              try clear hfz31_1
              try clear hfz31_2
              try clear hfz31_3
              try clear hfz31_4
              try clear hfz31_5
              try clear hfz31_6
              try clear hfz31_7
              try clear hfz32_0
              try clear hfz32_1
              try clear hfz32_2
              try clear hfz32_3
              try clear hfz32_4
              try clear hfz32_5
              try clear hfz32_6
              try clear hfz32_7
              try clear hfz33_0
              try clear hfz33_1
              try clear hfz33_2
              try clear hfz33_3
              try clear hfz33_4
              try clear hfz33_5
              try clear hfz33_6
              try clear hfz33_7
              try clear hfz34_0
              try clear hfz34_1
              try clear hfz34_2
              try clear hfz34_3
              try clear hfz34_4
              try clear hfz34_5
              try clear hfz34_6
              try clear hfz34_7
              try clear hfz36_0
              try clear hfz36_1
              try clear hfz36_2
              try clear hfz36_3
              try clear hfz36_4
              try clear hfz36_5
              try clear hfz36_6
              try clear hfz36_7
              try clear hfz6_0
              try clear hfz6_1
              try clear hfz6_2
              try clear hfz6_3
              try clear hfz6_4
              try clear hfz6_5
              try clear hfz6_6
              try clear hfz6_7
              try clear hfz8_0
              try clear hfz8_1
              try clear hfz8_2
              try clear hfz8_3
              try clear hfz8_4
              try clear hfz8_5
              try clear hfz8_6
              try clear hfz8_7
              try clear hfz9_0
              try clear hfz9_1
              try clear hfz9_2
              try clear hfz9_3
              try clear hfz9_4
              try clear hfz9_5
              try clear hfz9_6
              try clear hfz9_7
              try clear p2
              obtain ⟨kq,x74_34,rfl,HA,HJ34,BK104,HB⟩:=hcut
              cases kq with
              | zero=>exact absurd HA.out (by simp [cmd_good.j1])
              | succ kj34 =>
                have H:=HA.out
                clear HA
                simp only [cmd_good.j1] at H
                by_cases c38:x74_34=true
                · subst c38
                  have H1:(if (a0_1 == 0&&(a0_2 == 0&&(a0_3 == 0&&(a0_4 == 0))))=true then (if (a0_5 == 0)=true then (some ((l0_6.length:Int) == 0)) else (some false)) else (some false))=some r:=by rw [if_pos rfl] at H;exact H
                  clear H
                  have H:=H1
                  clear H1
                  by_cases c39:(a0_1 == 0&&(a0_2 == 0&&(a0_3 == 0&&(a0_4 == 0))))=true
                  · rw [if_pos c39] at H
                    have c39b0:(a0_1 == 0&&(a0_2 == 0&&(a0_3 == 0&&(a0_4 == 0))))=true:=c39
                    (try (have c39b1:decide (a0_1=0&&(a0_2 == 0&&(a0_3 == 0&&(a0_4 == 0))))=true:=by simpa using c39))
                    (try (have c39b2:(a0_1 == 0&&(a0_2 == 0&&(a0_3 == 0&&(a0_4 == 0))))=true:=by simpa using c39))
                    clear c39
                    by_cases c40:(a0_5 == 0)=true
                    · rw [if_pos c40] at H
                      have c40b0:(a0_5 == 0)=true:=c40
                      (try (have c40b1:decide (a0_5=0)=true:=by simpa using c40))
                      (try (have c40b2:(a0_5 == 0)=true:=by simpa using c40))
                      clear c40
                      obtain rfl:=Option.some.inj H
                      go_wp2
                      repeat (go_quiet (fail);try go_wp2)
                      go_ret
                      exact ⟨by first|rfl|(simp [errW_none,errW_some]<;>rfl)|(simp [*,errW_none,errW_some]<;>rfl),by repeat (first|(with_reducible first|exact HB.out|apply below_alloc|apply pw_below_drewN|apply below_drew1|refine below_set ?_ GE104.out)|exact HB.out)⟩
                    · rw [if_neg c40] at H
                      have c40b0:(a0_5 == 0)=false:=by simpa using c40
                      (try (have c40b1:decide (a0_5=0)=false:=by simpa using c40))
                      (try (have c40b2:(a0_5 == 0)=false:=by simpa using c40))
                      (try (have c40b3:¬ (a0_5=0):=by simpa using c40))
                      clear c40
                      obtain rfl:=Option.some.inj H
                      go_wp2
                      repeat (go_quiet (fail);try go_wp2)
                      go_ret
                      exact ⟨by first|rfl|(simp [errW_none,errW_some]<;>rfl)|(simp [*,errW_none,errW_some]<;>rfl),by repeat (first|(with_reducible first|exact HB.out|apply below_alloc|apply pw_below_drewN|apply below_drew1|refine below_set ?_ GE104.out)|exact HB.out)⟩
                  · rw [if_neg c39] at H
                    have c39b0:(a0_1 == 0&&(a0_2 == 0&&(a0_3 == 0&&(a0_4 == 0))))=false:=by simpa using c39
                    (try (have c39b1:decide (a0_1=0&&(a0_2 == 0&&(a0_3 == 0&&(a0_4 == 0))))=false:=by simpa using c39))
                    (try (have c39b2:(a0_1 == 0&&(a0_2 == 0&&(a0_3 == 0&&(a0_4 == 0))))=false:=by simpa using c39))
                    (try (have c39b3:¬ (a0_1=0&&(a0_2 == 0&&(a0_3 == 0&&(a0_4 == 0)))):=by simpa using c39))
                    clear c39
                    obtain rfl:=Option.some.inj H
                    go_wp2
                    repeat (go_quiet (fail);try go_wp2)
                    go_ret
                    exact ⟨by first|rfl|(simp [errW_none,errW_some]<;>rfl)|(simp [*,errW_none,errW_some]<;>rfl),by repeat (first|(with_reducible first|exact HB.out|apply below_alloc|apply pw_below_drewN|apply below_drew1|refine below_set ?_ GE104.out)|exact HB.out)⟩
                · replace c38:=Bool.eq_false_iff.mpr c38
                  subst c38
                  have H1:(if a0_0=4 then (if (a0_1 == 0&&(a0_2 == 0&&(a0_3 == 0&&(a0_4 == 0))))=true then (if x6_3=true then (some (decide ((l0_6.length:Int)≤24))) else (some false)) else (some false)) else (if a0_0=5 then (if (a0_1 == 0&&(a0_2 == 0&&(a0_3 == 0&&(a0_4 == 0))))=true then (if x6_3=true then (some ((l0_6.length:Int) == 0)) else (some false)) else (some false)) else (some false)))=some r:=by rw [if_neg (show ¬ (false=true) by decide)] at H;exact H
                  clear H
                  have H:=H1
                  clear H1
                  by_cases c41:a0_0=4
                  · rw [if_pos c41] at H
                    have c41b0:(a0_0 == 4)=true:=beq_iff_eq.mpr c41
                    have c41b1:(a0_0 != 4)=false:=bne_eq_false_iff_eq.mpr c41
                    clear c41
                    by_cases c42:(a0_1 == 0&&(a0_2 == 0&&(a0_3 == 0&&(a0_4 == 0))))=true
                    · rw [if_pos c42] at H
                      have c42b0:(a0_1 == 0&&(a0_2 == 0&&(a0_3 == 0&&(a0_4 == 0))))=true:=c42
                      (try (have c42b1:decide (a0_1=0&&(a0_2 == 0&&(a0_3 == 0&&(a0_4 == 0))))=true:=by simpa using c42))
                      (try (have c42b2:(a0_1 == 0&&(a0_2 == 0&&(a0_3 == 0&&(a0_4 == 0))))=true:=by simpa using c42))
                      clear c42
                      by_cases c43:x6_3=true
                      · subst c43
                        have H1:(some (decide ((l0_6.length:Int)≤24)))=some r:=by rw [if_pos rfl] at H;exact H
                        clear H
                        have H:=H1
                        clear H1
                        obtain rfl:=Option.some.inj H
                        have hcz44_0:wc.cell? ⟨gb104,0,none⟩=some (.int .i64 a0_0):=(blk_cell BK104.out 0).trans rfl
                        have hcz44_1:wc.cell? ⟨gb104,1,none⟩=some (.int .i64 a0_1):=(blk_cell BK104.out 1).trans rfl
                        have hcz44_2:wc.cell? ⟨gb104,2,none⟩=some (.int .i64 a0_2):=(blk_cell BK104.out 2).trans rfl
                        have hcz44_3:wc.cell? ⟨gb104,3,none⟩=some (.int .i64 a0_3):=(blk_cell BK104.out 3).trans rfl
                        have hcz44_4:wc.cell? ⟨gb104,4,none⟩=some (.int .i64 a0_4):=(blk_cell BK104.out 4).trans rfl
                        have hcz44_5:wc.cell? ⟨gb104,5,none⟩=some (.int .i64 a0_5):=(blk_cell BK104.out 5).trans rfl
                        have hcz44_6:wc.cell? ⟨gb104,6,none⟩=some (.slice A0_6 l0_6.length c0_6):=(blk_cell BK104.out 6).trans rfl
                        have hcz44_7:wc.cell? ⟨gb104,7,none⟩=some (.int .i64 a0_7):=(blk_cell BK104.out 7).trans rfl
                        have hfz44_0:=blk_frozen BK104.out 0
                        have hfz44_1:=blk_frozen BK104.out 1
                        have hfz44_2:=blk_frozen BK104.out 2
                        have hfz44_3:=blk_frozen BK104.out 3
                        have hfz44_4:=blk_frozen BK104.out 4
                        have hfz44_5:=blk_frozen BK104.out 5
                        have hfz44_6:=blk_frozen BK104.out 6
                        have hfz44_7:=blk_frozen BK104.out 7
                        go_wp2
                        repeat (go_quiet (fail);try go_wp2)
                        go_ret
                        exact ⟨by first|rfl|(simp [errW_none,errW_some]<;>rfl)|(simp [*,errW_none,errW_some]<;>rfl),by repeat (first|(with_reducible first|exact HB.out|apply below_alloc|apply pw_below_drewN|apply below_drew1|refine below_set ?_ GE104.out)|exact HB.out)⟩
                      · replace c43:=Bool.eq_false_iff.mpr c43
                        subst c43
                        have H1:(some false)=some r:=by rw [if_neg (show ¬ (false=true) by decide)] at H;exact H
                        clear H
                        have H:=H1
                        clear H1
                        obtain rfl:=Option.some.inj H
                        go_wp2
                        repeat (go_quiet (fail);try go_wp2)
                        go_ret
                        exact ⟨by first|rfl|(simp [errW_none,errW_some]<;>rfl)|(simp [*,errW_none,errW_some]<;>rfl),by repeat (first|(with_reducible first|exact HB.out|apply below_alloc|apply pw_below_drewN|apply below_drew1|refine below_set ?_ GE104.out)|exact HB.out)⟩
                    · rw [if_neg c42] at H
                      have c42b0:(a0_1 == 0&&(a0_2 == 0&&(a0_3 == 0&&(a0_4 == 0))))=false:=by simpa using c42
                      (try (have c42b1:decide (a0_1=0&&(a0_2 == 0&&(a0_3 == 0&&(a0_4 == 0))))=false:=by simpa using c42))
                      (try (have c42b2:(a0_1 == 0&&(a0_2 == 0&&(a0_3 == 0&&(a0_4 == 0))))=false:=by simpa using c42))
                      (try (have c42b3:¬ (a0_1=0&&(a0_2 == 0&&(a0_3 == 0&&(a0_4 == 0)))):=by simpa using c42))
                      clear c42
                      obtain rfl:=Option.some.inj H
                      go_wp2
                      repeat (go_quiet (fail);try go_wp2)
                      go_ret
                      exact ⟨by first|rfl|(simp [errW_none,errW_some]<;>rfl)|(simp [*,errW_none,errW_some]<;>rfl),by repeat (first|(with_reducible first|exact HB.out|apply below_alloc|apply pw_below_drewN|apply below_drew1|refine below_set ?_ GE104.out)|exact HB.out)⟩
                  · rw [if_neg c41] at H
                    have c41b0:(a0_0 == 4)=false:=beq_eq_false_iff_ne.mpr c41
                    have c41b1:(a0_0 != 4)=true:=bne_iff_ne.mpr c41
                    by_cases c45:a0_0=5
                    · rw [if_pos c45] at H
                      have c45b0:(a0_0 == 5)=true:=beq_iff_eq.mpr c45
                      have c45b1:(a0_0 != 5)=false:=bne_eq_false_iff_eq.mpr c45
                      clear c45
                      by_cases c46:(a0_1 == 0&&(a0_2 == 0&&(a0_3 == 0&&(a0_4 == 0))))=true
                      · rw [if_pos c46] at H
                        have c46b0:(a0_1 == 0&&(a0_2 == 0&&(a0_3 == 0&&(a0_4 == 0))))=true:=c46
                        (try (have c46b1:decide (a0_1=0&&(a0_2 == 0&&(a0_3 == 0&&(a0_4 == 0))))=true:=by simpa using c46))
                        (try (have c46b2:(a0_1 == 0&&(a0_2 == 0&&(a0_3 == 0&&(a0_4 == 0))))=true:=by simpa using c46))
                        clear c46
                        by_cases c47:x6_3=true
                        · subst c47
                          have H1:(some ((l0_6.length:Int) == 0))=some r:=by rw [if_pos rfl] at H;exact H
                          clear H
                          have H:=H1
                          clear H1
                          obtain rfl:=Option.some.inj H
                          go_wp2
                          repeat (go_quiet (fail);try go_wp2)
                          go_ret
                          exact ⟨by first|rfl|(simp [errW_none,errW_some]<;>rfl)|(simp [*,errW_none,errW_some]<;>rfl),by repeat (first|(with_reducible first|exact HB.out|apply below_alloc|apply pw_below_drewN|apply below_drew1|refine below_set ?_ GE104.out)|exact HB.out)⟩
                        · replace c47:=Bool.eq_false_iff.mpr c47
                          subst c47
                          have H1:(some false)=some r:=by rw [if_neg (show ¬ (false=true) by decide)] at H;exact H
                          clear H
                          have H:=H1
                          clear H1
                          obtain rfl:=Option.some.inj H
                          go_wp2
                          repeat (go_quiet (fail);try go_wp2)
                          go_ret
                          exact ⟨by first|rfl|(simp [errW_none,errW_some]<;>rfl)|(simp [*,errW_none,errW_some]<;>rfl),by repeat (first|(with_reducible first|exact HB.out|apply below_alloc|apply pw_below_drewN|apply below_drew1|refine below_set ?_ GE104.out)|exact HB.out)⟩
                      · rw [if_neg c46] at H
                        have c46b0:(a0_1 == 0&&(a0_2 == 0&&(a0_3 == 0&&(a0_4 == 0))))=false:=by simpa using c46
                        (try (have c46b1:decide (a0_1=0&&(a0_2 == 0&&(a0_3 == 0&&(a0_4 == 0))))=false:=by simpa using c46))
                        (try (have c46b2:(a0_1 == 0&&(a0_2 == 0&&(a0_3 == 0&&(a0_4 == 0))))=false:=by simpa using c46))
                        (try (have c46b3:¬ (a0_1=0&&(a0_2 == 0&&(a0_3 == 0&&(a0_4 == 0)))):=by simpa using c46))
                        clear c46
                        obtain rfl:=Option.some.inj H
                        go_wp2
                        repeat (go_quiet (fail);try go_wp2)
                        go_ret
                        exact ⟨by first|rfl|(simp [errW_none,errW_some]<;>rfl)|(simp [*,errW_none,errW_some]<;>rfl),by repeat (first|(with_reducible first|exact HB.out|apply below_alloc|apply pw_below_drewN|apply below_drew1|refine below_set ?_ GE104.out)|exact HB.out)⟩
                    · rw [if_neg c45] at H
                      have c45b0:(a0_0 == 5)=false:=beq_eq_false_iff_ne.mpr c45
                      have c45b1:(a0_0 != 5)=true:=bne_iff_ne.mpr c45
                      obtain rfl:=Option.some.inj H
                      go_wp2
                      repeat (go_quiet (fail);try go_wp2)
                      go_ret
                      exact ⟨by first|rfl|(simp [errW_none,errW_some]<;>rfl)|(simp [*,errW_none,errW_some]<;>rfl),by repeat (first|(with_reducible first|exact HB.out|apply below_alloc|apply pw_below_drewN|apply below_drew1|refine below_set ?_ GE104.out)|exact HB.out)⟩
  · replace c3:=Bool.eq_false_iff.mpr c3
    subst c3
    have H1:(some false)=some r:=by rw [if_neg (show ¬ (false=true) by decide)] at H;exact H
    clear H
    have H:=H1
    clear H1
    obtain rfl:=Option.some.inj H
    go_enter Try.func71,Try.ntmps71
    go_wp2_with (first|((with_reducible refine gate_dst (N:=1) rfl ?_);(try (refine gate_guard (by rfl) ?_;dsimp only));refine box_event ?hg (N:=1) ?hd (cs:=#[.int .i64 a0_0,.int .i64 a0_1,.int .i64 a0_2,.int .i64 a0_3,.int .i64 a0_4,.int .i64 a0_5,.slice A0_6 l0_6.length c0_6,.int .i64 a0_7]) (t:=27) ?hr ?_;(case hd=>rfl);(case hg=>rfl);(case hr=>first|(go_simp;done)|(go_simp;rfl));intro gb104 hg w48 hbox hb;have n0_:=Aside0.mk (below_step (by repeat (first|(with_reducible first|exact HB.out|apply below_alloc|apply pw_below_drewN|apply below_drew1)|exact HB.out)) hb);have n1_:=Aside0.mk (hbox);have n2_:=Aside0.mk ((by rw [hg];exact (below_size (by repeat (first|(with_reducible first|exact HB.out|apply below_alloc|apply pw_below_drewN|apply below_drew1)|exact HB.out))):w.heap.size≤gb104));have n3_:=Aside0.mk ((by rw [hg];exact (below_size (by repeat (first|(with_reducible first|exact HB.out|apply below_alloc|apply pw_below_drewN|apply below_drew1)|exact HB.out))):w.heap.size≤gb104));clear HB;have HB:=n0_;have BK104:=n1_;have GW104:=n2_;have GE104:=n3_;clear n0_ n1_ n2_ n3_;clear hb hbox hg;have hcz49_0:w48.cell? ⟨gb104,0,none⟩=some (.int .i64 a0_0):=(blk_cell BK104.out 0).trans rfl;have hcz49_1:w48.cell? ⟨gb104,1,none⟩=some (.int .i64 a0_1):=(blk_cell BK104.out 1).trans rfl;have hcz49_2:w48.cell? ⟨gb104,2,none⟩=some (.int .i64 a0_2):=(blk_cell BK104.out 2).trans rfl;have hcz49_3:w48.cell? ⟨gb104,3,none⟩=some (.int .i64 a0_3):=(blk_cell BK104.out 3).trans rfl;have hcz49_4:w48.cell? ⟨gb104,4,none⟩=some (.int .i64 a0_4):=(blk_cell BK104.out 4).trans rfl;have hcz49_5:w48.cell? ⟨gb104,5,none⟩=some (.int .i64 a0_5):=(blk_cell BK104.out 5).trans rfl;have hcz49_6:w48.cell? ⟨gb104,6,none⟩=some (.slice A0_6 l0_6.length c0_6):=(blk_cell BK104.out 6).trans rfl;have hcz49_7:w48.cell? ⟨gb104,7,none⟩=some (.int .i64 a0_7):=(blk_cell BK104.out 7).trans rfl;have hfz49_0:=blk_frozen BK104.out 0;have hfz49_1:=blk_frozen BK104.out 1;have hfz49_2:=blk_frozen BK104.out 2;have hfz49_3:=blk_frozen BK104.out 3;have hfz49_4:=blk_frozen BK104.out 4;have hfz49_5:=blk_frozen BK104.out 5;have hfz49_6:=blk_frozen BK104.out 6;have hfz49_7:=blk_frozen BK104.out 7)|(go_at_call 93;(with_reducible refine (cmd_Client.calls a0_7 false _ A2.out).mono ?_);rintro e w' ⟨rfl,⟨nd,rfl⟩⟩;(try first|exact ⟨rfl,_,World.drewN_drewN _ _ _⟩|exact ⟨rfl,_,Eq.trans (World.drewN_drewN _ _ _) (congrArg (World.drewN _) (Nat.add_assoc _ _ _))⟩)))
    repeat (go_quiet (first|((with_reducible refine gate_dst (N:=1) rfl ?_);(try (refine gate_guard (by rfl) ?_;dsimp only));refine box_event ?hg (N:=1) ?hd (cs:=#[.int .i64 a0_0,.int .i64 a0_1,.int .i64 a0_2,.int .i64 a0_3,.int .i64 a0_4,.int .i64 a0_5,.slice A0_6 l0_6.length c0_6,.int .i64 a0_7]) (t:=27) ?hr ?_;(case hd=>rfl);(case hg=>rfl);(case hr=>first|(go_simp;done)|(go_simp;rfl));intro gb104 hg w48 hbox hb;have n0_:=Aside0.mk (below_step (by repeat (first|(with_reducible first|exact HB.out|apply below_alloc|apply pw_below_drewN|apply below_drew1)|exact HB.out)) hb);have n1_:=Aside0.mk (hbox);have n2_:=Aside0.mk ((by rw [hg];exact (below_size (by repeat (first|(with_reducible first|exact HB.out|apply below_alloc|apply pw_below_drewN|apply below_drew1)|exact HB.out))):w.heap.size≤gb104));have n3_:=Aside0.mk ((by rw [hg];exact (below_size (by repeat (first|(with_reducible first|exact HB.out|apply below_alloc|apply pw_below_drewN|apply below_drew1)|exact HB.out))):w.heap.size≤gb104));clear HB;have HB:=n0_;have BK104:=n1_;have GW104:=n2_;have GE104:=n3_;clear n0_ n1_ n2_ n3_;clear hb hbox hg;have hcz49_0:w48.cell? ⟨gb104,0,none⟩=some (.int .i64 a0_0):=(blk_cell BK104.out 0).trans rfl;have hcz49_1:w48.cell? ⟨gb104,1,none⟩=some (.int .i64 a0_1):=(blk_cell BK104.out 1).trans rfl;have hcz49_2:w48.cell? ⟨gb104,2,none⟩=some (.int .i64 a0_2):=(blk_cell BK104.out 2).trans rfl;have hcz49_3:w48.cell? ⟨gb104,3,none⟩=some (.int .i64 a0_3):=(blk_cell BK104.out 3).trans rfl;have hcz49_4:w48.cell? ⟨gb104,4,none⟩=some (.int .i64 a0_4):=(blk_cell BK104.out 4).trans rfl;have hcz49_5:w48.cell? ⟨gb104,5,none⟩=some (.int .i64 a0_5):=(blk_cell BK104.out 5).trans rfl;have hcz49_6:w48.cell? ⟨gb104,6,none⟩=some (.slice A0_6 l0_6.length c0_6):=(blk_cell BK104.out 6).trans rfl;have hcz49_7:w48.cell? ⟨gb104,7,none⟩=some (.int .i64 a0_7):=(blk_cell BK104.out 7).trans rfl;have hfz49_0:=blk_frozen BK104.out 0;have hfz49_1:=blk_frozen BK104.out 1;have hfz49_2:=blk_frozen BK104.out 2;have hfz49_3:=blk_frozen BK104.out 3;have hfz49_4:=blk_frozen BK104.out 4;have hfz49_5:=blk_frozen BK104.out 5;have hfz49_6:=blk_frozen BK104.out 6;have hfz49_7:=blk_frozen BK104.out 7)|(go_at_call 93;(with_reducible refine (cmd_Client.calls a0_7 false _ A2.out).mono ?_);rintro e w' ⟨rfl,⟨nd,rfl⟩⟩;(try first|exact ⟨rfl,_,World.drewN_drewN _ _ _⟩|exact ⟨rfl,_,Eq.trans (World.drewN_drewN _ _ _) (congrArg (World.drewN _) (Nat.add_assoc _ _ _))⟩)));try go_wp2_with (first|((with_reducible refine gate_dst (N:=1) rfl ?_);(try (refine gate_guard (by rfl) ?_;dsimp only));refine box_event ?hg (N:=1) ?hd (cs:=#[.int .i64 a0_0,.int .i64 a0_1,.int .i64 a0_2,.int .i64 a0_3,.int .i64 a0_4,.int .i64 a0_5,.slice A0_6 l0_6.length c0_6,.int .i64 a0_7]) (t:=27) ?hr ?_;(case hd=>rfl);(case hg=>rfl);(case hr=>first|(go_simp;done)|(go_simp;rfl));intro gb104 hg w48 hbox hb;have n0_:=Aside0.mk (below_step (by repeat (first|(with_reducible first|exact HB.out|apply below_alloc|apply pw_below_drewN|apply below_drew1)|exact HB.out)) hb);have n1_:=Aside0.mk (hbox);have n2_:=Aside0.mk ((by rw [hg];exact (below_size (by repeat (first|(with_reducible first|exact HB.out|apply below_alloc|apply pw_below_drewN|apply below_drew1)|exact HB.out))):w.heap.size≤gb104));have n3_:=Aside0.mk ((by rw [hg];exact (below_size (by repeat (first|(with_reducible first|exact HB.out|apply below_alloc|apply pw_below_drewN|apply below_drew1)|exact HB.out))):w.heap.size≤gb104));clear HB;have HB:=n0_;have BK104:=n1_;have GW104:=n2_;have GE104:=n3_;clear n0_ n1_ n2_ n3_;clear hb hbox hg;have hcz49_0:w48.cell? ⟨gb104,0,none⟩=some (.int .i64 a0_0):=(blk_cell BK104.out 0).trans rfl;have hcz49_1:w48.cell? ⟨gb104,1,none⟩=some (.int .i64 a0_1):=(blk_cell BK104.out 1).trans rfl;have hcz49_2:w48.cell? ⟨gb104,2,none⟩=some (.int .i64 a0_2):=(blk_cell BK104.out 2).trans rfl;have hcz49_3:w48.cell? ⟨gb104,3,none⟩=some (.int .i64 a0_3):=(blk_cell BK104.out 3).trans rfl;have hcz49_4:w48.cell? ⟨gb104,4,none⟩=some (.int .i64 a0_4):=(blk_cell BK104.out 4).trans rfl;have hcz49_5:w48.cell? ⟨gb104,5,none⟩=some (.int .i64 a0_5):=(blk_cell BK104.out 5).trans rfl;have hcz49_6:w48.cell? ⟨gb104,6,none⟩=some (.slice A0_6 l0_6.length c0_6):=(blk_cell BK104.out 6).trans rfl;have hcz49_7:w48.cell? ⟨gb104,7,none⟩=some (.int .i64 a0_7):=(blk_cell BK104.out 7).trans rfl;have hfz49_0:=blk_frozen BK104.out 0;have hfz49_1:=blk_frozen BK104.out 1;have hfz49_2:=blk_frozen BK104.out 2;have hfz49_3:=blk_frozen BK104.out 3;have hfz49_4:=blk_frozen BK104.out 4;have hfz49_5:=blk_frozen BK104.out 5;have hfz49_6:=blk_frozen BK104.out 6;have hfz49_7:=blk_frozen BK104.out 7)|(go_at_call 93;(with_reducible refine (cmd_Client.calls a0_7 false _ A2.out).mono ?_);rintro e w' ⟨rfl,⟨nd,rfl⟩⟩;(try first|exact ⟨rfl,_,World.drewN_drewN _ _ _⟩|exact ⟨rfl,_,Eq.trans (World.drewN_drewN _ _ _) (congrArg (World.drewN _) (Nat.add_assoc _ _ _))⟩))))
    go_ret
    exact ⟨by first|rfl|(simp [errW_none,errW_some]<;>rfl)|(simp [*,errW_none,errW_some]<;>rfl),by repeat (first|(with_reducible first|exact HB.out|apply below_alloc|apply pw_below_drewN|apply below_drew1|refine below_set ?_ GE104.out)|exact HB.out)⟩
end Go.Proofs.Ytaeabemipnbgbaa.QCm
end
section
namespace Go.Proofs.Ytaeabemipnbgbaa.QCm
open RowKit YtaeabemipnbgbaaW.PrintWords YtaeabemipnbgbaaW.PrintLast YtaeabemipnbgbaaW.PrintMore
attribute [local go_sem] max2_int min2_int max_two min_two max_three min_three max_four min_four   -- for this text's walks alone
set_option linter.unusedVariables false
set_option linter.unusedSimpArgs false
def cmd_field_int.l0:Nat→List Int→Int→Int→Option (List Int)
  | 0,_,_,_=>none
  | k+1,x0,x1,x7=>if x7≥0 then (if 0≤(wrap64 (8*x7)) then (if x0.length<140737488355328 then (cmd_field_int.l0 k (x0++[(shr .i64 x1 (wrap64 (8*x7)))%256]) x1 (wrap64 (x7-1))) else (none)) else (none)) else (some x0)
def cmd_field_int.f (k:Nat) (l0:List Int) (a1:Int) (a2:Int):Option (List Int):=cmd_field_int.l0 k l0 a1 (wrap64 (a2-1))
theorem cmd_field_int.mono_l:∀ k,(∀ y0 y1 y2,LeO (cmd_field_int.l0 k y0 y1 y2) (cmd_field_int.l0 (k+1) y0 y1 y2))
  | 0=>fun _ _ _ r h=>by simp [cmd_field_int.l0] at h
  | k + 1 => by
    have ih0:=cmd_field_int.mono_l k
    · intro y0 y1 y2
      unfold cmd_field_int.l0
      repeat' first
      | (with_reducible exact ih0 _ _ _)
      | (with_reducible exact LeO.refl _)
      | (with_reducible exact LeO.none _)
      | (with_reducible refine LeO.ite ?_ ?_)
      | (with_reducible refine LeO.bind ?_ (fun _=>?_))
      | exact ih0 _ _ _
      | exact LeO.none _
      | refine LeO.ite ?_ ?_
      | refine LeO.bind ?_ (fun _=>?_)
theorem cmd_field_int.mono:∀ a0 a1 a2 k,LeO (cmd_field_int.f k a0 a1 a2) (cmd_field_int.f (k+1) a0 a1 a2):=by
  intro a0 a1 a2 k
  have ih0:=cmd_field_int.mono_l k
  unfold cmd_field_int.f
  repeat' first
      | (with_reducible exact ih0 _ _ _)
      | (with_reducible exact LeO.refl _)
      | (with_reducible exact LeO.none _)
      | (with_reducible refine LeO.ite ?_ ?_)
      | (with_reducible refine LeO.bind ?_ (fun _=>?_))
      | exact ih0 _ _ _
      | exact LeO.none _
      | refine LeO.ite ?_ ?_
      | refine LeO.bind ?_ (fun _=>?_)
set_option maxHeartbeats 8000000 in
set_option maxRecDepth 100000 in
theorem cmd_field_int.calls (k:Nat) (P0_:Nat→Prop) (u9000_:Value) (l0:List Int) (a1:Int) (a2:Int) (r:List Int) (w0 w:World) (hB:Below w0.heap.size w0 w) (ho0:Kd.R (Kd.int .u8) 5 w w0.heap.size P0_ u9000_ l0) (h:cmd_field_int.f k l0 a1 a2=some r) :
    Calls Try.prog 72 #[u9000_,.int .i64 a1,.int .i64 a2] w fun e w'=>∃ v0_:Value,e = .returned (v0_)∧Kd.R (Kd.int .u8) 5 w' w0.heap.size (fun k_=>(P0_ k_∨w.heap.size≤k_)) v0_ r∧Below w0.heap.size w0 w'∧Kept w w' (fun k_=>P0_ k_):=by
  have HO0:=Aside0.mk (show Kd.R (Kd.int .u8) 5 w w0.heap.size (fun k_=>(P0_ k_∨w.heap.size≤k_)) u9000_ l0 from Kd.R_mono ho0 (fun k_ hk=>(.inl hk)))
  have HK:=Aside0.mk (Kept.refl w (fun k_=>P0_ k_))
  have HW0:=Aside0.mk hB.size
  have HB:=Aside0.mk hB
  clear hB
  have H:(cmd_field_int.l0 k l0 a1 (wrap64 (a2-1)))=some r:=h
  clear h
  have H':=Aside0.mk H
  clear H
  go_enter Try.func72,Try.ntmps72
  go_wp2
  go_loopg [0,7] k (fun kq v0 v7 w'=>∃ (x0_1:List Int) (x7_1:Int),v7 = .int .i64 x7_1∧Aside0 (cmd_field_int.l0 kq x0_1 a1 x7_1=some r)∧Aside0 (kq≤k)∧Aside0 (Kd.R (Kd.int .u8) 5 w' w0.heap.size (fun k_=>(P0_ k_∨w.heap.size≤k_)) v0 x0_1)∧Aside0 (Kept w w' (fun k_=>P0_ k_))∧Aside0 (Below w0.heap.size w0 w'))
  case atStart=>exact ⟨(l0),(wrap64 (a2-1)),(by first|rfl|(simp;done)|(simp [*];done)),H',⟨Nat.le_refl _⟩,⟨by (with_reducible repeat (first|apply Kd.R_alloc|apply Kd.R_drewN|apply Kd.R_drew));exact HO0.out⟩,⟨by repeat (first|(with_reducible first|exact HK.out|apply Kept.alloc|apply Kept.drewN|apply Kept.drew)|exact HK.out)⟩,⟨by repeat (first|(with_reducible first|exact HB.out|apply below_alloc|apply pw_below_drewN|apply below_drew1)|exact HB.out)⟩⟩
  case round =>
    clear H'
    try clear p2
    obtain ⟨x0_1,x7_1,rfl,HA,HK1,HO_0,HK,HB⟩:=hrel
    cases gk with
    | zero=>exact absurd HA.out (by simp [cmd_field_int.l0])
    | succ k1 =>
      have H:=HA.out
      clear HA
      simp only [cmd_field_int.l0] at H
      by_cases c4:x7_1≥0
      · rw [if_pos c4] at H
        have c4b0:decide (0≤x7_1)=true:=decide_eq_true c4
        clear c4
        obtain ⟨ji5,hji5⟩:∃ j_:Int,(wrap64 (8*x7_1))=j_:=⟨_,rfl⟩
        replace H:(if 0≤(ji5) then (if x0_1.length<140737488355328 then (cmd_field_int.l0 k1 (x0_1++[(shr .i64 a1 (ji5))%256]) a1 (wrap64 (x7_1-1))) else (none)) else (none))=some r:=by first|(rw [hji5] at H;exact H)|(simp only [hji5] at H ⊢;exact H)
        have hji5w:(IntKind.i64.wrap (8*x7_1))=ji5:=(i64_w _).trans hji5
        by_cases c6:0≤(ji5)
        · rw [if_pos c6] at H
          have c6b0:=eq_true c6
          have c6b1:decide (0≤(ji5))=true:=decide_eq_true c6
          clear c6
          obtain ⟨ji7,hji7⟩:∃ j_:Int,(shr .i64 a1 (ji5))=j_:=⟨_,rfl⟩
          replace H:(if x0_1.length<140737488355328 then (cmd_field_int.l0 k1 (x0_1++[(ji7)%256]) a1 (wrap64 (x7_1-1))) else (none))=some r:=by first|(rw [hji7] at H;exact H)|(simp only [hji7] at H ⊢;exact H)
          have hji7_:(a1/2 ^ min (ji5).toNat 64)=ji7:=hji7
          have hji7z:(ji5)≤64→(a1/2 ^ (ji5).toNat)=ji7:=shr_small hji7
          by_cases c8:x0_1.length<140737488355328
          · rw [if_pos c8] at H
            have LMc8:=Aside0.mk c8
            clear c8
            obtain ⟨y108,hy108⟩:∃ y_:List Int,y_=(x0_1++[(ji7)%256]):=⟨_,rfl⟩
            replace H:(cmd_field_int.l0 k1 y108 a1 (wrap64 (x7_1-1)))=some r:=by first|(rw [hy108];with_reducible exact H)|(have H2_:=(Option.bind_some _ _).symm.trans H;rw [hy108];with_reducible exact H2_)|(have H2_:=(Option.bind_some _ _).symm.trans H;with_reducible exact H2_)|with_reducible exact H|(rw [hy108];exact H)|exact H
            have Ny108:=Aside0.mk hy108
            clear hy108
            have H':=Aside0.mk H
            clear H
            go_wp2_with (first|((with_reducible refine gate_builtin (b := .append) (xs:=#[.tmp 14,.tmp 20]) rfl ?_);at_builtin;refine Kd.R_append (Kd.int .u8) (w0:=w0) w0.heap.size rfl (.tmp 14) (.tmp 20) 25 5 (.int .u8 0) 1 rfl Try.underlying25 info5 rfl (by decide) (by omega) u0 x0_1 ((ji7)%256) [.int .u8 ((ji7)%256)] (fun k_=>(P0_ k_∨w.heap.size≤k_)) (fun _=>False) rfl rfl ?aP (fun _ hk=>hk.elim) ?aF ?aO ?aB ?aS ?aL ?_;(case aP=>exact rfl);(case aB=>exact (by repeat (first|(with_reducible first|exact HB.out|apply below_alloc|apply pw_below_drewN|apply below_drew1)|exact HB.out)));(case aF=>exact (fun k_ hk=>(.inr (Nat.le_trans (by first|exact HK.out.1|exact (show Kept w _ (fun k_=>P0_ k_) from by repeat (first|(with_reducible first|exact HK.out|apply Kept.alloc|apply Kept.drewN|apply Kept.drew)|exact HK.out)).1) hk))));(case aO=>exact (by (with_reducible repeat (first|apply Kd.R_alloc|apply Kd.R_drewN|apply Kd.R_drew));exact HO_0.out));(case aS=>exact (below_size (by repeat (first|(with_reducible first|exact HB.out|apply below_alloc|apply pw_below_drewN|apply below_drew1)|exact HB.out))));(case aL=>have:=LMc8.out;omega);intro v109 w9 ho hb hg hat;rw [← Ny108.out] at ho;have n0_:=Aside0.mk (hb);have n1_:=Aside0.mk (Kept.of_grown (S:=(fun k_=>P0_ k_)) hg (by repeat (first|(with_reducible first|exact HK.out|apply Kept.alloc|apply Kept.drewN|apply Kept.drew)|exact HK.out)) (fun k_ e_=>(HO_0.out.1 k_ e_)));have n2_:=Aside0.mk (ho);clear HB;clear HK;clear HO_0;have HB:=n0_;have HK:=n1_;have HO110:=n2_;clear n0_ n1_ n2_;clear ho hb hg hat))
            go_roundg k1
            case measure=>have:=HK1.out;omega
            case rel=>exact ⟨(y108),(wrap64 (x7_1-1)),(by first|rfl|(simp;done)|(simp [*];done)),H',⟨by have:=HK1.out;omega⟩,⟨by (with_reducible repeat (first|apply Kd.R_alloc|apply Kd.R_drewN|apply Kd.R_drew));exact HO110.out⟩,⟨by repeat (first|(with_reducible first|exact HK.out|apply Kept.alloc|apply Kept.drewN|apply Kept.drew)|exact HK.out)⟩,⟨by repeat (first|(with_reducible first|exact HB.out|apply below_alloc|apply pw_below_drewN|apply below_drew1)|exact HB.out)⟩⟩
          · rw [if_neg c8] at H
            exact absurd H (by simp)
        · rw [if_neg c6] at H
          exact absurd H (by simp)
      · rw [if_neg c4] at H
        have c4b0:decide (0≤x7_1)=false:=decide_eq_false c4
        clear c4
        obtain rfl:=Option.some.inj H
        go_wp2
        go_ret
        exact ⟨_,by first|rfl|(simp [errW_none,errW_some]<;>rfl)|(simp [*,errW_none,errW_some]<;>rfl),by (with_reducible repeat (first|apply Kd.R_alloc|apply Kd.R_drewN|apply Kd.R_drew));exact HO_0.out,by repeat (first|(with_reducible first|exact HB.out|apply below_alloc|apply pw_below_drewN|apply below_drew1)|exact HB.out),by repeat (first|(with_reducible first|exact HK.out|apply Kept.alloc|apply Kept.drewN|apply Kept.drew)|exact HK.out)⟩
end Go.Proofs.Ytaeabemipnbgbaa.QCm
end
section
namespace Go.Proofs.Ytaeabemipnbgbaa.QCm
open RowKit YtaeabemipnbgbaaW.PrintWords YtaeabemipnbgbaaW.PrintLast YtaeabemipnbgbaaW.PrintMore
attribute [local go_sem] max2_int min2_int max_two min_two max_three min_three max_four min_four   -- for this text's walks alone
set_option linter.unusedVariables false
set_option linter.unusedSimpArgs false
def cmd_Encode.f (k:Nat) (a0_0:Int) (a0_1:Int) (a0_2:Int) (a0_3:Int) (a0_4:Int) (a0_5:Int) (l0_6:List Int) (a0_7:Int):Option (List Int × Int):=(cmd_good.f k a0_0 a0_1 a0_2 a0_3 a0_4 a0_5 l0_6 a0_7).bind fun t112=>(if t112=true then ((cmd_field_int.f k ([]:List Int) a0_7 1).bind fun t113=>(if a0_0=1 then ((cmd_field_int.f k t113 a0_2 1).bind fun t116=>((cmd_field_int.f k t116 a0_3 2).bind fun t119=>((cmd_field_int.f k t119 a0_4 4).bind fun t122=>(some (t122,0))))) else (if a0_0=2 then ((cmd_field_int.f k t113 a0_2 1).bind fun t125=>(some (t125,0))) else (if a0_0=4 then ((cmd_field_int.f k t113 a0_5 1).bind fun t128=>(if t128.length+l0_6.length<140737488355328 then (some ((t128++l0_6),0)) else (none))) else (if a0_0=5 then ((cmd_field_int.f k t113 a0_5 1).bind fun t134=>(if t134.length+l0_6.length<140737488355328 then (some ((t134++l0_6),0)) else (none))) else (some (t113,0))))))) else (some (([]:List Int),1)))
theorem cmd_Encode.mono:∀ a0 a1 a2 a3 a4 a5 a6 a7 k,LeO (cmd_Encode.f k a0 a1 a2 a3 a4 a5 a6 a7) (cmd_Encode.f (k+1) a0 a1 a2 a3 a4 a5 a6 a7):=by
  intro a0 a1 a2 a3 a4 a5 a6 a7 k
  unfold cmd_Encode.f
  repeat' first
      | (with_reducible exact cmd_field_int.mono _ _ _ _)
      | (with_reducible exact cmd_good.mono _ _ _ _ _ _ _ _ _)
      | (with_reducible exact LeO.refl _)
      | (with_reducible exact LeO.none _)
      | (with_reducible refine LeO.ite ?_ ?_)
      | (with_reducible refine LeO.bind ?_ (fun _=>?_))
      | exact cmd_field_int.mono _ _ _ _
      | exact cmd_good.mono _ _ _ _ _ _ _ _ _
      | exact LeO.none _
      | refine LeO.ite ?_ ?_
      | refine LeO.bind ?_ (fun _=>?_)
def cmd_Encode.T6:Bool × List (List Nat × List Nat):=(true,[([],[]),([],[]),([1],[1]),([2],[2]),([0,3],[0,3]),([],[]),([5],[5]),([6],[6]),([4,7,4],[4,7]),([],[]),([9],[9]),([10],[10]),([8,11,8],[8,11]),([12,12,0,1,2,3,4,5,6,7,8,9,10,11,12],[12]),([13,0,1,2,3,4,5,6,7,8,9,10,11,12,13],[])])
def cmd_Encode.B6:List Nat:=[0,0,2,6,15,0,32,96,255,0,512,1536,4095,8191,16383]
theorem cmd_Encode.tab6:rtab .any (opsOf Try.f19 6)=cmd_Encode.T6:=by kernel_rfl
theorem cmd_Encode.bits6:waitsOk cmd_Encode.T6.2 cmd_Encode.B6=true:=by kernel_rfl
def cmd_Encode.T11:Bool × List (List Nat × List Nat):=(true,[([],[]),([],[]),([1],[1]),([0,2],[0,2]),([],[]),([4],[4]),([3,5,3],[3,5]),([6,6,0,1,2,3,4,5,6],[6]),([7,0,1,2,3,4,5,6,7],[])])
def cmd_Encode.B11:List Nat:=[0,0,2,7,0,16,63,127,255]
theorem cmd_Encode.tab11:rtab .any (opsOf Try.f19 11)=cmd_Encode.T11:=by kernel_rfl
theorem cmd_Encode.bits11:waitsOk cmd_Encode.T11.2 cmd_Encode.B11=true:=by kernel_rfl
set_option maxHeartbeats 8000000 in
set_option maxRecDepth 100000 in
theorem cmd_Encode.calls (k:Nat) (a0_0:Int) (a0_1:Int) (a0_2:Int) (a0_3:Int) (a0_4:Int) (a0_5:Int) (A0_6:Option Addr) (c0_6:Nat) (l0_6:List Int) (a0_7:Int) (r1:List Int) (r2:Int) (w:World) (hr0_6:Kd.C (Kd.int .u8) w A0_6 l0_6.length l0_6) (hc0_6:l0_6.length≤c0_6) (h:cmd_Encode.f k a0_0 a0_1 a0_2 a0_3 a0_4 a0_5 l0_6 a0_7=some (r1,r2)) :
    Calls Try.prog 19 #[.agg #[.int .i64 a0_0,.int .i64 a0_1,.int .i64 a0_2,.int .i64 a0_3,.int .i64 a0_4,.int .i64 a0_5,.slice A0_6 l0_6.length c0_6,.int .i64 a0_7]] w fun e w'=>∃ v0_:Value,e = .returned (.tuple #[v0_,.int .i64 r2])∧Kd.R (Kd.int .u8) 5 w' w.heap.size (fun _=>True) v0_ r1∧Below w.heap.size w w':=by
  have hu27:=Try.underlying27
  have HR0_6:=Aside0.mk hr0_6
  have HC0_6:=Aside0.mk hc0_6
  clear hr0_6 hc0_6
  have HB:=Aside0.mk (Below.refl w.heap.size w)
  have H:((cmd_good.f k a0_0 a0_1 a0_2 a0_3 a0_4 a0_5 l0_6 a0_7).bind fun t112=>(if t112=true then ((cmd_field_int.f k ([]:List Int) a0_7 1).bind fun t113=>(if a0_0=1 then ((cmd_field_int.f k t113 a0_2 1).bind fun t116=>((cmd_field_int.f k t116 a0_3 2).bind fun t119=>((cmd_field_int.f k t119 a0_4 4).bind fun t122=>(some (t122,0))))) else (if a0_0=2 then ((cmd_field_int.f k t113 a0_2 1).bind fun t125=>(some (t125,0))) else (if a0_0=4 then ((cmd_field_int.f k t113 a0_5 1).bind fun t128=>(if t128.length+l0_6.length<140737488355328 then (some ((t128++l0_6),0)) else (none))) else (if a0_0=5 then ((cmd_field_int.f k t113 a0_5 1).bind fun t134=>(if t134.length+l0_6.length<140737488355328 then (some ((t134++l0_6),0)) else (none))) else (some (t113,0))))))) else (some (([]:List Int),1))))=some (r1,r2):=h
  clear h
  replace H:=Option.bind_eq_some_iff.mp H
  obtain ⟨t112,A20,H⟩:=H
  replace H:(if t112=true then ((cmd_field_int.f k ([]:List Int) a0_7 1).bind fun t113=>(if a0_0=1 then ((cmd_field_int.f k t113 a0_2 1).bind fun t116=>((cmd_field_int.f k t116 a0_3 2).bind fun t119=>((cmd_field_int.f k t119 a0_4 4).bind fun t122=>(some (t122,0))))) else (if a0_0=2 then ((cmd_field_int.f k t113 a0_2 1).bind fun t125=>(some (t125,0))) else (if a0_0=4 then ((cmd_field_int.f k t113 a0_5 1).bind fun t128=>(if t128.length+l0_6.length<140737488355328 then (some ((t128++l0_6),0)) else (none))) else (if a0_0=5 then ((cmd_field_int.f k t113 a0_5 1).bind fun t134=>(if t134.length+l0_6.length<140737488355328 then (some ((t134++l0_6),0)) else (none))) else (some (t113,0))))))) else (some (([]:List Int),1)))=some (r1,r2):=H
  have A2:=Aside0.mk A20
  clear A20
  by_cases c3:t112=true
  · subst c3
    have H1:((cmd_field_int.f k ([]:List Int) a0_7 1).bind fun t113=>(if a0_0=1 then ((cmd_field_int.f k t113 a0_2 1).bind fun t116=>((cmd_field_int.f k t116 a0_3 2).bind fun t119=>((cmd_field_int.f k t119 a0_4 4).bind fun t122=>(some (t122,0))))) else (if a0_0=2 then ((cmd_field_int.f k t113 a0_2 1).bind fun t125=>(some (t125,0))) else (if a0_0=4 then ((cmd_field_int.f k t113 a0_5 1).bind fun t128=>(if t128.length+l0_6.length<140737488355328 then (some ((t128++l0_6),0)) else (none))) else (if a0_0=5 then ((cmd_field_int.f k t113 a0_5 1).bind fun t134=>(if t134.length+l0_6.length<140737488355328 then (some ((t134++l0_6),0)) else (none))) else (some (t113,0)))))))=some (r1,r2):=by rw [if_pos rfl] at H;exact H
    clear H
    have H:=H1
    clear H1
    replace H:=Option.bind_eq_some_iff.mp H
    obtain ⟨t113,A40,H⟩:=H
    replace H:(if a0_0=1 then ((cmd_field_int.f k t113 a0_2 1).bind fun t116=>((cmd_field_int.f k t116 a0_3 2).bind fun t119=>((cmd_field_int.f k t119 a0_4 4).bind fun t122=>(some (t122,0))))) else (if a0_0=2 then ((cmd_field_int.f k t113 a0_2 1).bind fun t125=>(some (t125,0))) else (if a0_0=4 then ((cmd_field_int.f k t113 a0_5 1).bind fun t128=>(if t128.length+l0_6.length<140737488355328 then (some ((t128++l0_6),0)) else (none))) else (if a0_0=5 then ((cmd_field_int.f k t113 a0_5 1).bind fun t134=>(if t134.length+l0_6.length<140737488355328 then (some ((t134++l0_6),0)) else (none))) else (some (t113,0))))))=some (r1,r2):=H
    have A4:=Aside0.mk A40
    clear A40
    by_cases c5:a0_0=1
    · rw [if_pos c5] at H
      have c5b0:(a0_0 == 1)=true:=beq_iff_eq.mpr c5
      have c5b1:(a0_0 != 1)=false:=bne_eq_false_iff_eq.mpr c5
      clear c5
      replace H:=Option.bind_eq_some_iff.mp H
      obtain ⟨t116,A60,H⟩:=H
      replace H:((cmd_field_int.f k t116 a0_3 2).bind fun t119=>((cmd_field_int.f k t119 a0_4 4).bind fun t122=>(some (t122,0))))=some (r1,r2):=H
      have A6:=Aside0.mk A60
      clear A60
      replace H:=Option.bind_eq_some_iff.mp H
      obtain ⟨t119,A70,H⟩:=H
      replace H:((cmd_field_int.f k t119 a0_4 4).bind fun t122=>(some (t122,0)))=some (r1,r2):=H
      have A7:=Aside0.mk A70
      clear A70
      replace H:=Option.bind_eq_some_iff.mp H
      obtain ⟨t122,A80,H⟩:=H
      replace H:(some (t122,0))=some (r1,r2):=H
      have A8:=Aside0.mk A80
      clear A80
      simp only [Option.some.injEq,Prod.mk.injEq] at H
      obtain ⟨rfl,rfl⟩:=H
      go_enter Try.func19,Try.ntmps19
      try go_wp2_with (first|((with_reducible refine gate_dst (N:=1) rfl ?_);refine box_event ?hg (N:=1) ?hd (cs:=#[.int .i64 a0_0,.int .i64 a0_1,.int .i64 a0_2,.int .i64 a0_3,.int .i64 a0_4,.int .i64 a0_5,.slice A0_6 l0_6.length c0_6,.int .i64 a0_7]) (t:=27) ?hr ?_;(case hd=>rfl);(case hg=>rfl);(case hr=>first|(go_simp;done)|(go_simp;rfl));intro gb111 hg w9 hbox hb;have n0_:=Aside0.mk (below_step (by repeat (first|(with_reducible first|exact HB.out|apply below_alloc|apply pw_below_drewN|apply below_drew1)|exact HB.out)) hb);have n1_:=Aside0.mk (hbox);have n2_:=Aside0.mk ((by rw [hg];exact (below_size (by repeat (first|(with_reducible first|exact HB.out|apply below_alloc|apply pw_below_drewN|apply below_drew1)|exact HB.out))):w.heap.size≤gb111));have n3_:=Aside0.mk ((by rw [hg];exact (below_size (by repeat (first|(with_reducible first|exact HB.out|apply below_alloc|apply pw_below_drewN|apply below_drew1)|exact HB.out))):w.heap.size≤gb111));clear HB;have HB:=n0_;have BK111:=n1_;have GW111:=n2_;have GE111:=n3_;clear n0_ n1_ n2_ n3_;clear hb hbox hg;have hcz10_0:w9.cell? ⟨gb111,0,none⟩=some (.int .i64 a0_0):=(blk_cell BK111.out 0).trans rfl;have hcz10_1:w9.cell? ⟨gb111,1,none⟩=some (.int .i64 a0_1):=(blk_cell BK111.out 1).trans rfl;have hcz10_2:w9.cell? ⟨gb111,2,none⟩=some (.int .i64 a0_2):=(blk_cell BK111.out 2).trans rfl;have hcz10_3:w9.cell? ⟨gb111,3,none⟩=some (.int .i64 a0_3):=(blk_cell BK111.out 3).trans rfl;have hcz10_4:w9.cell? ⟨gb111,4,none⟩=some (.int .i64 a0_4):=(blk_cell BK111.out 4).trans rfl;have hcz10_5:w9.cell? ⟨gb111,5,none⟩=some (.int .i64 a0_5):=(blk_cell BK111.out 5).trans rfl;have hcz10_6:w9.cell? ⟨gb111,6,none⟩=some (.slice A0_6 l0_6.length c0_6):=(blk_cell BK111.out 6).trans rfl;have hcz10_7:w9.cell? ⟨gb111,7,none⟩=some (.int .i64 a0_7):=(blk_cell BK111.out 7).trans rfl;have hfz10_0:=blk_frozen BK111.out 0;have hfz10_1:=blk_frozen BK111.out 1;have hfz10_2:=blk_frozen BK111.out 2;have hfz10_3:=blk_frozen BK111.out 3;have hfz10_4:=blk_frozen BK111.out 4;have hfz10_5:=blk_frozen BK111.out 5;have hfz10_6:=blk_frozen BK111.out 6;have hfz10_7:=blk_frozen BK111.out 7)|((with_reducible refine gate_callee (f:=71) rfl ?_);refine goesL_ (some 6) rfl rfl Try.func71 (by kernel_rfl) rfl #[.agg #[.int .i64 a0_0,.int .i64 a0_1,.int .i64 a0_2,.int .i64 a0_3,.int .i64 a0_4,.int .i64 a0_5,.slice A0_6 l0_6.length c0_6,.int .i64 a0_7]] rfl (by (try simp only [List.map_toArray,List.map_cons,List.map_nil]);first|done|rfl|(simp only [List.length_drop,List.length_take];rfl)) ?_;(with_reducible refine (cmd_good.calls k a0_0 a0_1 a0_2 a0_3 a0_4 a0_5 _ _ l0_6 a0_7 true _ ?side1 ?side2 A2.out).mono ?_);(case side1=>repeat (first|exact (Kd.C_below HR0_6.out HB.out)|(with_reducible refine Kd.C_alloc ?_ _)|(with_reducible refine Kd.C_drewN ?_ _)|(with_reducible refine Kd.C_drew ?_)));(case side2=>exact HC0_6.out);rintro e w11 ⟨rfl,hb⟩;refine ⟨_,rfl,?_⟩;have n0_:=Aside0.mk (blk_below (g:=gb111) (o := .cells #[.int .i64 a0_0,.int .i64 a0_1,.int .i64 a0_2,.int .i64 a0_3,.int .i64 a0_4,.int .i64 a0_5,.slice A0_6 l0_6.length c0_6,.int .i64 a0_7] 27 (0,0)) (by (with_reducible repeat (first|refine blk_drewN ?_ _|refine blk_drew ?_|refine blk_alloc ?_ _));exact BK111.out) hb);have n1_:=Aside0.mk (below_step (by repeat (first|(with_reducible first|exact HB.out|apply below_alloc|apply pw_below_drewN|apply below_drew1|refine below_set ?_ GE111.out)|exact HB.out)) hb);clear BK111;clear HB;have BK111:=n0_;have HB:=n1_;clear n0_ n1_;(try clear hb);(try clear hb2);(try clear hk);(try clear hi);have hcz12_0:w11.cell? ⟨gb111,0,none⟩=some (.int .i64 a0_0):=(blk_cell BK111.out 0).trans rfl;have hcz12_1:w11.cell? ⟨gb111,1,none⟩=some (.int .i64 a0_1):=(blk_cell BK111.out 1).trans rfl;have hcz12_2:w11.cell? ⟨gb111,2,none⟩=some (.int .i64 a0_2):=(blk_cell BK111.out 2).trans rfl;have hcz12_3:w11.cell? ⟨gb111,3,none⟩=some (.int .i64 a0_3):=(blk_cell BK111.out 3).trans rfl;have hcz12_4:w11.cell? ⟨gb111,4,none⟩=some (.int .i64 a0_4):=(blk_cell BK111.out 4).trans rfl;have hcz12_5:w11.cell? ⟨gb111,5,none⟩=some (.int .i64 a0_5):=(blk_cell BK111.out 5).trans rfl;have hcz12_6:w11.cell? ⟨gb111,6,none⟩=some (.slice A0_6 l0_6.length c0_6):=(blk_cell BK111.out 6).trans rfl;have hcz12_7:w11.cell? ⟨gb111,7,none⟩=some (.int .i64 a0_7):=(blk_cell BK111.out 7).trans rfl;have hfz12_0:=blk_frozen BK111.out 0;have hfz12_1:=blk_frozen BK111.out 1;have hfz12_2:=blk_frozen BK111.out 2;have hfz12_3:=blk_frozen BK111.out 3;have hfz12_4:=blk_frozen BK111.out 4;have hfz12_5:=blk_frozen BK111.out 5;have hfz12_6:=blk_frozen BK111.out 6;have hfz12_7:=blk_frozen BK111.out 7)|((with_reducible refine gate_callee (f:=72) rfl ?_);refine goesL_ (some 10) rfl rfl Try.func72 (by kernel_rfl) rfl #[.slice none 0 0,.int .i64 a0_7,.int .i64 1] rfl (by (try simp only [List.map_toArray,List.map_cons,List.map_nil]);first|done|rfl|(simp only [List.length_drop,List.length_take];rfl)) ?_;(refine (cmd_field_int.calls k (fun k_=>some k_=(.slice none 0 0:Value).ownBlock) (.slice none 0 0) ([]:List Int) a0_7 1 t113 w _ ?side1 ?side2 A4.out).mono ?_);(case side1=>repeat (first|(with_reducible first|exact HB.out|apply below_alloc|apply pw_below_drewN|apply below_drew1|refine below_set ?_ GE111.out)|exact HB.out));(case side2=>exact Kd.R_nil _ _ _ _ _);rintro e w13 ⟨v114,rfl,ho0,hb,hkp⟩;refine ⟨_,rfl,?_⟩;have n0_:=Aside0.mk (blk_kept (by (with_reducible repeat (first|refine blk_drewN ?_ _|refine blk_drew ?_|refine blk_alloc ?_ _));exact BK111.out) hkp (fun hs_=>(fun e_=>by simp [Value.ownBlock] at e_) hs_));have n1_:=Aside0.mk (Kd.R_mono (ok':=fun k_=>True) ho0 (fun k_ hk_=>trivial));have n2_:=Aside0.mk (hb);clear BK111;clear HB;have BK111:=n0_;have HO115:=n1_;have HB:=n2_;clear n0_ n1_ n2_;(try clear hb);(try clear hkp);(try clear ho0);have hcz14_0:w13.cell? ⟨gb111,0,none⟩=some (.int .i64 a0_0):=(blk_cell BK111.out 0).trans rfl;have hcz14_1:w13.cell? ⟨gb111,1,none⟩=some (.int .i64 a0_1):=(blk_cell BK111.out 1).trans rfl;have hcz14_2:w13.cell? ⟨gb111,2,none⟩=some (.int .i64 a0_2):=(blk_cell BK111.out 2).trans rfl;have hcz14_3:w13.cell? ⟨gb111,3,none⟩=some (.int .i64 a0_3):=(blk_cell BK111.out 3).trans rfl;have hcz14_4:w13.cell? ⟨gb111,4,none⟩=some (.int .i64 a0_4):=(blk_cell BK111.out 4).trans rfl;have hcz14_5:w13.cell? ⟨gb111,5,none⟩=some (.int .i64 a0_5):=(blk_cell BK111.out 5).trans rfl;have hcz14_6:w13.cell? ⟨gb111,6,none⟩=some (.slice A0_6 l0_6.length c0_6):=(blk_cell BK111.out 6).trans rfl;have hcz14_7:w13.cell? ⟨gb111,7,none⟩=some (.int .i64 a0_7):=(blk_cell BK111.out 7).trans rfl;have hfz14_0:=blk_frozen BK111.out 0;have hfz14_1:=blk_frozen BK111.out 1;have hfz14_2:=blk_frozen BK111.out 2;have hfz14_3:=blk_frozen BK111.out 3;have hfz14_4:=blk_frozen BK111.out 4;have hfz14_5:=blk_frozen BK111.out 5;have hfz14_6:=blk_frozen BK111.out 6;have hfz14_7:=blk_frozen BK111.out 7))
      have n0_:=Aside0.mk (Kd.R_drew HO115.out)
      have n1_:=Aside0.mk (blk_drew BK111.out)
      have n2_:=Aside0.mk (below_drew1 HB.out)
      clear HO115
      clear BK111
      clear HB
      have HO115:=n0_
      have BK111:=n1_
      have HB:=n2_
      clear n0_ n1_ n2_
      obtain ⟨Ao16,co16,eo16⟩:=Kd.R_slice HO115.out
      (first|subst eo16|(injection eo16 with f1_ f2_ f3_;have f4_:=f1_.symm;have f5_:=f3_.symm;clear f1_ f2_ f3_;subst f4_;subst f5_))
      refine start_ (n:=15) (S:=fun w'=>w'.cell? ⟨gb111,0,none⟩=some (.int .i64 a0_0)∧w'.cell? ⟨gb111,1,none⟩=some (.int .i64 a0_1)∧w'.cell? ⟨gb111,2,none⟩=some (.int .i64 a0_2)∧w'.cell? ⟨gb111,3,none⟩=some (.int .i64 a0_3)∧w'.cell? ⟨gb111,4,none⟩=some (.int .i64 a0_4)∧w'.cell? ⟨gb111,5,none⟩=some (.int .i64 a0_5)∧w'.cell? ⟨gb111,6,none⟩=some (.slice A0_6 l0_6.length c0_6)∧w'.cell? ⟨gb111,7,none⟩=some (.int .i64 a0_7)) (ds:=[]) #[false,false,false,false,false,false,false,false,false,false,false,false,false,false,false] (by kernel_rfl) rfl rfl ⟨(blk_cell BK111.out 0).trans rfl,(blk_cell BK111.out 1).trans rfl,(blk_cell BK111.out 2).trans rfl,(blk_cell BK111.out 3).trans rfl,(blk_cell BK111.out 4).trans rfl,(blk_cell BK111.out 5).trans rfl,(blk_cell BK111.out 6).trans rfl,(blk_cell BK111.out 7).trans rfl⟩ (fun hHeld=>?_);refine with_tabW cmd_Encode.tab6 cmd_Encode.bits6 (fun HT_ HW_=>?_)
      generalize w13.drew=w15 at HO115 BK111 HB hHeld ⊢
      refine pure_ (i:=0) (N:=some 15) (v:=?_) (a':=?_) #[true,false,false,false,false,false,false,false,false,false,false,false,false,false,false] rfl rfl (any_of HT_.out (by kernel_rfl)) (fun _ _ _ h=>h) (Or.inl ⟨by rfl,?_⟩) ?_ ?_
      rotate_left
      · intro w'
        go_simp
        with_reducible rfl
      rotate_left
      · simp only [Act.put,List.setIfInBounds_toArray,List.set_cons_zero,List.set_cons_succ,i64_w,i32_w]
        rfl
      refine pure_ (i:=1) (N:=some 16) (v:=?_) (a':=?_) #[true,true,false,false,false,false,false,false,false,false,false,false,false,false,false] rfl rfl (any_of HT_.out (by kernel_rfl)) (fun _ _ _ h=>h) (Or.inl ⟨by rfl,?_⟩) ?_ ?_
      rotate_left
      · intro w'
        go_simp
        with_reducible rfl
      rotate_left
      · simp only [Act.put,List.setIfInBounds_toArray,List.set_cons_zero,List.set_cons_succ,i64_w,i32_w]
        rfl
      refine pure_ (i:=2) (N:=some 17) (v:=?_) (a':=?_) #[true,true,true,false,false,false,false,false,false,false,false,false,false,false,false] rfl rfl (any_of HT_.out (by kernel_rfl)) (fun _ _ _ h=>h) (Or.inl ⟨by rfl,?_⟩) ?_ ?_
      rotate_left
      · intro w'
        go_simp
        with_reducible rfl
      rotate_left
      · simp only [Act.put,List.setIfInBounds_toArray,List.set_cons_zero,List.set_cons_succ,i64_w,i32_w]
        rfl
      refine pure_ (i:=5) (N:=some 20) (v:=?_) (a':=?_) #[true,true,true,false,false,true,false,false,false,false,false,false,false,false,false] rfl rfl (any_of HT_.out (by kernel_rfl)) (fun _ _ _ h=>h) (Or.inl ⟨by rfl,?_⟩) ?_ ?_
      rotate_left
      · intro w'
        go_simp
        with_reducible rfl
      rotate_left
      · simp only [Act.put,List.setIfInBounds_toArray,List.set_cons_zero,List.set_cons_succ,i64_w,i32_w]
        rfl
      refine pure_ (i:=6) (N:=some 21) (v:=?_) (a':=?_) #[true,true,true,false,false,true,true,false,false,false,false,false,false,false,false] rfl rfl (any_of HT_.out (by kernel_rfl)) (fun _ _ _ h=>h) (Or.inl ⟨by rfl,?_⟩) ?_ ?_
      rotate_left
      · intro w'
        go_simp
        with_reducible rfl
      rotate_left
      · simp only [Act.put,List.setIfInBounds_toArray,List.set_cons_zero,List.set_cons_succ,i64_w,i32_w]
        rfl
      refine pure_ (i:=9) (N:=some 24) (v:=?_) (a':=?_) #[true,true,true,false,false,true,true,false,false,true,false,false,false,false,false] rfl rfl (any_of HT_.out (by kernel_rfl)) (fun _ _ _ h=>h) (Or.inl ⟨by rfl,?_⟩) ?_ ?_
      rotate_left
      · intro w'
        go_simp
        with_reducible rfl
      rotate_left
      · simp only [Act.put,List.setIfInBounds_toArray,List.set_cons_zero,List.set_cons_succ,i64_w,i32_w]
        rfl
      refine pure_ (i:=10) (N:=some 25) (v:=?_) (a':=?_) #[true,true,true,false,false,true,true,false,false,true,true,false,false,false,false] rfl rfl (any_of HT_.out (by kernel_rfl)) (fun _ _ _ h=>h) (Or.inl ⟨by rfl,?_⟩) ?_ ?_
      rotate_left
      · intro w'
        go_simp
        with_reducible rfl
      rotate_left
      · simp only [Act.put,List.setIfInBounds_toArray,List.set_cons_zero,List.set_cons_succ,i64_w,i32_w]
        rfl
      refine take_ (i:=3) (N:=some 18) (v:=?_) (a':=?_) #[true,true,true,true,false,true,true,false,false,true,true,false,false,false,false] rfl rfl (take_ofW HT_.out HW_.out (by kernel_rfl)) (fun _ _ _ h=>h) (Or.inl ⟨by rfl,?_⟩) hHeld ?_ ?_
      rotate_left
      · rintro w' ⟨s0,s1,s2,s3,s4,s5,s6,s7⟩
        go_simp
        with_reducible rfl
      rotate_left
      · simp only [Act.put,List.setIfInBounds_toArray,List.set_cons_zero,List.set_cons_succ,i64_w,i32_w]
        rfl
      refine take_ (i:=7) (N:=some 22) (v:=?_) (a':=?_) #[true,true,true,true,false,true,true,true,false,true,true,false,false,false,false] rfl rfl (take_ofW HT_.out HW_.out (by kernel_rfl)) (fun _ _ _ h=>h) (Or.inl ⟨by rfl,?_⟩) hHeld ?_ ?_
      rotate_left
      · rintro w' ⟨s0,s1,s2,s3,s4,s5,s6,s7⟩
        go_simp
        with_reducible rfl
      rotate_left
      · simp only [Act.put,List.setIfInBounds_toArray,List.set_cons_zero,List.set_cons_succ,i64_w,i32_w]
        rfl
      refine take_ (i:=11) (N:=some 26) (v:=?_) (a':=?_) #[true,true,true,true,false,true,true,true,false,true,true,true,false,false,false] rfl rfl (take_ofW HT_.out HW_.out (by kernel_rfl)) (fun _ _ _ h=>h) (Or.inl ⟨by rfl,?_⟩) hHeld ?_ ?_
      rotate_left
      · rintro w' ⟨s0,s1,s2,s3,s4,s5,s6,s7⟩
        go_simp
        with_reducible rfl
      rotate_left
      · simp only [Act.put,List.setIfInBounds_toArray,List.set_cons_zero,List.set_cons_succ,i64_w,i32_w]
        rfl
      refine one_ (i:=4) (N:=some 19) #[true,true,true,true,true,true,true,true,false,true,true,true,false,false,false] rfl rfl (one_of HT_.out (by kernel_rfl)) (by decide) (fun K hK=>?_)
      refine goes_ Try.func72 (by kernel_rfl) rfl #[.slice Ao16 t113.length co16,.int .i64 a0_2,.int .i64 1] (by rfl) rfl rfl (by (try simp only [List.map_toArray,List.map_cons,List.map_nil]);first|done|rfl|(simp only [List.length_drop,List.length_take];rfl)) ?_
      with_reducible refine (cmd_field_int.calls k (fun k_=>some k_=(.slice Ao16 t113.length co16:Value).ownBlock) (.slice Ao16 t113.length co16) t113 a0_2 1 t116 w _ ?side1 ?side2 A6.out).mono ?_
      (case side1=>repeat (first|(with_reducible first|exact HB.out|apply below_alloc|apply pw_below_drewN|apply below_drew1|refine below_set ?_ GE111.out)|exact HB.out))
      (case side2=>exact Kd.R_tight rfl HO115.out)
      rintro e w17 ⟨v117,rfl,ho0,hb,hkp⟩
      refine ⟨_,rfl,?_⟩
      have n0_:=Aside0.mk (blk_kept (by (with_reducible repeat (first|refine blk_drewN ?_ _|refine blk_drew ?_|refine blk_alloc ?_ _));exact BK111.out) hkp (fun hs_=>(fun e_=>(Kd.R_ne HO115.out BK111.out (by decide)) e_) hs_))
      have n1_:=Aside0.mk (Kd.R_mono (ok':=fun k_=>True) ho0 (fun k_ hk_=>trivial))
      have n2_:=Aside0.mk (hb)
      clear BK111
      clear HB
      clear HO115
      have BK111:=n0_
      have HO118:=n1_
      have HB:=n2_
      clear n0_ n1_ n2_
      (try clear hb)
      (try clear hkp)
      (try clear ho0)
      obtain ⟨Ao18,co18,eo18⟩:=Kd.R_slice HO118.out
      (first|subst eo18|(injection eo18 with f1_ f2_ f3_;have f4_:=f1_.symm;have f5_:=f3_.symm;clear f1_ f2_ f3_;subst f4_;subst f5_))
      refine hK.out _ _ ⟨(blk_cell BK111.out 0).trans rfl,(blk_cell BK111.out 1).trans rfl,(blk_cell BK111.out 2).trans rfl,(blk_cell BK111.out 3).trans rfl,(blk_cell BK111.out 4).trans rfl,(blk_cell BK111.out 5).trans rfl,(blk_cell BK111.out 6).trans rfl,(blk_cell BK111.out 7).trans rfl⟩ (fun hHeld=>?_)
      clear hK K
      refine norm_ (a':=?_) ?_ ?_
      rotate_left
      · show Act.put _ (some 19) _=_
        simp only [Act.put,List.setIfInBounds_toArray,List.set_cons_zero,List.set_cons_succ,i64_w,i32_w]
        rfl
      refine one_ (i:=8) (N:=some 23) #[true,true,true,true,true,true,true,true,true,true,true,true,false,false,false] rfl rfl (one_of HT_.out (by kernel_rfl)) (by decide) (fun K hK=>?_)
      refine goes_ Try.func72 (by kernel_rfl) rfl #[.slice Ao18 t116.length co18,.int .i64 a0_3,.int .i64 2] (by rfl) rfl rfl (by (try simp only [List.map_toArray,List.map_cons,List.map_nil]);first|done|rfl|(simp only [List.length_drop,List.length_take];rfl)) ?_
      with_reducible refine (cmd_field_int.calls k (fun k_=>some k_=(.slice Ao18 t116.length co18:Value).ownBlock) (.slice Ao18 t116.length co18) t116 a0_3 2 t119 w _ ?side1 ?side2 A7.out).mono ?_
      (case side1=>repeat (first|(with_reducible first|exact HB.out|apply below_alloc|apply pw_below_drewN|apply below_drew1|refine below_set ?_ GE111.out)|exact HB.out))
      (case side2=>exact Kd.R_tight rfl HO118.out)
      rintro e w19 ⟨v120,rfl,ho0,hb,hkp⟩
      refine ⟨_,rfl,?_⟩
      have n0_:=Aside0.mk (blk_kept (by (with_reducible repeat (first|refine blk_drewN ?_ _|refine blk_drew ?_|refine blk_alloc ?_ _));exact BK111.out) hkp (fun hs_=>(fun e_=>(Kd.R_ne HO118.out BK111.out (by decide)) e_) hs_))
      have n1_:=Aside0.mk (Kd.R_mono (ok':=fun k_=>True) ho0 (fun k_ hk_=>trivial))
      have n2_:=Aside0.mk (hb)
      clear BK111
      clear HB
      clear HO118
      have BK111:=n0_
      have HO121:=n1_
      have HB:=n2_
      clear n0_ n1_ n2_
      (try clear hb)
      (try clear hkp)
      (try clear ho0)
      obtain ⟨Ao20,co20,eo20⟩:=Kd.R_slice HO121.out
      (first|subst eo20|(injection eo20 with f1_ f2_ f3_;have f4_:=f1_.symm;have f5_:=f3_.symm;clear f1_ f2_ f3_;subst f4_;subst f5_))
      refine hK.out _ _ ⟨(blk_cell BK111.out 0).trans rfl,(blk_cell BK111.out 1).trans rfl,(blk_cell BK111.out 2).trans rfl,(blk_cell BK111.out 3).trans rfl,(blk_cell BK111.out 4).trans rfl,(blk_cell BK111.out 5).trans rfl,(blk_cell BK111.out 6).trans rfl,(blk_cell BK111.out 7).trans rfl⟩ (fun hHeld=>?_)
      clear hK K
      refine norm_ (a':=?_) ?_ ?_
      rotate_left
      · show Act.put _ (some 23) _=_
        simp only [Act.put,List.setIfInBounds_toArray,List.set_cons_zero,List.set_cons_succ,i64_w,i32_w]
        rfl
      refine one_ (i:=12) (N:=some 27) #[true,true,true,true,true,true,true,true,true,true,true,true,true,false,false] rfl rfl (one_of HT_.out (by kernel_rfl)) (by decide) (fun K hK=>?_)
      refine goes_ Try.func72 (by kernel_rfl) rfl #[.slice Ao20 t119.length co20,.int .i64 a0_4,.int .i64 4] (by rfl) rfl rfl (by (try simp only [List.map_toArray,List.map_cons,List.map_nil]);first|done|rfl|(simp only [List.length_drop,List.length_take];rfl)) ?_
      with_reducible refine (cmd_field_int.calls k (fun k_=>some k_=(.slice Ao20 t119.length co20:Value).ownBlock) (.slice Ao20 t119.length co20) t119 a0_4 4 t122 w _ ?side1 ?side2 A8.out).mono ?_
      (case side1=>repeat (first|(with_reducible first|exact HB.out|apply below_alloc|apply pw_below_drewN|apply below_drew1|refine below_set ?_ GE111.out)|exact HB.out))
      (case side2=>exact Kd.R_tight rfl HO121.out)
      rintro e w21 ⟨v123,rfl,ho0,hb,hkp⟩
      refine ⟨_,rfl,?_⟩
      have n0_:=Aside0.mk (blk_kept (by (with_reducible repeat (first|refine blk_drewN ?_ _|refine blk_drew ?_|refine blk_alloc ?_ _));exact BK111.out) hkp (fun hs_=>(fun e_=>(Kd.R_ne HO121.out BK111.out (by decide)) e_) hs_))
      have n1_:=Aside0.mk (Kd.R_mono (ok':=fun k_=>True) ho0 (fun k_ hk_=>trivial))
      have n2_:=Aside0.mk (hb)
      clear BK111
      clear HB
      clear HO121
      have BK111:=n0_
      have HO124:=n1_
      have HB:=n2_
      clear n0_ n1_ n2_
      (try clear hb)
      (try clear hkp)
      (try clear ho0)
      refine hK.out _ _ ⟨(blk_cell BK111.out 0).trans rfl,(blk_cell BK111.out 1).trans rfl,(blk_cell BK111.out 2).trans rfl,(blk_cell BK111.out 3).trans rfl,(blk_cell BK111.out 4).trans rfl,(blk_cell BK111.out 5).trans rfl,(blk_cell BK111.out 6).trans rfl,(blk_cell BK111.out 7).trans rfl⟩ (fun hHeld=>?_)
      clear hK K
      refine norm_ (a':=?_) ?_ ?_
      rotate_left
      · show Act.put _ (some 27) _=_
        simp only [Act.put,List.setIfInBounds_toArray,List.set_cons_zero,List.set_cons_succ,i64_w,i32_w]
        rfl
      refine pure_ (i:=13) (N:=some 2) (v:=?_) (a':=?_) #[true,true,true,true,true,true,true,true,true,true,true,true,true,true,false] rfl rfl (any_of HT_.out (by kernel_rfl)) (fun _ _ _ h=>h) (Or.inl ⟨by rfl,?_⟩) ?_ ?_
      rotate_left
      · intro w'
        go_simp
        with_reducible rfl
      rotate_left
      · simp only [Act.put,List.setIfInBounds_toArray,List.set_cons_zero,List.set_cons_succ,i64_w,i32_w]
        rfl
      refine pure_ (i:=14) (N:=some 3) (v:=?_) (a':=?_) #[true,true,true,true,true,true,true,true,true,true,true,true,true,true,true] rfl rfl (any_of HT_.out (by kernel_rfl)) (fun _ _ _ h=>h) (Or.inl ⟨by rfl,?_⟩) ?_ ?_
      rotate_left
      · intro w'
        go_simp
        with_reducible rfl
      rotate_left
      · simp only [Act.put,List.setIfInBounds_toArray,List.set_cons_zero,List.set_cons_succ,i64_w,i32_w]
        rfl
      refine done_ (done_of HT_.out (by kernel_rfl)) ?_
      try go_wp2
      go_ret2
      exact ⟨_,by first|rfl|(simp [errW_none,errW_some]<;>rfl)|(simp [*,errW_none,errW_some]<;>rfl),by (with_reducible repeat (first|apply Kd.R_alloc|apply Kd.R_drewN|apply Kd.R_drew));exact HO124.out,by repeat (first|(with_reducible first|exact HB.out|apply below_alloc|apply pw_below_drewN|apply below_drew1|refine below_set ?_ GE111.out)|exact HB.out)⟩
    · rw [if_neg c5] at H
      have c5b0:(a0_0 == 1)=false:=beq_eq_false_iff_ne.mpr c5
      have c5b1:(a0_0 != 1)=true:=bne_iff_ne.mpr c5
      by_cases c22:a0_0=2
      · rw [if_pos c22] at H
        have c22b0:(a0_0 == 2)=true:=beq_iff_eq.mpr c22
        have c22b1:(a0_0 != 2)=false:=bne_eq_false_iff_eq.mpr c22
        clear c22
        replace H:=Option.bind_eq_some_iff.mp H
        obtain ⟨t125,A230,H⟩:=H
        replace H:(some (t125,0))=some (r1,r2):=H
        have A23:=Aside0.mk A230
        clear A230
        simp only [Option.some.injEq,Prod.mk.injEq] at H
        obtain ⟨rfl,rfl⟩:=H
        go_enter Try.func19,Try.ntmps19
        go_wp2_with (first|((with_reducible refine gate_dst (N:=1) rfl ?_);refine box_event ?hg (N:=1) ?hd (cs:=#[.int .i64 a0_0,.int .i64 a0_1,.int .i64 a0_2,.int .i64 a0_3,.int .i64 a0_4,.int .i64 a0_5,.slice A0_6 l0_6.length c0_6,.int .i64 a0_7]) (t:=27) ?hr ?_;(case hd=>rfl);(case hg=>rfl);(case hr=>first|(go_simp;done)|(go_simp;rfl));intro gb111 hg w24 hbox hb;have n0_:=Aside0.mk (below_step (by repeat (first|(with_reducible first|exact HB.out|apply below_alloc|apply pw_below_drewN|apply below_drew1)|exact HB.out)) hb);have n1_:=Aside0.mk (hbox);have n2_:=Aside0.mk ((by rw [hg];exact (below_size (by repeat (first|(with_reducible first|exact HB.out|apply below_alloc|apply pw_below_drewN|apply below_drew1)|exact HB.out))):w.heap.size≤gb111));have n3_:=Aside0.mk ((by rw [hg];exact (below_size (by repeat (first|(with_reducible first|exact HB.out|apply below_alloc|apply pw_below_drewN|apply below_drew1)|exact HB.out))):w.heap.size≤gb111));clear HB;have HB:=n0_;have BK111:=n1_;have GW111:=n2_;have GE111:=n3_;clear n0_ n1_ n2_ n3_;clear hb hbox hg;have hcz25_0:w24.cell? ⟨gb111,0,none⟩=some (.int .i64 a0_0):=(blk_cell BK111.out 0).trans rfl;have hcz25_1:w24.cell? ⟨gb111,1,none⟩=some (.int .i64 a0_1):=(blk_cell BK111.out 1).trans rfl;have hcz25_2:w24.cell? ⟨gb111,2,none⟩=some (.int .i64 a0_2):=(blk_cell BK111.out 2).trans rfl;have hcz25_3:w24.cell? ⟨gb111,3,none⟩=some (.int .i64 a0_3):=(blk_cell BK111.out 3).trans rfl;have hcz25_4:w24.cell? ⟨gb111,4,none⟩=some (.int .i64 a0_4):=(blk_cell BK111.out 4).trans rfl;have hcz25_5:w24.cell? ⟨gb111,5,none⟩=some (.int .i64 a0_5):=(blk_cell BK111.out 5).trans rfl;have hcz25_6:w24.cell? ⟨gb111,6,none⟩=some (.slice A0_6 l0_6.length c0_6):=(blk_cell BK111.out 6).trans rfl;have hcz25_7:w24.cell? ⟨gb111,7,none⟩=some (.int .i64 a0_7):=(blk_cell BK111.out 7).trans rfl;have hfz25_0:=blk_frozen BK111.out 0;have hfz25_1:=blk_frozen BK111.out 1;have hfz25_2:=blk_frozen BK111.out 2;have hfz25_3:=blk_frozen BK111.out 3;have hfz25_4:=blk_frozen BK111.out 4;have hfz25_5:=blk_frozen BK111.out 5;have hfz25_6:=blk_frozen BK111.out 6;have hfz25_7:=blk_frozen BK111.out 7)|((with_reducible refine gate_callee (f:=71) rfl ?_);refine goesL_ (some 6) rfl rfl Try.func71 (by kernel_rfl) rfl #[.agg #[.int .i64 a0_0,.int .i64 a0_1,.int .i64 a0_2,.int .i64 a0_3,.int .i64 a0_4,.int .i64 a0_5,.slice A0_6 l0_6.length c0_6,.int .i64 a0_7]] rfl (by (try simp only [List.map_toArray,List.map_cons,List.map_nil]);first|done|rfl|(simp only [List.length_drop,List.length_take];rfl)) ?_;(with_reducible refine (cmd_good.calls k a0_0 a0_1 a0_2 a0_3 a0_4 a0_5 _ _ l0_6 a0_7 true _ ?side1 ?side2 A2.out).mono ?_);(case side1=>repeat (first|exact (Kd.C_below HR0_6.out HB.out)|(with_reducible refine Kd.C_alloc ?_ _)|(with_reducible refine Kd.C_drewN ?_ _)|(with_reducible refine Kd.C_drew ?_)));(case side2=>exact HC0_6.out);rintro e w26 ⟨rfl,hb⟩;refine ⟨_,rfl,?_⟩;have n0_:=Aside0.mk (blk_below (g:=gb111) (o := .cells #[.int .i64 a0_0,.int .i64 a0_1,.int .i64 a0_2,.int .i64 a0_3,.int .i64 a0_4,.int .i64 a0_5,.slice A0_6 l0_6.length c0_6,.int .i64 a0_7] 27 (0,0)) (by (with_reducible repeat (first|refine blk_drewN ?_ _|refine blk_drew ?_|refine blk_alloc ?_ _));exact BK111.out) hb);have n1_:=Aside0.mk (below_step (by repeat (first|(with_reducible first|exact HB.out|apply below_alloc|apply pw_below_drewN|apply below_drew1|refine below_set ?_ GE111.out)|exact HB.out)) hb);clear BK111;clear HB;have BK111:=n0_;have HB:=n1_;clear n0_ n1_;(try clear hb);(try clear hb2);(try clear hk);(try clear hi);have hcz27_0:w26.cell? ⟨gb111,0,none⟩=some (.int .i64 a0_0):=(blk_cell BK111.out 0).trans rfl;have hcz27_1:w26.cell? ⟨gb111,1,none⟩=some (.int .i64 a0_1):=(blk_cell BK111.out 1).trans rfl;have hcz27_2:w26.cell? ⟨gb111,2,none⟩=some (.int .i64 a0_2):=(blk_cell BK111.out 2).trans rfl;have hcz27_3:w26.cell? ⟨gb111,3,none⟩=some (.int .i64 a0_3):=(blk_cell BK111.out 3).trans rfl;have hcz27_4:w26.cell? ⟨gb111,4,none⟩=some (.int .i64 a0_4):=(blk_cell BK111.out 4).trans rfl;have hcz27_5:w26.cell? ⟨gb111,5,none⟩=some (.int .i64 a0_5):=(blk_cell BK111.out 5).trans rfl;have hcz27_6:w26.cell? ⟨gb111,6,none⟩=some (.slice A0_6 l0_6.length c0_6):=(blk_cell BK111.out 6).trans rfl;have hcz27_7:w26.cell? ⟨gb111,7,none⟩=some (.int .i64 a0_7):=(blk_cell BK111.out 7).trans rfl;have hfz27_0:=blk_frozen BK111.out 0;have hfz27_1:=blk_frozen BK111.out 1;have hfz27_2:=blk_frozen BK111.out 2;have hfz27_3:=blk_frozen BK111.out 3;have hfz27_4:=blk_frozen BK111.out 4;have hfz27_5:=blk_frozen BK111.out 5;have hfz27_6:=blk_frozen BK111.out 6;have hfz27_7:=blk_frozen BK111.out 7)|((with_reducible refine gate_callee (f:=72) rfl ?_);refine goesL_ (some 10) rfl rfl Try.func72 (by kernel_rfl) rfl #[.slice none 0 0,.int .i64 a0_7,.int .i64 1] rfl (by (try simp only [List.map_toArray,List.map_cons,List.map_nil]);first|done|rfl|(simp only [List.length_drop,List.length_take];rfl)) ?_;(refine (cmd_field_int.calls k (fun k_=>some k_=(.slice none 0 0:Value).ownBlock) (.slice none 0 0) ([]:List Int) a0_7 1 t113 w _ ?side1 ?side2 A4.out).mono ?_);(case side1=>repeat (first|(with_reducible first|exact HB.out|apply below_alloc|apply pw_below_drewN|apply below_drew1|refine below_set ?_ GE111.out)|exact HB.out));(case side2=>exact Kd.R_nil _ _ _ _ _);rintro e w28 ⟨v114,rfl,ho0,hb,hkp⟩;refine ⟨_,rfl,?_⟩;have n0_:=Aside0.mk (blk_kept (by (with_reducible repeat (first|refine blk_drewN ?_ _|refine blk_drew ?_|refine blk_alloc ?_ _));exact BK111.out) hkp (fun hs_=>(fun e_=>by simp [Value.ownBlock] at e_) hs_));have n1_:=Aside0.mk (Kd.R_mono (ok':=fun k_=>True) ho0 (fun k_ hk_=>trivial));have n2_:=Aside0.mk (hb);clear BK111;clear HB;have BK111:=n0_;have HO115:=n1_;have HB:=n2_;clear n0_ n1_ n2_;(try clear hb);(try clear hkp);(try clear ho0);have hcz29_0:w28.cell? ⟨gb111,0,none⟩=some (.int .i64 a0_0):=(blk_cell BK111.out 0).trans rfl;have hcz29_1:w28.cell? ⟨gb111,1,none⟩=some (.int .i64 a0_1):=(blk_cell BK111.out 1).trans rfl;have hcz29_2:w28.cell? ⟨gb111,2,none⟩=some (.int .i64 a0_2):=(blk_cell BK111.out 2).trans rfl;have hcz29_3:w28.cell? ⟨gb111,3,none⟩=some (.int .i64 a0_3):=(blk_cell BK111.out 3).trans rfl;have hcz29_4:w28.cell? ⟨gb111,4,none⟩=some (.int .i64 a0_4):=(blk_cell BK111.out 4).trans rfl;have hcz29_5:w28.cell? ⟨gb111,5,none⟩=some (.int .i64 a0_5):=(blk_cell BK111.out 5).trans rfl;have hcz29_6:w28.cell? ⟨gb111,6,none⟩=some (.slice A0_6 l0_6.length c0_6):=(blk_cell BK111.out 6).trans rfl;have hcz29_7:w28.cell? ⟨gb111,7,none⟩=some (.int .i64 a0_7):=(blk_cell BK111.out 7).trans rfl;have hfz29_0:=blk_frozen BK111.out 0;have hfz29_1:=blk_frozen BK111.out 1;have hfz29_2:=blk_frozen BK111.out 2;have hfz29_3:=blk_frozen BK111.out 3;have hfz29_4:=blk_frozen BK111.out 4;have hfz29_5:=blk_frozen BK111.out 5;have hfz29_6:=blk_frozen BK111.out 6;have hfz29_7:=blk_frozen BK111.out 7;obtain ⟨Ao30,co30,eo30⟩:=Kd.R_slice HO115.out;subst eo30)|((with_reducible refine gate_callee (f:=72) rfl ?_);refine goesL_ (some 34) rfl rfl Try.func72 (by kernel_rfl) rfl #[.slice Ao30 t113.length co30,.int .i64 a0_2,.int .i64 1] rfl (by (try simp only [List.map_toArray,List.map_cons,List.map_nil]);first|done|rfl|(simp only [List.length_drop,List.length_take];rfl)) ?_;(with_reducible refine (cmd_field_int.calls k (fun k_=>some k_=(.slice Ao30 t113.length co30:Value).ownBlock) (.slice Ao30 t113.length co30) t113 a0_2 1 t125 w _ ?side1 ?side2 A23.out).mono ?_);(case side1=>repeat (first|(with_reducible first|exact HB.out|apply below_alloc|apply pw_below_drewN|apply below_drew1|refine below_set ?_ GE111.out)|exact HB.out));(case side2=>exact Kd.R_tight rfl HO115.out);rintro e w31 ⟨v126,rfl,ho0,hb,hkp⟩;refine ⟨_,rfl,?_⟩;have n0_:=Aside0.mk (blk_kept (by (with_reducible repeat (first|refine blk_drewN ?_ _|refine blk_drew ?_|refine blk_alloc ?_ _));exact BK111.out) hkp (fun hs_=>(fun e_=>(Kd.R_ne HO115.out BK111.out (by decide)) e_) hs_));have n1_:=Aside0.mk (Kd.R_mono (ok':=fun k_=>True) ho0 (fun k_ hk_=>trivial));have n2_:=Aside0.mk (hb);clear BK111;clear HB;clear HO115;have BK111:=n0_;have HO127:=n1_;have HB:=n2_;clear n0_ n1_ n2_;(try clear hb);(try clear hkp);(try clear ho0)))
        go_ret2
        exact ⟨_,by first|rfl|(simp [errW_none,errW_some]<;>rfl)|(simp [*,errW_none,errW_some]<;>rfl),by (with_reducible repeat (first|apply Kd.R_alloc|apply Kd.R_drewN|apply Kd.R_drew));exact HO127.out,by repeat (first|(with_reducible first|exact HB.out|apply below_alloc|apply pw_below_drewN|apply below_drew1|refine below_set ?_ GE111.out)|exact HB.out)⟩
      · rw [if_neg c22] at H
        have c22b0:(a0_0 == 2)=false:=beq_eq_false_iff_ne.mpr c22
        have c22b1:(a0_0 != 2)=true:=bne_iff_ne.mpr c22
        by_cases c32:a0_0=4
        · rw [if_pos c32] at H
          have c32b0:(a0_0 == 4)=true:=beq_iff_eq.mpr c32
          have c32b1:(a0_0 != 4)=false:=bne_eq_false_iff_eq.mpr c32
          clear c32
          replace H:=Option.bind_eq_some_iff.mp H
          obtain ⟨t128,A330,H⟩:=H
          replace H:(if t128.length+l0_6.length<140737488355328 then (some ((t128++l0_6),0)) else (none))=some (r1,r2):=H
          have A33:=Aside0.mk A330
          clear A330
          by_cases c34:t128.length+l0_6.length<140737488355328
          · rw [if_pos c34] at H
            have LMc34:=Aside0.mk c34
            clear c34
            obtain ⟨y131,hy131⟩:∃ y_:List Int,y_=(t128++l0_6):=⟨_,rfl⟩
            replace H:(some (y131,0))=some (r1,r2):=by first|(rw [hy131];with_reducible exact H)|(have H2_:=(Option.bind_some _ _).symm.trans H;rw [hy131];with_reducible exact H2_)|(have H2_:=(Option.bind_some _ _).symm.trans H;with_reducible exact H2_)|with_reducible exact H|(rw [hy131];exact H)|exact H
            have Ny131:=Aside0.mk hy131
            clear hy131
            simp only [Option.some.injEq,Prod.mk.injEq] at H
            obtain ⟨rfl,rfl⟩:=H
            go_enter Try.func19,Try.ntmps19
            try go_wp2_with (first|((with_reducible refine gate_dst (N:=1) rfl ?_);refine box_event ?hg (N:=1) ?hd (cs:=#[.int .i64 a0_0,.int .i64 a0_1,.int .i64 a0_2,.int .i64 a0_3,.int .i64 a0_4,.int .i64 a0_5,.slice A0_6 l0_6.length c0_6,.int .i64 a0_7]) (t:=27) ?hr ?_;(case hd=>rfl);(case hg=>rfl);(case hr=>first|(go_simp;done)|(go_simp;rfl));intro gb111 hg w35 hbox hb;have n0_:=Aside0.mk (below_step (by repeat (first|(with_reducible first|exact HB.out|apply below_alloc|apply pw_below_drewN|apply below_drew1)|exact HB.out)) hb);have n1_:=Aside0.mk (hbox);have n2_:=Aside0.mk ((by rw [hg];exact (below_size (by repeat (first|(with_reducible first|exact HB.out|apply below_alloc|apply pw_below_drewN|apply below_drew1)|exact HB.out))):w.heap.size≤gb111));have n3_:=Aside0.mk ((by rw [hg];exact (below_size (by repeat (first|(with_reducible first|exact HB.out|apply below_alloc|apply pw_below_drewN|apply below_drew1)|exact HB.out))):w.heap.size≤gb111));clear HB;have HB:=n0_;have BK111:=n1_;have GW111:=n2_;have GE111:=n3_;clear n0_ n1_ n2_ n3_;clear hb hbox hg;have hcz36_0:w35.cell? ⟨gb111,0,none⟩=some (.int .i64 a0_0):=(blk_cell BK111.out 0).trans rfl;have hcz36_1:w35.cell? ⟨gb111,1,none⟩=some (.int .i64 a0_1):=(blk_cell BK111.out 1).trans rfl;have hcz36_2:w35.cell? ⟨gb111,2,none⟩=some (.int .i64 a0_2):=(blk_cell BK111.out 2).trans rfl;have hcz36_3:w35.cell? ⟨gb111,3,none⟩=some (.int .i64 a0_3):=(blk_cell BK111.out 3).trans rfl;have hcz36_4:w35.cell? ⟨gb111,4,none⟩=some (.int .i64 a0_4):=(blk_cell BK111.out 4).trans rfl;have hcz36_5:w35.cell? ⟨gb111,5,none⟩=some (.int .i64 a0_5):=(blk_cell BK111.out 5).trans rfl;have hcz36_6:w35.cell? ⟨gb111,6,none⟩=some (.slice A0_6 l0_6.length c0_6):=(blk_cell BK111.out 6).trans rfl;have hcz36_7:w35.cell? ⟨gb111,7,none⟩=some (.int .i64 a0_7):=(blk_cell BK111.out 7).trans rfl;have hfz36_0:=blk_frozen BK111.out 0;have hfz36_1:=blk_frozen BK111.out 1;have hfz36_2:=blk_frozen BK111.out 2;have hfz36_3:=blk_frozen BK111.out 3;have hfz36_4:=blk_frozen BK111.out 4;have hfz36_5:=blk_frozen BK111.out 5;have hfz36_6:=blk_frozen BK111.out 6;have hfz36_7:=blk_frozen BK111.out 7)|((with_reducible refine gate_callee (f:=71) rfl ?_);refine goesL_ (some 6) rfl rfl Try.func71 (by kernel_rfl) rfl #[.agg #[.int .i64 a0_0,.int .i64 a0_1,.int .i64 a0_2,.int .i64 a0_3,.int .i64 a0_4,.int .i64 a0_5,.slice A0_6 l0_6.length c0_6,.int .i64 a0_7]] rfl (by (try simp only [List.map_toArray,List.map_cons,List.map_nil]);first|done|rfl|(simp only [List.length_drop,List.length_take];rfl)) ?_;(with_reducible refine (cmd_good.calls k a0_0 a0_1 a0_2 a0_3 a0_4 a0_5 _ _ l0_6 a0_7 true _ ?side1 ?side2 A2.out).mono ?_);(case side1=>repeat (first|exact (Kd.C_below HR0_6.out HB.out)|(with_reducible refine Kd.C_alloc ?_ _)|(with_reducible refine Kd.C_drewN ?_ _)|(with_reducible refine Kd.C_drew ?_)));(case side2=>exact HC0_6.out);rintro e w37 ⟨rfl,hb⟩;refine ⟨_,rfl,?_⟩;have n0_:=Aside0.mk (blk_below (g:=gb111) (o := .cells #[.int .i64 a0_0,.int .i64 a0_1,.int .i64 a0_2,.int .i64 a0_3,.int .i64 a0_4,.int .i64 a0_5,.slice A0_6 l0_6.length c0_6,.int .i64 a0_7] 27 (0,0)) (by (with_reducible repeat (first|refine blk_drewN ?_ _|refine blk_drew ?_|refine blk_alloc ?_ _));exact BK111.out) hb);have n1_:=Aside0.mk (below_step (by repeat (first|(with_reducible first|exact HB.out|apply below_alloc|apply pw_below_drewN|apply below_drew1|refine below_set ?_ GE111.out)|exact HB.out)) hb);clear BK111;clear HB;have BK111:=n0_;have HB:=n1_;clear n0_ n1_;(try clear hb);(try clear hb2);(try clear hk);(try clear hi);have hcz38_0:w37.cell? ⟨gb111,0,none⟩=some (.int .i64 a0_0):=(blk_cell BK111.out 0).trans rfl;have hcz38_1:w37.cell? ⟨gb111,1,none⟩=some (.int .i64 a0_1):=(blk_cell BK111.out 1).trans rfl;have hcz38_2:w37.cell? ⟨gb111,2,none⟩=some (.int .i64 a0_2):=(blk_cell BK111.out 2).trans rfl;have hcz38_3:w37.cell? ⟨gb111,3,none⟩=some (.int .i64 a0_3):=(blk_cell BK111.out 3).trans rfl;have hcz38_4:w37.cell? ⟨gb111,4,none⟩=some (.int .i64 a0_4):=(blk_cell BK111.out 4).trans rfl;have hcz38_5:w37.cell? ⟨gb111,5,none⟩=some (.int .i64 a0_5):=(blk_cell BK111.out 5).trans rfl;have hcz38_6:w37.cell? ⟨gb111,6,none⟩=some (.slice A0_6 l0_6.length c0_6):=(blk_cell BK111.out 6).trans rfl;have hcz38_7:w37.cell? ⟨gb111,7,none⟩=some (.int .i64 a0_7):=(blk_cell BK111.out 7).trans rfl;have hfz38_0:=blk_frozen BK111.out 0;have hfz38_1:=blk_frozen BK111.out 1;have hfz38_2:=blk_frozen BK111.out 2;have hfz38_3:=blk_frozen BK111.out 3;have hfz38_4:=blk_frozen BK111.out 4;have hfz38_5:=blk_frozen BK111.out 5;have hfz38_6:=blk_frozen BK111.out 6;have hfz38_7:=blk_frozen BK111.out 7)|((with_reducible refine gate_callee (f:=72) rfl ?_);refine goesL_ (some 10) rfl rfl Try.func72 (by kernel_rfl) rfl #[.slice none 0 0,.int .i64 a0_7,.int .i64 1] rfl (by (try simp only [List.map_toArray,List.map_cons,List.map_nil]);first|done|rfl|(simp only [List.length_drop,List.length_take];rfl)) ?_;(refine (cmd_field_int.calls k (fun k_=>some k_=(.slice none 0 0:Value).ownBlock) (.slice none 0 0) ([]:List Int) a0_7 1 t113 w _ ?side1 ?side2 A4.out).mono ?_);(case side1=>repeat (first|(with_reducible first|exact HB.out|apply below_alloc|apply pw_below_drewN|apply below_drew1|refine below_set ?_ GE111.out)|exact HB.out));(case side2=>exact Kd.R_nil _ _ _ _ _);rintro e w39 ⟨v114,rfl,ho0,hb,hkp⟩;refine ⟨_,rfl,?_⟩;have n0_:=Aside0.mk (blk_kept (by (with_reducible repeat (first|refine blk_drewN ?_ _|refine blk_drew ?_|refine blk_alloc ?_ _));exact BK111.out) hkp (fun hs_=>(fun e_=>by simp [Value.ownBlock] at e_) hs_));have n1_:=Aside0.mk (Kd.R_mono (ok':=fun k_=>True) ho0 (fun k_ hk_=>trivial));have n2_:=Aside0.mk (hb);clear BK111;clear HB;have BK111:=n0_;have HO115:=n1_;have HB:=n2_;clear n0_ n1_ n2_;(try clear hb);(try clear hkp);(try clear ho0);have hcz40_0:w39.cell? ⟨gb111,0,none⟩=some (.int .i64 a0_0):=(blk_cell BK111.out 0).trans rfl;have hcz40_1:w39.cell? ⟨gb111,1,none⟩=some (.int .i64 a0_1):=(blk_cell BK111.out 1).trans rfl;have hcz40_2:w39.cell? ⟨gb111,2,none⟩=some (.int .i64 a0_2):=(blk_cell BK111.out 2).trans rfl;have hcz40_3:w39.cell? ⟨gb111,3,none⟩=some (.int .i64 a0_3):=(blk_cell BK111.out 3).trans rfl;have hcz40_4:w39.cell? ⟨gb111,4,none⟩=some (.int .i64 a0_4):=(blk_cell BK111.out 4).trans rfl;have hcz40_5:w39.cell? ⟨gb111,5,none⟩=some (.int .i64 a0_5):=(blk_cell BK111.out 5).trans rfl;have hcz40_6:w39.cell? ⟨gb111,6,none⟩=some (.slice A0_6 l0_6.length c0_6):=(blk_cell BK111.out 6).trans rfl;have hcz40_7:w39.cell? ⟨gb111,7,none⟩=some (.int .i64 a0_7):=(blk_cell BK111.out 7).trans rfl;have hfz40_0:=blk_frozen BK111.out 0;have hfz40_1:=blk_frozen BK111.out 1;have hfz40_2:=blk_frozen BK111.out 2;have hfz40_3:=blk_frozen BK111.out 3;have hfz40_4:=blk_frozen BK111.out 4;have hfz40_5:=blk_frozen BK111.out 5;have hfz40_6:=blk_frozen BK111.out 6;have hfz40_7:=blk_frozen BK111.out 7))
            have n0_:=Aside0.mk (Kd.R_drew HO115.out)
            have n1_:=Aside0.mk (blk_drew BK111.out)
            have n2_:=Aside0.mk (below_drew1 HB.out)
            clear HO115
            clear BK111
            clear HB
            have HO115:=n0_
            have BK111:=n1_
            have HB:=n2_
            clear n0_ n1_ n2_
            obtain ⟨Ao42,co42,eo42⟩:=Kd.R_slice HO115.out
            (first|subst eo42|(injection eo42 with f1_ f2_ f3_;have f4_:=f1_.symm;have f5_:=f3_.symm;clear f1_ f2_ f3_;subst f4_;subst f5_))
            refine start_ (n:=9) (S:=fun w'=>w'.cell? ⟨gb111,0,none⟩=some (.int .i64 a0_0)∧w'.cell? ⟨gb111,1,none⟩=some (.int .i64 a0_1)∧w'.cell? ⟨gb111,2,none⟩=some (.int .i64 a0_2)∧w'.cell? ⟨gb111,3,none⟩=some (.int .i64 a0_3)∧w'.cell? ⟨gb111,4,none⟩=some (.int .i64 a0_4)∧w'.cell? ⟨gb111,5,none⟩=some (.int .i64 a0_5)∧w'.cell? ⟨gb111,6,none⟩=some (.slice A0_6 l0_6.length c0_6)∧w'.cell? ⟨gb111,7,none⟩=some (.int .i64 a0_7)) (ds:=[]) #[false,false,false,false,false,false,false,false,false] (by kernel_rfl) rfl rfl ⟨(blk_cell BK111.out 0).trans rfl,(blk_cell BK111.out 1).trans rfl,(blk_cell BK111.out 2).trans rfl,(blk_cell BK111.out 3).trans rfl,(blk_cell BK111.out 4).trans rfl,(blk_cell BK111.out 5).trans rfl,(blk_cell BK111.out 6).trans rfl,(blk_cell BK111.out 7).trans rfl⟩ (fun hHeld=>?_);refine with_tabW cmd_Encode.tab11 cmd_Encode.bits11 (fun HT_ HW_=>?_)
            generalize w39.drew=w41 at HO115 BK111 HB hHeld ⊢
            refine pure_ (i:=0) (N:=some 38) (v:=?_) (a':=?_) #[true,false,false,false,false,false,false,false,false] rfl rfl (any_of HT_.out (by kernel_rfl)) (fun _ _ _ h=>h) (Or.inl ⟨by rfl,?_⟩) ?_ ?_
            rotate_left
            · intro w'
              go_simp
              with_reducible rfl
            rotate_left
            · simp only [Act.put,List.setIfInBounds_toArray,List.set_cons_zero,List.set_cons_succ,i64_w,i32_w]
              rfl
            refine pure_ (i:=1) (N:=some 39) (v:=?_) (a':=?_) #[true,true,false,false,false,false,false,false,false] rfl rfl (any_of HT_.out (by kernel_rfl)) (fun _ _ _ h=>h) (Or.inl ⟨by rfl,?_⟩) ?_ ?_
            rotate_left
            · intro w'
              go_simp
              with_reducible rfl
            rotate_left
            · simp only [Act.put,List.setIfInBounds_toArray,List.set_cons_zero,List.set_cons_succ,i64_w,i32_w]
              rfl
            refine pure_ (i:=4) (N:=some 42) (v:=?_) (a':=?_) #[true,true,false,false,true,false,false,false,false] rfl rfl (any_of HT_.out (by kernel_rfl)) (fun _ _ _ h=>h) (Or.inl ⟨by rfl,?_⟩) ?_ ?_
            rotate_left
            · intro w'
              go_simp
              with_reducible rfl
            rotate_left
            · simp only [Act.put,List.setIfInBounds_toArray,List.set_cons_zero,List.set_cons_succ,i64_w,i32_w]
              rfl
            refine take_ (i:=2) (N:=some 40) (v:=?_) (a':=?_) #[true,true,true,false,true,false,false,false,false] rfl rfl (take_ofW HT_.out HW_.out (by kernel_rfl)) (fun _ _ _ h=>h) (Or.inl ⟨by rfl,?_⟩) hHeld ?_ ?_
            rotate_left
            · rintro w' ⟨s0,s1,s2,s3,s4,s5,s6,s7⟩
              go_simp
              with_reducible rfl
            rotate_left
            · simp only [Act.put,List.setIfInBounds_toArray,List.set_cons_zero,List.set_cons_succ,i64_w,i32_w]
              rfl
            refine take_ (i:=5) (N:=some 43) (v:=?_) (a':=?_) #[true,true,true,false,true,true,false,false,false] rfl rfl (take_ofW HT_.out HW_.out (by kernel_rfl)) (fun _ _ _ h=>h) (Or.inl ⟨by rfl,?_⟩) hHeld ?_ ?_
            rotate_left
            · rintro w' ⟨s0,s1,s2,s3,s4,s5,s6,s7⟩
              go_simp
              with_reducible rfl
            rotate_left
            · simp only [Act.put,List.setIfInBounds_toArray,List.set_cons_zero,List.set_cons_succ,i64_w,i32_w]
              rfl
            refine one_ (i:=3) (N:=some 41) #[true,true,true,true,true,true,false,false,false] rfl rfl (one_of HT_.out (by kernel_rfl)) (by decide) (fun K hK=>?_)
            refine goes_ Try.func72 (by kernel_rfl) rfl #[.slice Ao42 t113.length co42,.int .i64 a0_5,.int .i64 1] (by rfl) rfl rfl (by (try simp only [List.map_toArray,List.map_cons,List.map_nil]);first|done|rfl|(simp only [List.length_drop,List.length_take];rfl)) ?_
            with_reducible refine (cmd_field_int.calls k (fun k_=>some k_=(.slice Ao42 t113.length co42:Value).ownBlock) (.slice Ao42 t113.length co42) t113 a0_5 1 t128 w _ ?side1 ?side2 A33.out).mono ?_
            (case side1=>repeat (first|(with_reducible first|exact HB.out|apply below_alloc|apply pw_below_drewN|apply below_drew1|refine below_set ?_ GE111.out)|exact HB.out))
            (case side2=>exact Kd.R_tight rfl HO115.out)
            rintro e w43 ⟨v129,rfl,ho0,hb,hkp⟩
            refine ⟨_,rfl,?_⟩
            have n0_:=Aside0.mk (blk_kept (by (with_reducible repeat (first|refine blk_drewN ?_ _|refine blk_drew ?_|refine blk_alloc ?_ _));exact BK111.out) hkp (fun hs_=>(fun e_=>(Kd.R_ne HO115.out BK111.out (by decide)) e_) hs_))
            have n1_:=Aside0.mk (Kd.R_mono (ok':=fun k_=>True) ho0 (fun k_ hk_=>trivial))
            have n2_:=Aside0.mk (hb)
            clear BK111
            clear HB
            clear HO115
            have BK111:=n0_
            have HO130:=n1_
            have HB:=n2_
            clear n0_ n1_ n2_
            (try clear hb)
            (try clear hkp)
            (try clear ho0)
            refine hK.out _ _ ⟨(blk_cell BK111.out 0).trans rfl,(blk_cell BK111.out 1).trans rfl,(blk_cell BK111.out 2).trans rfl,(blk_cell BK111.out 3).trans rfl,(blk_cell BK111.out 4).trans rfl,(blk_cell BK111.out 5).trans rfl,(blk_cell BK111.out 6).trans rfl,(blk_cell BK111.out 7).trans rfl⟩ (fun hHeld=>?_)
            clear hK K
            refine norm_ (a':=?_) ?_ ?_
            rotate_left
            · show Act.put _ (some 41) _=_
              simp only [Act.put,List.setIfInBounds_toArray,List.set_cons_zero,List.set_cons_succ,i64_w,i32_w]
              rfl
            refine one_ (i:=6) (N:=some 44) #[true,true,true,true,true,true,true,false,false] rfl rfl (one_of HT_.out (by kernel_rfl)) (by decide) (fun K hK=>?_)
            refine Kd.R_append_rows_step (Kd.int .u8) (w0:=w) w.heap.size (by rfl) (.tmp 41) (.tmp 43) 25 5 (.int .u8 0) 1 rfl Try.underlying25 info5 rfl (by decide) (by omega) v129 t128 l0_6 _ _ _ (fun _=>True) (fun _=>False) rfl rfl ?aO ?aR (fun _ _ h=>h) (fun _ h=>h.elim) ?aF ?aB ?aS ?aL ?_
            (case aR=>repeat (first|exact (Kd.C_below HR0_6.out HB.out)|(with_reducible refine Kd.C_alloc ?_ _)|(with_reducible refine Kd.C_drewN ?_ _)|(with_reducible refine Kd.C_drew ?_)))
            (case aB=>exact (by repeat (first|(with_reducible first|exact HB.out|apply below_alloc|apply pw_below_drewN|apply below_drew1|refine below_set ?_ GE111.out)|exact HB.out)))
            (case aF=>exact (fun _ _=>trivial))
            (case aO=>exact (by (with_reducible repeat (first|apply Kd.R_alloc|apply Kd.R_drewN|apply Kd.R_drew));exact HO130.out))
            (case aS=>exact (below_size (by repeat (first|(with_reducible first|exact HB.out|apply below_alloc|apply pw_below_drewN|apply below_drew1|refine below_set ?_ GE111.out)|exact HB.out))))
            (case aL=>have:=LMc34.out;omega)
            intro v132 w44 ho hb hg hat
            rw [← Ny131.out] at ho
            have n0_:=Aside0.mk (blk_grown (g:=gb111) (o := .cells #[.int .i64 a0_0,.int .i64 a0_1,.int .i64 a0_2,.int .i64 a0_3,.int .i64 a0_4,.int .i64 a0_5,.slice A0_6 l0_6.length c0_6,.int .i64 a0_7] 27 (0,0)) (by (with_reducible repeat (first|refine blk_drewN ?_ _|refine blk_drew ?_|refine blk_alloc ?_ _));exact BK111.out) hg (Kd.R_ne HO130.out BK111.out (by decide)))
            have n1_:=Aside0.mk (hb)
            have n2_:=Aside0.mk (ho)
            clear BK111
            clear HB
            clear HO130
            have BK111:=n0_
            have HB:=n1_
            have HO133:=n2_
            clear n0_ n1_ n2_
            clear ho hb hg hat
            refine hK.out _ _ ⟨(blk_cell BK111.out 0).trans rfl,(blk_cell BK111.out 1).trans rfl,(blk_cell BK111.out 2).trans rfl,(blk_cell BK111.out 3).trans rfl,(blk_cell BK111.out 4).trans rfl,(blk_cell BK111.out 5).trans rfl,(blk_cell BK111.out 6).trans rfl,(blk_cell BK111.out 7).trans rfl⟩ (fun hHeld=>?_)
            clear hK K
            refine norm_ (a':=?_) ?_ ?_
            rotate_left
            · show Act.put _ (some 44) _=_
              simp only [Act.put,List.setIfInBounds_toArray,List.set_cons_zero,List.set_cons_succ,i64_w,i32_w]
              rfl
            refine pure_ (i:=7) (N:=some 2) (v:=?_) (a':=?_) #[true,true,true,true,true,true,true,true,false] rfl rfl (any_of HT_.out (by kernel_rfl)) (fun _ _ _ h=>h) (Or.inl ⟨by rfl,?_⟩) ?_ ?_
            rotate_left
            · intro w'
              go_simp
              with_reducible rfl
            rotate_left
            · simp only [Act.put,List.setIfInBounds_toArray,List.set_cons_zero,List.set_cons_succ,i64_w,i32_w]
              rfl
            refine pure_ (i:=8) (N:=some 3) (v:=?_) (a':=?_) #[true,true,true,true,true,true,true,true,true] rfl rfl (any_of HT_.out (by kernel_rfl)) (fun _ _ _ h=>h) (Or.inl ⟨by rfl,?_⟩) ?_ ?_
            rotate_left
            · intro w'
              go_simp
              with_reducible rfl
            rotate_left
            · simp only [Act.put,List.setIfInBounds_toArray,List.set_cons_zero,List.set_cons_succ,i64_w,i32_w]
              rfl
            refine done_ (done_of HT_.out (by kernel_rfl)) ?_
            try go_wp2
            go_ret2
            exact ⟨_,by first|rfl|(simp [errW_none,errW_some]<;>rfl)|(simp [*,errW_none,errW_some]<;>rfl),by (with_reducible repeat (first|apply Kd.R_alloc|apply Kd.R_drewN|apply Kd.R_drew));exact HO133.out,by repeat (first|(with_reducible first|exact HB.out|apply below_alloc|apply pw_below_drewN|apply below_drew1|refine below_set ?_ GE111.out)|exact HB.out)⟩
          · rw [if_neg c34] at H
            exact absurd H (by simp)
        · rw [if_neg c32] at H
          have c32b0:(a0_0 == 4)=false:=beq_eq_false_iff_ne.mpr c32
          have c32b1:(a0_0 != 4)=true:=bne_iff_ne.mpr c32
          by_cases c45:a0_0=5
          · rw [if_pos c45] at H
            have c45b0:(a0_0 == 5)=true:=beq_iff_eq.mpr c45
            have c45b1:(a0_0 != 5)=false:=bne_eq_false_iff_eq.mpr c45
            clear c45
            replace H:=Option.bind_eq_some_iff.mp H
            obtain ⟨t134,A460,H⟩:=H
            replace H:(if t134.length+l0_6.length<140737488355328 then (some ((t134++l0_6),0)) else (none))=some (r1,r2):=H
            have A46:=Aside0.mk A460
            clear A460
            by_cases c47:t134.length+l0_6.length<140737488355328
            · rw [if_pos c47] at H
              have LMc47:=Aside0.mk c47
              clear c47
              obtain ⟨y137,hy137⟩:∃ y_:List Int,y_=(t134++l0_6):=⟨_,rfl⟩
              replace H:(some (y137,0))=some (r1,r2):=by first|(rw [hy137];with_reducible exact H)|(have H2_:=(Option.bind_some _ _).symm.trans H;rw [hy137];with_reducible exact H2_)|(have H2_:=(Option.bind_some _ _).symm.trans H;with_reducible exact H2_)|with_reducible exact H|(rw [hy137];exact H)|exact H
              have Ny137:=Aside0.mk hy137
              clear hy137
              simp only [Option.some.injEq,Prod.mk.injEq] at H
              obtain ⟨rfl,rfl⟩:=H
              go_enter Try.func19,Try.ntmps19
              try go_wp2_with (first|((with_reducible refine gate_dst (N:=1) rfl ?_);refine box_event ?hg (N:=1) ?hd (cs:=#[.int .i64 a0_0,.int .i64 a0_1,.int .i64 a0_2,.int .i64 a0_3,.int .i64 a0_4,.int .i64 a0_5,.slice A0_6 l0_6.length c0_6,.int .i64 a0_7]) (t:=27) ?hr ?_;(case hd=>rfl);(case hg=>rfl);(case hr=>first|(go_simp;done)|(go_simp;rfl));intro gb111 hg w48 hbox hb;have n0_:=Aside0.mk (below_step (by repeat (first|(with_reducible first|exact HB.out|apply below_alloc|apply pw_below_drewN|apply below_drew1)|exact HB.out)) hb);have n1_:=Aside0.mk (hbox);have n2_:=Aside0.mk ((by rw [hg];exact (below_size (by repeat (first|(with_reducible first|exact HB.out|apply below_alloc|apply pw_below_drewN|apply below_drew1)|exact HB.out))):w.heap.size≤gb111));have n3_:=Aside0.mk ((by rw [hg];exact (below_size (by repeat (first|(with_reducible first|exact HB.out|apply below_alloc|apply pw_below_drewN|apply below_drew1)|exact HB.out))):w.heap.size≤gb111));clear HB;have HB:=n0_;have BK111:=n1_;have GW111:=n2_;have GE111:=n3_;clear n0_ n1_ n2_ n3_;clear hb hbox hg;have hcz49_0:w48.cell? ⟨gb111,0,none⟩=some (.int .i64 a0_0):=(blk_cell BK111.out 0).trans rfl;have hcz49_1:w48.cell? ⟨gb111,1,none⟩=some (.int .i64 a0_1):=(blk_cell BK111.out 1).trans rfl;have hcz49_2:w48.cell? ⟨gb111,2,none⟩=some (.int .i64 a0_2):=(blk_cell BK111.out 2).trans rfl;have hcz49_3:w48.cell? ⟨gb111,3,none⟩=some (.int .i64 a0_3):=(blk_cell BK111.out 3).trans rfl;have hcz49_4:w48.cell? ⟨gb111,4,none⟩=some (.int .i64 a0_4):=(blk_cell BK111.out 4).trans rfl;have hcz49_5:w48.cell? ⟨gb111,5,none⟩=some (.int .i64 a0_5):=(blk_cell BK111.out 5).trans rfl;have hcz49_6:w48.cell? ⟨gb111,6,none⟩=some (.slice A0_6 l0_6.length c0_6):=(blk_cell BK111.out 6).trans rfl;have hcz49_7:w48.cell? ⟨gb111,7,none⟩=some (.int .i64 a0_7):=(blk_cell BK111.out 7).trans rfl;have hfz49_0:=blk_frozen BK111.out 0;have hfz49_1:=blk_frozen BK111.out 1;have hfz49_2:=blk_frozen BK111.out 2;have hfz49_3:=blk_frozen BK111.out 3;have hfz49_4:=blk_frozen BK111.out 4;have hfz49_5:=blk_frozen BK111.out 5;have hfz49_6:=blk_frozen BK111.out 6;have hfz49_7:=blk_frozen BK111.out 7)|((with_reducible refine gate_callee (f:=71) rfl ?_);refine goesL_ (some 6) rfl rfl Try.func71 (by kernel_rfl) rfl #[.agg #[.int .i64 a0_0,.int .i64 a0_1,.int .i64 a0_2,.int .i64 a0_3,.int .i64 a0_4,.int .i64 a0_5,.slice A0_6 l0_6.length c0_6,.int .i64 a0_7]] rfl (by (try simp only [List.map_toArray,List.map_cons,List.map_nil]);first|done|rfl|(simp only [List.length_drop,List.length_take];rfl)) ?_;(with_reducible refine (cmd_good.calls k a0_0 a0_1 a0_2 a0_3 a0_4 a0_5 _ _ l0_6 a0_7 true _ ?side1 ?side2 A2.out).mono ?_);(case side1=>repeat (first|exact (Kd.C_below HR0_6.out HB.out)|(with_reducible refine Kd.C_alloc ?_ _)|(with_reducible refine Kd.C_drewN ?_ _)|(with_reducible refine Kd.C_drew ?_)));(case side2=>exact HC0_6.out);rintro e w50 ⟨rfl,hb⟩;refine ⟨_,rfl,?_⟩;have n0_:=Aside0.mk (blk_below (g:=gb111) (o := .cells #[.int .i64 a0_0,.int .i64 a0_1,.int .i64 a0_2,.int .i64 a0_3,.int .i64 a0_4,.int .i64 a0_5,.slice A0_6 l0_6.length c0_6,.int .i64 a0_7] 27 (0,0)) (by (with_reducible repeat (first|refine blk_drewN ?_ _|refine blk_drew ?_|refine blk_alloc ?_ _));exact BK111.out) hb);have n1_:=Aside0.mk (below_step (by repeat (first|(with_reducible first|exact HB.out|apply below_alloc|apply pw_below_drewN|apply below_drew1|refine below_set ?_ GE111.out)|exact HB.out)) hb);clear BK111;clear HB;have BK111:=n0_;have HB:=n1_;clear n0_ n1_;(try clear hb);(try clear hb2);(try clear hk);(try clear hi);have hcz51_0:w50.cell? ⟨gb111,0,none⟩=some (.int .i64 a0_0):=(blk_cell BK111.out 0).trans rfl;have hcz51_1:w50.cell? ⟨gb111,1,none⟩=some (.int .i64 a0_1):=(blk_cell BK111.out 1).trans rfl;have hcz51_2:w50.cell? ⟨gb111,2,none⟩=some (.int .i64 a0_2):=(blk_cell BK111.out 2).trans rfl;have hcz51_3:w50.cell? ⟨gb111,3,none⟩=some (.int .i64 a0_3):=(blk_cell BK111.out 3).trans rfl;have hcz51_4:w50.cell? ⟨gb111,4,none⟩=some (.int .i64 a0_4):=(blk_cell BK111.out 4).trans rfl;have hcz51_5:w50.cell? ⟨gb111,5,none⟩=some (.int .i64 a0_5):=(blk_cell BK111.out 5).trans rfl;have hcz51_6:w50.cell? ⟨gb111,6,none⟩=some (.slice A0_6 l0_6.length c0_6):=(blk_cell BK111.out 6).trans rfl;have hcz51_7:w50.cell? ⟨gb111,7,none⟩=some (.int .i64 a0_7):=(blk_cell BK111.out 7).trans rfl;have hfz51_0:=blk_frozen BK111.out 0;have hfz51_1:=blk_frozen BK111.out 1;have hfz51_2:=blk_frozen BK111.out 2;have hfz51_3:=blk_frozen BK111.out 3;have hfz51_4:=blk_frozen BK111.out 4;have hfz51_5:=blk_frozen BK111.out 5;have hfz51_6:=blk_frozen BK111.out 6;have hfz51_7:=blk_frozen BK111.out 7)|((with_reducible refine gate_callee (f:=72) rfl ?_);refine goesL_ (some 10) rfl rfl Try.func72 (by kernel_rfl) rfl #[.slice none 0 0,.int .i64 a0_7,.int .i64 1] rfl (by (try simp only [List.map_toArray,List.map_cons,List.map_nil]);first|done|rfl|(simp only [List.length_drop,List.length_take];rfl)) ?_;(refine (cmd_field_int.calls k (fun k_=>some k_=(.slice none 0 0:Value).ownBlock) (.slice none 0 0) ([]:List Int) a0_7 1 t113 w _ ?side1 ?side2 A4.out).mono ?_);(case side1=>repeat (first|(with_reducible first|exact HB.out|apply below_alloc|apply pw_below_drewN|apply below_drew1|refine below_set ?_ GE111.out)|exact HB.out));(case side2=>exact Kd.R_nil _ _ _ _ _);rintro e w52 ⟨v114,rfl,ho0,hb,hkp⟩;refine ⟨_,rfl,?_⟩;have n0_:=Aside0.mk (blk_kept (by (with_reducible repeat (first|refine blk_drewN ?_ _|refine blk_drew ?_|refine blk_alloc ?_ _));exact BK111.out) hkp (fun hs_=>(fun e_=>by simp [Value.ownBlock] at e_) hs_));have n1_:=Aside0.mk (Kd.R_mono (ok':=fun k_=>True) ho0 (fun k_ hk_=>trivial));have n2_:=Aside0.mk (hb);clear BK111;clear HB;have BK111:=n0_;have HO115:=n1_;have HB:=n2_;clear n0_ n1_ n2_;(try clear hb);(try clear hkp);(try clear ho0);have hcz53_0:w52.cell? ⟨gb111,0,none⟩=some (.int .i64 a0_0):=(blk_cell BK111.out 0).trans rfl;have hcz53_1:w52.cell? ⟨gb111,1,none⟩=some (.int .i64 a0_1):=(blk_cell BK111.out 1).trans rfl;have hcz53_2:w52.cell? ⟨gb111,2,none⟩=some (.int .i64 a0_2):=(blk_cell BK111.out 2).trans rfl;have hcz53_3:w52.cell? ⟨gb111,3,none⟩=some (.int .i64 a0_3):=(blk_cell BK111.out 3).trans rfl;have hcz53_4:w52.cell? ⟨gb111,4,none⟩=some (.int .i64 a0_4):=(blk_cell BK111.out 4).trans rfl;have hcz53_5:w52.cell? ⟨gb111,5,none⟩=some (.int .i64 a0_5):=(blk_cell BK111.out 5).trans rfl;have hcz53_6:w52.cell? ⟨gb111,6,none⟩=some (.slice A0_6 l0_6.length c0_6):=(blk_cell BK111.out 6).trans rfl;have hcz53_7:w52.cell? ⟨gb111,7,none⟩=some (.int .i64 a0_7):=(blk_cell BK111.out 7).trans rfl;have hfz53_0:=blk_frozen BK111.out 0;have hfz53_1:=blk_frozen BK111.out 1;have hfz53_2:=blk_frozen BK111.out 2;have hfz53_3:=blk_frozen BK111.out 3;have hfz53_4:=blk_frozen BK111.out 4;have hfz53_5:=blk_frozen BK111.out 5;have hfz53_6:=blk_frozen BK111.out 6;have hfz53_7:=blk_frozen BK111.out 7))
              have n0_:=Aside0.mk (Kd.R_drew HO115.out)
              have n1_:=Aside0.mk (blk_drew BK111.out)
              have n2_:=Aside0.mk (below_drew1 HB.out)
              clear HO115
              clear BK111
              clear HB
              have HO115:=n0_
              have BK111:=n1_
              have HB:=n2_
              clear n0_ n1_ n2_
              obtain ⟨Ao55,co55,eo55⟩:=Kd.R_slice HO115.out
              (first|subst eo55|(injection eo55 with f1_ f2_ f3_;have f4_:=f1_.symm;have f5_:=f3_.symm;clear f1_ f2_ f3_;subst f4_;subst f5_))
              refine start_ (n:=9) (S:=fun w'=>w'.cell? ⟨gb111,0,none⟩=some (.int .i64 a0_0)∧w'.cell? ⟨gb111,1,none⟩=some (.int .i64 a0_1)∧w'.cell? ⟨gb111,2,none⟩=some (.int .i64 a0_2)∧w'.cell? ⟨gb111,3,none⟩=some (.int .i64 a0_3)∧w'.cell? ⟨gb111,4,none⟩=some (.int .i64 a0_4)∧w'.cell? ⟨gb111,5,none⟩=some (.int .i64 a0_5)∧w'.cell? ⟨gb111,6,none⟩=some (.slice A0_6 l0_6.length c0_6)∧w'.cell? ⟨gb111,7,none⟩=some (.int .i64 a0_7)) (ds:=[]) #[false,false,false,false,false,false,false,false,false] (by kernel_rfl) rfl rfl ⟨(blk_cell BK111.out 0).trans rfl,(blk_cell BK111.out 1).trans rfl,(blk_cell BK111.out 2).trans rfl,(blk_cell BK111.out 3).trans rfl,(blk_cell BK111.out 4).trans rfl,(blk_cell BK111.out 5).trans rfl,(blk_cell BK111.out 6).trans rfl,(blk_cell BK111.out 7).trans rfl⟩ (fun hHeld=>?_);refine with_tabW cmd_Encode.tab11 cmd_Encode.bits11 (fun HT_ HW_=>?_)
              generalize w52.drew=w54 at HO115 BK111 HB hHeld ⊢
              refine pure_ (i:=0) (N:=some 38) (v:=?_) (a':=?_) #[true,false,false,false,false,false,false,false,false] rfl rfl (any_of HT_.out (by kernel_rfl)) (fun _ _ _ h=>h) (Or.inl ⟨by rfl,?_⟩) ?_ ?_
              rotate_left
              · intro w'
                go_simp
                with_reducible rfl
              rotate_left
              · simp only [Act.put,List.setIfInBounds_toArray,List.set_cons_zero,List.set_cons_succ,i64_w,i32_w]
                rfl
              refine pure_ (i:=1) (N:=some 39) (v:=?_) (a':=?_) #[true,true,false,false,false,false,false,false,false] rfl rfl (any_of HT_.out (by kernel_rfl)) (fun _ _ _ h=>h) (Or.inl ⟨by rfl,?_⟩) ?_ ?_
              rotate_left
              · intro w'
                go_simp
                with_reducible rfl
              rotate_left
              · simp only [Act.put,List.setIfInBounds_toArray,List.set_cons_zero,List.set_cons_succ,i64_w,i32_w]
                rfl
              refine pure_ (i:=4) (N:=some 42) (v:=?_) (a':=?_) #[true,true,false,false,true,false,false,false,false] rfl rfl (any_of HT_.out (by kernel_rfl)) (fun _ _ _ h=>h) (Or.inl ⟨by rfl,?_⟩) ?_ ?_
              rotate_left
              · intro w'
                go_simp
                with_reducible rfl
              rotate_left
              · simp only [Act.put,List.setIfInBounds_toArray,List.set_cons_zero,List.set_cons_succ,i64_w,i32_w]
                rfl
              refine take_ (i:=2) (N:=some 40) (v:=?_) (a':=?_) #[true,true,true,false,true,false,false,false,false] rfl rfl (take_ofW HT_.out HW_.out (by kernel_rfl)) (fun _ _ _ h=>h) (Or.inl ⟨by rfl,?_⟩) hHeld ?_ ?_
              rotate_left
              · rintro w' ⟨s0,s1,s2,s3,s4,s5,s6,s7⟩
                go_simp
                with_reducible rfl
              rotate_left
              · simp only [Act.put,List.setIfInBounds_toArray,List.set_cons_zero,List.set_cons_succ,i64_w,i32_w]
                rfl
              refine take_ (i:=5) (N:=some 43) (v:=?_) (a':=?_) #[true,true,true,false,true,true,false,false,false] rfl rfl (take_ofW HT_.out HW_.out (by kernel_rfl)) (fun _ _ _ h=>h) (Or.inl ⟨by rfl,?_⟩) hHeld ?_ ?_
              rotate_left
              · rintro w' ⟨s0,s1,s2,s3,s4,s5,s6,s7⟩
                go_simp
                with_reducible rfl
              rotate_left
              · simp only [Act.put,List.setIfInBounds_toArray,List.set_cons_zero,List.set_cons_succ,i64_w,i32_w]
                rfl
              refine one_ (i:=3) (N:=some 41) #[true,true,true,true,true,true,false,false,false] rfl rfl (one_of HT_.out (by kernel_rfl)) (by decide) (fun K hK=>?_)
              refine goes_ Try.func72 (by kernel_rfl) rfl #[.slice Ao55 t113.length co55,.int .i64 a0_5,.int .i64 1] (by rfl) rfl rfl (by (try simp only [List.map_toArray,List.map_cons,List.map_nil]);first|done|rfl|(simp only [List.length_drop,List.length_take];rfl)) ?_
              with_reducible refine (cmd_field_int.calls k (fun k_=>some k_=(.slice Ao55 t113.length co55:Value).ownBlock) (.slice Ao55 t113.length co55) t113 a0_5 1 t134 w _ ?side1 ?side2 A46.out).mono ?_
              (case side1=>repeat (first|(with_reducible first|exact HB.out|apply below_alloc|apply pw_below_drewN|apply below_drew1|refine below_set ?_ GE111.out)|exact HB.out))
              (case side2=>exact Kd.R_tight rfl HO115.out)
              rintro e w56 ⟨v135,rfl,ho0,hb,hkp⟩
              refine ⟨_,rfl,?_⟩
              have n0_:=Aside0.mk (blk_kept (by (with_reducible repeat (first|refine blk_drewN ?_ _|refine blk_drew ?_|refine blk_alloc ?_ _));exact BK111.out) hkp (fun hs_=>(fun e_=>(Kd.R_ne HO115.out BK111.out (by decide)) e_) hs_))
              have n1_:=Aside0.mk (Kd.R_mono (ok':=fun k_=>True) ho0 (fun k_ hk_=>trivial))
              have n2_:=Aside0.mk (hb)
              clear BK111
              clear HB
              clear HO115
              have BK111:=n0_
              have HO136:=n1_
              have HB:=n2_
              clear n0_ n1_ n2_
              (try clear hb)
              (try clear hkp)
              (try clear ho0)
              refine hK.out _ _ ⟨(blk_cell BK111.out 0).trans rfl,(blk_cell BK111.out 1).trans rfl,(blk_cell BK111.out 2).trans rfl,(blk_cell BK111.out 3).trans rfl,(blk_cell BK111.out 4).trans rfl,(blk_cell BK111.out 5).trans rfl,(blk_cell BK111.out 6).trans rfl,(blk_cell BK111.out 7).trans rfl⟩ (fun hHeld=>?_)
              clear hK K
              refine norm_ (a':=?_) ?_ ?_
              rotate_left
              · show Act.put _ (some 41) _=_
                simp only [Act.put,List.setIfInBounds_toArray,List.set_cons_zero,List.set_cons_succ,i64_w,i32_w]
                rfl
              refine one_ (i:=6) (N:=some 44) #[true,true,true,true,true,true,true,false,false] rfl rfl (one_of HT_.out (by kernel_rfl)) (by decide) (fun K hK=>?_)
              refine Kd.R_append_rows_step (Kd.int .u8) (w0:=w) w.heap.size (by rfl) (.tmp 41) (.tmp 43) 25 5 (.int .u8 0) 1 rfl Try.underlying25 info5 rfl (by decide) (by omega) v135 t134 l0_6 _ _ _ (fun _=>True) (fun _=>False) rfl rfl ?aO ?aR (fun _ _ h=>h) (fun _ h=>h.elim) ?aF ?aB ?aS ?aL ?_
              (case aR=>repeat (first|exact (Kd.C_below HR0_6.out HB.out)|(with_reducible refine Kd.C_alloc ?_ _)|(with_reducible refine Kd.C_drewN ?_ _)|(with_reducible refine Kd.C_drew ?_)))
              (case aB=>exact (by repeat (first|(with_reducible first|exact HB.out|apply below_alloc|apply pw_below_drewN|apply below_drew1|refine below_set ?_ GE111.out)|exact HB.out)))
              (case aF=>exact (fun _ _=>trivial))
              (case aO=>exact (by (with_reducible repeat (first|apply Kd.R_alloc|apply Kd.R_drewN|apply Kd.R_drew));exact HO136.out))
              (case aS=>exact (below_size (by repeat (first|(with_reducible first|exact HB.out|apply below_alloc|apply pw_below_drewN|apply below_drew1|refine below_set ?_ GE111.out)|exact HB.out))))
              (case aL=>have:=LMc47.out;omega)
              intro v138 w57 ho hb hg hat
              rw [← Ny137.out] at ho
              have n0_:=Aside0.mk (blk_grown (g:=gb111) (o := .cells #[.int .i64 a0_0,.int .i64 a0_1,.int .i64 a0_2,.int .i64 a0_3,.int .i64 a0_4,.int .i64 a0_5,.slice A0_6 l0_6.length c0_6,.int .i64 a0_7] 27 (0,0)) (by (with_reducible repeat (first|refine blk_drewN ?_ _|refine blk_drew ?_|refine blk_alloc ?_ _));exact BK111.out) hg (Kd.R_ne HO136.out BK111.out (by decide)))
              have n1_:=Aside0.mk (hb)
              have n2_:=Aside0.mk (ho)
              clear BK111
              clear HB
              clear HO136
              have BK111:=n0_
              have HB:=n1_
              have HO139:=n2_
              clear n0_ n1_ n2_
              clear ho hb hg hat
              refine hK.out _ _ ⟨(blk_cell BK111.out 0).trans rfl,(blk_cell BK111.out 1).trans rfl,(blk_cell BK111.out 2).trans rfl,(blk_cell BK111.out 3).trans rfl,(blk_cell BK111.out 4).trans rfl,(blk_cell BK111.out 5).trans rfl,(blk_cell BK111.out 6).trans rfl,(blk_cell BK111.out 7).trans rfl⟩ (fun hHeld=>?_)
              clear hK K
              refine norm_ (a':=?_) ?_ ?_
              rotate_left
              · show Act.put _ (some 44) _=_
                simp only [Act.put,List.setIfInBounds_toArray,List.set_cons_zero,List.set_cons_succ,i64_w,i32_w]
                rfl
              refine pure_ (i:=7) (N:=some 2) (v:=?_) (a':=?_) #[true,true,true,true,true,true,true,true,false] rfl rfl (any_of HT_.out (by kernel_rfl)) (fun _ _ _ h=>h) (Or.inl ⟨by rfl,?_⟩) ?_ ?_
              rotate_left
              · intro w'
                go_simp
                with_reducible rfl
              rotate_left
              · simp only [Act.put,List.setIfInBounds_toArray,List.set_cons_zero,List.set_cons_succ,i64_w,i32_w]
                rfl
              refine pure_ (i:=8) (N:=some 3) (v:=?_) (a':=?_) #[true,true,true,true,true,true,true,true,true] rfl rfl (any_of HT_.out (by kernel_rfl)) (fun _ _ _ h=>h) (Or.inl ⟨by rfl,?_⟩) ?_ ?_
              rotate_left
              · intro w'
                go_simp
                with_reducible rfl
              rotate_left
              · simp only [Act.put,List.setIfInBounds_toArray,List.set_cons_zero,List.set_cons_succ,i64_w,i32_w]
                rfl
              refine done_ (done_of HT_.out (by kernel_rfl)) ?_
              try go_wp2
              go_ret2
              exact ⟨_,by first|rfl|(simp [errW_none,errW_some]<;>rfl)|(simp [*,errW_none,errW_some]<;>rfl),by (with_reducible repeat (first|apply Kd.R_alloc|apply Kd.R_drewN|apply Kd.R_drew));exact HO139.out,by repeat (first|(with_reducible first|exact HB.out|apply below_alloc|apply pw_below_drewN|apply below_drew1|refine below_set ?_ GE111.out)|exact HB.out)⟩
            · rw [if_neg c47] at H
              exact absurd H (by simp)
          · rw [if_neg c45] at H
            have c45b0:(a0_0 == 5)=false:=beq_eq_false_iff_ne.mpr c45
            have c45b1:(a0_0 != 5)=true:=bne_iff_ne.mpr c45
            simp only [Option.some.injEq,Prod.mk.injEq] at H
            obtain ⟨rfl,rfl⟩:=H
            go_enter Try.func19,Try.ntmps19
            go_wp2_with (first|((with_reducible refine gate_dst (N:=1) rfl ?_);refine box_event ?hg (N:=1) ?hd (cs:=#[.int .i64 a0_0,.int .i64 a0_1,.int .i64 a0_2,.int .i64 a0_3,.int .i64 a0_4,.int .i64 a0_5,.slice A0_6 l0_6.length c0_6,.int .i64 a0_7]) (t:=27) ?hr ?_;(case hd=>rfl);(case hg=>rfl);(case hr=>first|(go_simp;done)|(go_simp;rfl));intro gb111 hg w58 hbox hb;have n0_:=Aside0.mk (below_step (by repeat (first|(with_reducible first|exact HB.out|apply below_alloc|apply pw_below_drewN|apply below_drew1)|exact HB.out)) hb);have n1_:=Aside0.mk (hbox);have n2_:=Aside0.mk ((by rw [hg];exact (below_size (by repeat (first|(with_reducible first|exact HB.out|apply below_alloc|apply pw_below_drewN|apply below_drew1)|exact HB.out))):w.heap.size≤gb111));have n3_:=Aside0.mk ((by rw [hg];exact (below_size (by repeat (first|(with_reducible first|exact HB.out|apply below_alloc|apply pw_below_drewN|apply below_drew1)|exact HB.out))):w.heap.size≤gb111));clear HB;have HB:=n0_;have BK111:=n1_;have GW111:=n2_;have GE111:=n3_;clear n0_ n1_ n2_ n3_;clear hb hbox hg;have hcz59_0:w58.cell? ⟨gb111,0,none⟩=some (.int .i64 a0_0):=(blk_cell BK111.out 0).trans rfl;have hcz59_1:w58.cell? ⟨gb111,1,none⟩=some (.int .i64 a0_1):=(blk_cell BK111.out 1).trans rfl;have hcz59_2:w58.cell? ⟨gb111,2,none⟩=some (.int .i64 a0_2):=(blk_cell BK111.out 2).trans rfl;have hcz59_3:w58.cell? ⟨gb111,3,none⟩=some (.int .i64 a0_3):=(blk_cell BK111.out 3).trans rfl;have hcz59_4:w58.cell? ⟨gb111,4,none⟩=some (.int .i64 a0_4):=(blk_cell BK111.out 4).trans rfl;have hcz59_5:w58.cell? ⟨gb111,5,none⟩=some (.int .i64 a0_5):=(blk_cell BK111.out 5).trans rfl;have hcz59_6:w58.cell? ⟨gb111,6,none⟩=some (.slice A0_6 l0_6.length c0_6):=(blk_cell BK111.out 6).trans rfl;have hcz59_7:w58.cell? ⟨gb111,7,none⟩=some (.int .i64 a0_7):=(blk_cell BK111.out 7).trans rfl;have hfz59_0:=blk_frozen BK111.out 0;have hfz59_1:=blk_frozen BK111.out 1;have hfz59_2:=blk_frozen BK111.out 2;have hfz59_3:=blk_frozen BK111.out 3;have hfz59_4:=blk_frozen BK111.out 4;have hfz59_5:=blk_frozen BK111.out 5;have hfz59_6:=blk_frozen BK111.out 6;have hfz59_7:=blk_frozen BK111.out 7)|((with_reducible refine gate_callee (f:=71) rfl ?_);refine goesL_ (some 6) rfl rfl Try.func71 (by kernel_rfl) rfl #[.agg #[.int .i64 a0_0,.int .i64 a0_1,.int .i64 a0_2,.int .i64 a0_3,.int .i64 a0_4,.int .i64 a0_5,.slice A0_6 l0_6.length c0_6,.int .i64 a0_7]] rfl (by (try simp only [List.map_toArray,List.map_cons,List.map_nil]);first|done|rfl|(simp only [List.length_drop,List.length_take];rfl)) ?_;(with_reducible refine (cmd_good.calls k a0_0 a0_1 a0_2 a0_3 a0_4 a0_5 _ _ l0_6 a0_7 true _ ?side1 ?side2 A2.out).mono ?_);(case side1=>repeat (first|exact (Kd.C_below HR0_6.out HB.out)|(with_reducible refine Kd.C_alloc ?_ _)|(with_reducible refine Kd.C_drewN ?_ _)|(with_reducible refine Kd.C_drew ?_)));(case side2=>exact HC0_6.out);rintro e w60 ⟨rfl,hb⟩;refine ⟨_,rfl,?_⟩;have n0_:=Aside0.mk (blk_below (g:=gb111) (o := .cells #[.int .i64 a0_0,.int .i64 a0_1,.int .i64 a0_2,.int .i64 a0_3,.int .i64 a0_4,.int .i64 a0_5,.slice A0_6 l0_6.length c0_6,.int .i64 a0_7] 27 (0,0)) (by (with_reducible repeat (first|refine blk_drewN ?_ _|refine blk_drew ?_|refine blk_alloc ?_ _));exact BK111.out) hb);have n1_:=Aside0.mk (below_step (by repeat (first|(with_reducible first|exact HB.out|apply below_alloc|apply pw_below_drewN|apply below_drew1|refine below_set ?_ GE111.out)|exact HB.out)) hb);clear BK111;clear HB;have BK111:=n0_;have HB:=n1_;clear n0_ n1_;(try clear hb);(try clear hb2);(try clear hk);(try clear hi);have hcz61_0:w60.cell? ⟨gb111,0,none⟩=some (.int .i64 a0_0):=(blk_cell BK111.out 0).trans rfl;have hcz61_1:w60.cell? ⟨gb111,1,none⟩=some (.int .i64 a0_1):=(blk_cell BK111.out 1).trans rfl;have hcz61_2:w60.cell? ⟨gb111,2,none⟩=some (.int .i64 a0_2):=(blk_cell BK111.out 2).trans rfl;have hcz61_3:w60.cell? ⟨gb111,3,none⟩=some (.int .i64 a0_3):=(blk_cell BK111.out 3).trans rfl;have hcz61_4:w60.cell? ⟨gb111,4,none⟩=some (.int .i64 a0_4):=(blk_cell BK111.out 4).trans rfl;have hcz61_5:w60.cell? ⟨gb111,5,none⟩=some (.int .i64 a0_5):=(blk_cell BK111.out 5).trans rfl;have hcz61_6:w60.cell? ⟨gb111,6,none⟩=some (.slice A0_6 l0_6.length c0_6):=(blk_cell BK111.out 6).trans rfl;have hcz61_7:w60.cell? ⟨gb111,7,none⟩=some (.int .i64 a0_7):=(blk_cell BK111.out 7).trans rfl;have hfz61_0:=blk_frozen BK111.out 0;have hfz61_1:=blk_frozen BK111.out 1;have hfz61_2:=blk_frozen BK111.out 2;have hfz61_3:=blk_frozen BK111.out 3;have hfz61_4:=blk_frozen BK111.out 4;have hfz61_5:=blk_frozen BK111.out 5;have hfz61_6:=blk_frozen BK111.out 6;have hfz61_7:=blk_frozen BK111.out 7)|((with_reducible refine gate_callee (f:=72) rfl ?_);refine goesL_ (some 10) rfl rfl Try.func72 (by kernel_rfl) rfl #[.slice none 0 0,.int .i64 a0_7,.int .i64 1] rfl (by (try simp only [List.map_toArray,List.map_cons,List.map_nil]);first|done|rfl|(simp only [List.length_drop,List.length_take];rfl)) ?_;(refine (cmd_field_int.calls k (fun k_=>some k_=(.slice none 0 0:Value).ownBlock) (.slice none 0 0) ([]:List Int) a0_7 1 t113 w _ ?side1 ?side2 A4.out).mono ?_);(case side1=>repeat (first|(with_reducible first|exact HB.out|apply below_alloc|apply pw_below_drewN|apply below_drew1|refine below_set ?_ GE111.out)|exact HB.out));(case side2=>exact Kd.R_nil _ _ _ _ _);rintro e w62 ⟨v114,rfl,ho0,hb,hkp⟩;refine ⟨_,rfl,?_⟩;have n0_:=Aside0.mk (blk_kept (by (with_reducible repeat (first|refine blk_drewN ?_ _|refine blk_drew ?_|refine blk_alloc ?_ _));exact BK111.out) hkp (fun hs_=>(fun e_=>by simp [Value.ownBlock] at e_) hs_));have n1_:=Aside0.mk (Kd.R_mono (ok':=fun k_=>True) ho0 (fun k_ hk_=>trivial));have n2_:=Aside0.mk (hb);clear BK111;clear HB;have BK111:=n0_;have HO115:=n1_;have HB:=n2_;clear n0_ n1_ n2_;(try clear hb);(try clear hkp);(try clear ho0);have hcz63_0:w62.cell? ⟨gb111,0,none⟩=some (.int .i64 a0_0):=(blk_cell BK111.out 0).trans rfl;have hcz63_1:w62.cell? ⟨gb111,1,none⟩=some (.int .i64 a0_1):=(blk_cell BK111.out 1).trans rfl;have hcz63_2:w62.cell? ⟨gb111,2,none⟩=some (.int .i64 a0_2):=(blk_cell BK111.out 2).trans rfl;have hcz63_3:w62.cell? ⟨gb111,3,none⟩=some (.int .i64 a0_3):=(blk_cell BK111.out 3).trans rfl;have hcz63_4:w62.cell? ⟨gb111,4,none⟩=some (.int .i64 a0_4):=(blk_cell BK111.out 4).trans rfl;have hcz63_5:w62.cell? ⟨gb111,5,none⟩=some (.int .i64 a0_5):=(blk_cell BK111.out 5).trans rfl;have hcz63_6:w62.cell? ⟨gb111,6,none⟩=some (.slice A0_6 l0_6.length c0_6):=(blk_cell BK111.out 6).trans rfl;have hcz63_7:w62.cell? ⟨gb111,7,none⟩=some (.int .i64 a0_7):=(blk_cell BK111.out 7).trans rfl;have hfz63_0:=blk_frozen BK111.out 0;have hfz63_1:=blk_frozen BK111.out 1;have hfz63_2:=blk_frozen BK111.out 2;have hfz63_3:=blk_frozen BK111.out 3;have hfz63_4:=blk_frozen BK111.out 4;have hfz63_5:=blk_frozen BK111.out 5;have hfz63_6:=blk_frozen BK111.out 6;have hfz63_7:=blk_frozen BK111.out 7))
            go_ret2
            exact ⟨_,by first|rfl|(simp [errW_none,errW_some]<;>rfl)|(simp [*,errW_none,errW_some]<;>rfl),by (with_reducible repeat (first|apply Kd.R_alloc|apply Kd.R_drewN|apply Kd.R_drew));exact HO115.out,by repeat (first|(with_reducible first|exact HB.out|apply below_alloc|apply pw_below_drewN|apply below_drew1|refine below_set ?_ GE111.out)|exact HB.out)⟩
  · replace c3:=Bool.eq_false_iff.mpr c3
    subst c3
    have H1:(some (([]:List Int),1))=some (r1,r2):=by rw [if_neg (show ¬ (false=true) by decide)] at H;exact H
    clear H
    have H:=H1
    clear H1
    simp only [Option.some.injEq,Prod.mk.injEq] at H
    obtain ⟨rfl,rfl⟩:=H
    go_enter Try.func19,Try.ntmps19
    go_wp2_with (first|((with_reducible refine gate_dst (N:=1) rfl ?_);refine box_event ?hg (N:=1) ?hd (cs:=#[.int .i64 a0_0,.int .i64 a0_1,.int .i64 a0_2,.int .i64 a0_3,.int .i64 a0_4,.int .i64 a0_5,.slice A0_6 l0_6.length c0_6,.int .i64 a0_7]) (t:=27) ?hr ?_;(case hd=>rfl);(case hg=>rfl);(case hr=>first|(go_simp;done)|(go_simp;rfl));intro gb111 hg w64 hbox hb;have n0_:=Aside0.mk (below_step (by repeat (first|(with_reducible first|exact HB.out|apply below_alloc|apply pw_below_drewN|apply below_drew1)|exact HB.out)) hb);have n1_:=Aside0.mk (hbox);have n2_:=Aside0.mk ((by rw [hg];exact (below_size (by repeat (first|(with_reducible first|exact HB.out|apply below_alloc|apply pw_below_drewN|apply below_drew1)|exact HB.out))):w.heap.size≤gb111));have n3_:=Aside0.mk ((by rw [hg];exact (below_size (by repeat (first|(with_reducible first|exact HB.out|apply below_alloc|apply pw_below_drewN|apply below_drew1)|exact HB.out))):w.heap.size≤gb111));clear HB;have HB:=n0_;have BK111:=n1_;have GW111:=n2_;have GE111:=n3_;clear n0_ n1_ n2_ n3_;clear hb hbox hg;have hcz65_0:w64.cell? ⟨gb111,0,none⟩=some (.int .i64 a0_0):=(blk_cell BK111.out 0).trans rfl;have hcz65_1:w64.cell? ⟨gb111,1,none⟩=some (.int .i64 a0_1):=(blk_cell BK111.out 1).trans rfl;have hcz65_2:w64.cell? ⟨gb111,2,none⟩=some (.int .i64 a0_2):=(blk_cell BK111.out 2).trans rfl;have hcz65_3:w64.cell? ⟨gb111,3,none⟩=some (.int .i64 a0_3):=(blk_cell BK111.out 3).trans rfl;have hcz65_4:w64.cell? ⟨gb111,4,none⟩=some (.int .i64 a0_4):=(blk_cell BK111.out 4).trans rfl;have hcz65_5:w64.cell? ⟨gb111,5,none⟩=some (.int .i64 a0_5):=(blk_cell BK111.out 5).trans rfl;have hcz65_6:w64.cell? ⟨gb111,6,none⟩=some (.slice A0_6 l0_6.length c0_6):=(blk_cell BK111.out 6).trans rfl;have hcz65_7:w64.cell? ⟨gb111,7,none⟩=some (.int .i64 a0_7):=(blk_cell BK111.out 7).trans rfl;have hfz65_0:=blk_frozen BK111.out 0;have hfz65_1:=blk_frozen BK111.out 1;have hfz65_2:=blk_frozen BK111.out 2;have hfz65_3:=blk_frozen BK111.out 3;have hfz65_4:=blk_frozen BK111.out 4;have hfz65_5:=blk_frozen BK111.out 5;have hfz65_6:=blk_frozen BK111.out 6;have hfz65_7:=blk_frozen BK111.out 7)|((with_reducible refine gate_callee (f:=71) rfl ?_);refine goesL_ (some 6) rfl rfl Try.func71 (by kernel_rfl) rfl #[.agg #[.int .i64 a0_0,.int .i64 a0_1,.int .i64 a0_2,.int .i64 a0_3,.int .i64 a0_4,.int .i64 a0_5,.slice A0_6 l0_6.length c0_6,.int .i64 a0_7]] rfl (by (try simp only [List.map_toArray,List.map_cons,List.map_nil]);first|done|rfl|(simp only [List.length_drop,List.length_take];rfl)) ?_;(with_reducible refine (cmd_good.calls k a0_0 a0_1 a0_2 a0_3 a0_4 a0_5 _ _ l0_6 a0_7 false _ ?side1 ?side2 A2.out).mono ?_);(case side1=>repeat (first|exact (Kd.C_below HR0_6.out HB.out)|(with_reducible refine Kd.C_alloc ?_ _)|(with_reducible refine Kd.C_drewN ?_ _)|(with_reducible refine Kd.C_drew ?_)));(case side2=>exact HC0_6.out);rintro e w66 ⟨rfl,hb⟩;refine ⟨_,rfl,?_⟩;have n0_:=Aside0.mk (blk_below (g:=gb111) (o := .cells #[.int .i64 a0_0,.int .i64 a0_1,.int .i64 a0_2,.int .i64 a0_3,.int .i64 a0_4,.int .i64 a0_5,.slice A0_6 l0_6.length c0_6,.int .i64 a0_7] 27 (0,0)) (by (with_reducible repeat (first|refine blk_drewN ?_ _|refine blk_drew ?_|refine blk_alloc ?_ _));exact BK111.out) hb);have n1_:=Aside0.mk (below_step (by repeat (first|(with_reducible first|exact HB.out|apply below_alloc|apply pw_below_drewN|apply below_drew1|refine below_set ?_ GE111.out)|exact HB.out)) hb);clear BK111;clear HB;have BK111:=n0_;have HB:=n1_;clear n0_ n1_;(try clear hb);(try clear hb2);(try clear hk);(try clear hi)))
    go_ret2
    exact ⟨_,by first|rfl|(simp [errW_none,errW_some]<;>rfl)|(simp [*,errW_none,errW_some]<;>rfl),by first|exact Kd.R_nil _ _ _ _ _|exact Kd.N_nil _ _ _ _ _|exact Kd.V_nil _ _ _ _ _|exact Kd.Q_nil _ _ _ _ _|exact Kd.S_nil _ _ _ _ _,by repeat (first|(with_reducible first|exact HB.out|apply below_alloc|apply pw_below_drewN|apply below_drew1|refine below_set ?_ GE111.out)|exact HB.out)⟩
end Go.Proofs.Ytaeabemipnbgbaa.QCm
end
section
namespace Go.Proofs.Ytaeabemipnbgbaa.QCm
open RowKit YtaeabemipnbgbaaW.PrintWords YtaeabemipnbgbaaW.PrintLast YtaeabemipnbgbaaW.PrintMore
attribute [local go_sem] max2_int min2_int max_two min_two max_three min_three max_four min_four   -- for this text's walks alone
set_option linter.unusedVariables false
set_option linter.unusedSimpArgs false
attribute [local go_sem high] eqA24
def gimbalref0_EqBytes.l0:Nat→List Int→List Int→Int→Option (Bool)
  | 0,_,_,_=>none
  | k+1,x0,x1,x5=>if x5<(x0.length:Int) then (if 0≤x5 then (if x5<(x1.length:Int) then (if (rd x0 x5)=(rd x1 x5) then (gimbalref0_EqBytes.l0 k x0 x1 (wrap64 (x5+1))) else (some false)) else (none)) else (none)) else (some true)
def gimbalref0_EqBytes.f (k:Nat) (l0:List Int) (l1:List Int):Option (Bool):=if (l0.length:Int)=(l1.length:Int) then (gimbalref0_EqBytes.l0 k l0 l1 0) else (some false)
theorem gimbalref0_EqBytes.mono_l:∀ k,(∀ y0 y1 y2,LeO (gimbalref0_EqBytes.l0 k y0 y1 y2) (gimbalref0_EqBytes.l0 (k+1) y0 y1 y2))
  | 0=>fun _ _ _ r h=>by simp [gimbalref0_EqBytes.l0] at h
  | k + 1 => by
    have ih0:=gimbalref0_EqBytes.mono_l k
    · intro y0 y1 y2
      unfold gimbalref0_EqBytes.l0
      repeat' first
      | (with_reducible exact ih0 _ _ _)
      | (with_reducible exact LeO.refl _)
      | (with_reducible exact LeO.none _)
      | (with_reducible refine LeO.ite ?_ ?_)
      | (with_reducible refine LeO.bind ?_ (fun _=>?_))
      | exact ih0 _ _ _
      | exact LeO.none _
      | refine LeO.ite ?_ ?_
      | refine LeO.bind ?_ (fun _=>?_)
theorem gimbalref0_EqBytes.mono:∀ a0 a1 k,LeO (gimbalref0_EqBytes.f k a0 a1) (gimbalref0_EqBytes.f (k+1) a0 a1):=by
  intro a0 a1 k
  have ih0:=gimbalref0_EqBytes.mono_l k
  unfold gimbalref0_EqBytes.f
  repeat' first
      | (with_reducible exact ih0 _ _ _)
      | (with_reducible exact LeO.refl _)
      | (with_reducible exact LeO.none _)
      | (with_reducible refine LeO.ite ?_ ?_)
      | (with_reducible refine LeO.bind ?_ (fun _=>?_))
      | exact ih0 _ _ _
      | exact LeO.none _
      | refine LeO.ite ?_ ?_
      | refine LeO.bind ?_ (fun _=>?_)
set_option maxHeartbeats 8000000 in
set_option maxRecDepth 100000 in
theorem gimbalref0_EqBytes.calls (k:Nat) (A0:Option Addr) (c0:Nat) (l0:List Int) (A1:Option Addr) (c1:Nat) (l1:List Int) (r:Bool) (w:World) (hr0:Kd.C (Kd.int .u8) w A0 l0.length l0) (hc0:l0.length≤c0) (hr1:Kd.C (Kd.int .u8) w A1 l1.length l1) (hc1:l1.length≤c1) (h:gimbalref0_EqBytes.f k l0 l1=some r) :
    Calls Try.prog 21 #[.slice A0 l0.length c0,.slice A1 l1.length c1] w fun e w'=>e = .returned (.bool r)∧Drawn0 w w':=by
  have HR0:=Aside0.mk hr0
  have HC0:=Aside0.mk hc0
  clear hr0 hc0
  have HR1:=Aside0.mk hr1
  have HC1:=Aside0.mk hc1
  clear hr1 hc1
  have H:(if (l0.length:Int)=(l1.length:Int) then (gimbalref0_EqBytes.l0 k l0 l1 0) else (some false))=some r:=h
  clear h
  by_cases c3:(l0.length:Int)=(l1.length:Int)
  · rw [if_pos c3] at H
    have c3b0:((l0.length:Int) == (l1.length:Int))=true:=beq_iff_eq.mpr c3
    have c3b1:((l0.length:Int) != (l1.length:Int))=false:=bne_eq_false_iff_eq.mpr c3
    have c3b2:(l0.length == l1.length)=true:=by first|simpa using c3|(simp at c3 ⊢;omega)
    clear c3
    have H':=Aside0.mk H
    clear H
    go_enter Try.func21,Try.ntmps21
    go_wp2
    repeat (go_quiet (fail);try go_wp2)
    go_loopg [5] k (fun kq v5 w'=>∃ (x5_1:Int),v5 = .int .i64 x5_1∧Aside0 (gimbalref0_EqBytes.l0 kq l0 l1 x5_1=some r)∧Aside0 (kq≤k)∧Drawn0 w w')
    case atStart=>exact ⟨(0),(by first|rfl|(simp;done)|(simp [*];done)),H',⟨Nat.le_refl _⟩,by repeat (first|exact Drawn0.refl _|apply Drawn0.step)⟩
    case round =>
      clear H'
      try clear c1
      try clear c2
      try clear p2
      try clear c3
      try clear c3b0
      try clear c3b1
      try clear c3b2
      obtain ⟨x5_1,rfl,HA,HK1,⟨m1,rfl⟩⟩:=hrel
      cases gk with
      | zero=>exact absurd HA.out (by simp [gimbalref0_EqBytes.l0])
      | succ k1 =>
        have H:=HA.out
        clear HA
        simp only [gimbalref0_EqBytes.l0] at H
        by_cases c4:x5_1<(l0.length:Int)
        · rw [if_pos c4] at H
          have c4b0:decide (x5_1<(l0.length:Int))=true:=decide_eq_true c4
          clear c4
          by_cases c5:0≤x5_1
          · rw [if_pos c5] at H
            have c5b0:decide (0≤x5_1)=true:=decide_eq_true c5
            clear c5
            by_cases c6:x5_1<(l1.length:Int)
            · rw [if_pos c6] at H
              have c6b0:decide (x5_1<(l1.length:Int))=true:=decide_eq_true c6
              clear c6
              by_cases c7:(rd l0 x5_1)=(rd l1 x5_1)
              · rw [if_pos c7] at H
                have c7b0:((rd l0 x5_1) == (rd l1 x5_1))=true:=beq_iff_eq.mpr c7
                have c7b1:((rd l0 x5_1) != (rd l1 x5_1))=false:=bne_eq_false_iff_eq.mpr c7
                clear c7
                have H':=Aside0.mk H
                clear H
                have p170:0≤(x5_1:Int):=of_decide_eq_true (by first|(with_reducible assumption)|assumption)
                have q170:x5_1<(l0.length:Int):=of_decide_eq_true (by first|(with_reducible assumption)|assumption)
                obtain ⟨ad170,e170,hx170_0⟩:=Kd.at_int HR0.out x5_1 p170 q170
                cases e170
                replace p170:=eq_true p170
                replace q170:=eq_true q170
                have p171:0≤(x5_1:Int):=of_decide_eq_true (by first|(with_reducible assumption)|assumption)
                have q171:x5_1<(l1.length:Int):=of_decide_eq_true (by first|(with_reducible assumption)|assumption)
                obtain ⟨ad171,e171,hx171_0⟩:=Kd.at_int HR1.out x5_1 p171 q171
                cases e171
                replace p171:=eq_true p171
                replace q171:=eq_true q171
                go_wp2
                repeat (go_quiet (fail);try go_wp2)
                go_roundg k1
                case measure=>have:=HK1.out;omega
                case rel=>exact ⟨(wrap64 (x5_1+1)),(by first|rfl|(simp;done)|(simp [*];done)),H',⟨by have:=HK1.out;omega⟩,by repeat (first|exact Drawn0.refl _|apply Drawn0.step)⟩
              · rw [if_neg c7] at H
                have c7b0:((rd l0 x5_1) == (rd l1 x5_1))=false:=beq_eq_false_iff_ne.mpr c7
                have c7b1:((rd l0 x5_1) != (rd l1 x5_1))=true:=bne_iff_ne.mpr c7
                obtain rfl:=Option.some.inj H
                have p170:0≤(x5_1:Int):=of_decide_eq_true (by first|(with_reducible assumption)|assumption)
                have q170:x5_1<(l0.length:Int):=of_decide_eq_true (by first|(with_reducible assumption)|assumption)
                obtain ⟨ad170,e170,hx170_0⟩:=Kd.at_int HR0.out x5_1 p170 q170
                cases e170
                replace p170:=eq_true p170
                replace q170:=eq_true q170
                have p171:0≤(x5_1:Int):=of_decide_eq_true (by first|(with_reducible assumption)|assumption)
                have q171:x5_1<(l1.length:Int):=of_decide_eq_true (by first|(with_reducible assumption)|assumption)
                obtain ⟨ad171,e171,hx171_0⟩:=Kd.at_int HR1.out x5_1 p171 q171
                cases e171
                replace p171:=eq_true p171
                replace q171:=eq_true q171
                go_wp2
                repeat (go_quiet (fail);try go_wp2)
                go_ret
                exact ⟨by first|rfl|(simp;done)|(simp [*];done),by repeat (first|exact Drawn0.refl _|apply Drawn0.step)⟩
            · rw [if_neg c6] at H
              exact absurd H (by simp)
          · rw [if_neg c5] at H
            exact absurd H (by simp)
        · rw [if_neg c4] at H
          have c4b0:decide (x5_1<(l0.length:Int))=false:=decide_eq_false c4
          clear c4
          obtain rfl:=Option.some.inj H
          go_wp2
          repeat (go_quiet (fail);try go_wp2)
          go_ret
          exact ⟨by first|rfl|(simp;done)|(simp [*];done),by repeat (first|exact Drawn0.refl _|apply Drawn0.step)⟩
  · rw [if_neg c3] at H
    have c3b0:((l0.length:Int) == (l1.length:Int))=false:=beq_eq_false_iff_ne.mpr c3
    have c3b1:((l0.length:Int) != (l1.length:Int))=true:=bne_iff_ne.mpr c3
    have c3b2:(l0.length == l1.length)=false:=by first|simpa using c3|(simp at c3 ⊢;omega)
    obtain rfl:=Option.some.inj H
    go_enter Try.func21,Try.ntmps21
    go_wp2
    repeat (go_quiet (fail);try go_wp2)
    go_ret
    exact ⟨by first|rfl|(simp;done)|(simp [*];done),by repeat (first|exact Drawn0.refl _|apply Drawn0.step)⟩
def gimbalref0_EqCommand.f (k:Nat) (a0_0:Int) (a0_1:Int) (a0_2:Int) (a0_3:Int) (a0_4:Int) (a0_5:Int) (l0_6:List Int) (a0_7:Int) (a1_0:Int) (a1_1:Int) (a1_2:Int) (a1_3:Int) (a1_4:Int) (a1_5:Int) (l1_6:List Int) (a1_7:Int):Option (Bool):=if a0_0=a1_0 then (if (a0_1 == a1_1&&(a0_2 == a1_2&&(a0_3 == a1_3&&(a0_4 == a1_4))))=true then (if a0_5=a1_5 then ((gimbalref0_EqBytes.f k l0_6 l1_6).bind fun t174=>(if t174=true then (some (a0_7 == a1_7)) else (some false))) else (some false)) else (some false)) else (some false)
theorem gimbalref0_EqCommand.mono:∀ a0 a1 a2 a3 a4 a5 a6 a7 a8 a9 a10 a11 a12 a13 a14 a15 k,LeO (gimbalref0_EqCommand.f k a0 a1 a2 a3 a4 a5 a6 a7 a8 a9 a10 a11 a12 a13 a14 a15) (gimbalref0_EqCommand.f (k+1) a0 a1 a2 a3 a4 a5 a6 a7 a8 a9 a10 a11 a12 a13 a14 a15):=by
  intro a0 a1 a2 a3 a4 a5 a6 a7 a8 a9 a10 a11 a12 a13 a14 a15 k
  unfold gimbalref0_EqCommand.f
  repeat' first
      | (with_reducible exact gimbalref0_EqBytes.mono _ _ _)
      | (with_reducible exact LeO.refl _)
      | (with_reducible exact LeO.none _)
      | (with_reducible refine LeO.ite ?_ ?_)
      | (with_reducible refine LeO.bind ?_ (fun _=>?_))
      | exact gimbalref0_EqBytes.mono _ _ _
      | exact LeO.none _
      | refine LeO.ite ?_ ?_
      | refine LeO.bind ?_ (fun _=>?_)
set_option maxHeartbeats 8000000 in
set_option maxRecDepth 100000 in
theorem gimbalref0_EqCommand.calls (k:Nat) (a0_0:Int) (a0_1:Int) (a0_2:Int) (a0_3:Int) (a0_4:Int) (a0_5:Int) (A0_6:Option Addr) (c0_6:Nat) (l0_6:List Int) (a0_7:Int) (a1_0:Int) (a1_1:Int) (a1_2:Int) (a1_3:Int) (a1_4:Int) (a1_5:Int) (A1_6:Option Addr) (c1_6:Nat) (l1_6:List Int) (a1_7:Int) (r:Bool) (w:World) (hr0_6:Kd.C (Kd.int .u8) w A0_6 l0_6.length l0_6) (hc0_6:l0_6.length≤c0_6) (hr1_6:Kd.C (Kd.int .u8) w A1_6 l1_6.length l1_6) (hc1_6:l1_6.length≤c1_6) (h:gimbalref0_EqCommand.f k a0_0 a0_1 a0_2 a0_3 a0_4 a0_5 l0_6 a0_7 a1_0 a1_1 a1_2 a1_3 a1_4 a1_5 l1_6 a1_7=some r) :
    Calls Try.prog 22 #[.agg #[.int .i64 a0_0,.int .i64 a0_1,.int .i64 a0_2,.int .i64 a0_3,.int .i64 a0_4,.int .i64 a0_5,.slice A0_6 l0_6.length c0_6,.int .i64 a0_7],.agg #[.int .i64 a1_0,.int .i64 a1_1,.int .i64 a1_2,.int .i64 a1_3,.int .i64 a1_4,.int .i64 a1_5,.slice A1_6 l1_6.length c1_6,.int .i64 a1_7]] w fun e w'=>e = .returned (.bool r)∧Below w.heap.size w w':=by
  have hu27:=Try.underlying27
  have hu24:=Try.underlying24
  have HR0_6:=Aside0.mk hr0_6
  have HC0_6:=Aside0.mk hc0_6
  clear hr0_6 hc0_6
  have HR1_6:=Aside0.mk hr1_6
  have HC1_6:=Aside0.mk hc1_6
  clear hr1_6 hc1_6
  have HB:=Aside0.mk (Below.refl w.heap.size w)
  have H:(if a0_0=a1_0 then (if (a0_1 == a1_1&&(a0_2 == a1_2&&(a0_3 == a1_3&&(a0_4 == a1_4))))=true then (if a0_5=a1_5 then ((gimbalref0_EqBytes.f k l0_6 l1_6).bind fun t174=>(if t174=true then (some (a0_7 == a1_7)) else (some false))) else (some false)) else (some false)) else (some false))=some r:=h
  clear h
  by_cases c3:a0_0=a1_0
  · rw [if_pos c3] at H
    have c3b0:(a0_0 == a1_0)=true:=beq_iff_eq.mpr c3
    have c3b1:(a0_0 != a1_0)=false:=bne_eq_false_iff_eq.mpr c3
    clear c3
    by_cases c4:(a0_1 == a1_1&&(a0_2 == a1_2&&(a0_3 == a1_3&&(a0_4 == a1_4))))=true
    · rw [if_pos c4] at H
      have c4b0:(a0_1 == a1_1&&(a0_2 == a1_2&&(a0_3 == a1_3&&(a0_4 == a1_4))))=true:=c4
      (try (have c4b1:decide (a0_1=a1_1&&(a0_2 == a1_2&&(a0_3 == a1_3&&(a0_4 == a1_4))))=true:=by simpa using c4))
      (try (have c4b2:(a0_1 == a1_1&&(a0_2 == a1_2&&(a0_3 == a1_3&&(a0_4 == a1_4))))=true:=by simpa using c4))
      clear c4
      by_cases c5:a0_5=a1_5
      · rw [if_pos c5] at H
        have c5b0:(a0_5 == a1_5)=true:=beq_iff_eq.mpr c5
        have c5b1:(a0_5 != a1_5)=false:=bne_eq_false_iff_eq.mpr c5
        clear c5
        replace H:=Option.bind_eq_some_iff.mp H
        obtain ⟨t174,A60,H⟩:=H
        replace H:(if t174=true then (some (a0_7 == a1_7)) else (some false))=some r:=H
        have A6:=Aside0.mk A60
        clear A60
        by_cases c7:t174=true
        · subst c7
          have H1:(some (a0_7 == a1_7))=some r:=by rw [if_pos rfl] at H;exact H
          clear H
          have H:=H1
          clear H1
          obtain rfl:=Option.some.inj H
          go_enter Try.func22,Try.ntmps22
          go_wp2_with (first|((with_reducible refine gate_dst (N:=2) rfl ?_);refine box_event ?hg (N:=2) ?hd (cs:=#[.int .i64 a0_0,.int .i64 a0_1,.int .i64 a0_2,.int .i64 a0_3,.int .i64 a0_4,.int .i64 a0_5,.slice A0_6 l0_6.length c0_6,.int .i64 a0_7]) (t:=27) ?hr ?_;(case hd=>rfl);(case hg=>rfl);(case hr=>first|(go_simp;done)|(go_simp;rfl));intro gb172 hg w8 hbox hb;have n0_:=Aside0.mk (below_step (by repeat (first|(with_reducible first|exact HB.out|apply below_alloc|apply pw_below_drewN|apply below_drew1)|exact HB.out)) hb);have n1_:=Aside0.mk (hbox);have n2_:=Aside0.mk ((by rw [hg];exact (below_size (by repeat (first|(with_reducible first|exact HB.out|apply below_alloc|apply pw_below_drewN|apply below_drew1)|exact HB.out))):w.heap.size≤gb172));have n3_:=Aside0.mk ((by rw [hg];exact (below_size (by repeat (first|(with_reducible first|exact HB.out|apply below_alloc|apply pw_below_drewN|apply below_drew1)|exact HB.out))):w.heap.size≤gb172));clear HB;have HB:=n0_;have BK172:=n1_;have GW172:=n2_;have GE172:=n3_;clear n0_ n1_ n2_ n3_;clear hb hbox hg)|((with_reducible refine gate_dst (N:=3) rfl ?_);refine box_event ?hg (N:=3) ?hd (cs:=#[.int .i64 a1_0,.int .i64 a1_1,.int .i64 a1_2,.int .i64 a1_3,.int .i64 a1_4,.int .i64 a1_5,.slice A1_6 l1_6.length c1_6,.int .i64 a1_7]) (t:=27) ?hr ?_;(case hd=>rfl);(case hg=>rfl);(case hr=>first|(go_simp;done)|(go_simp;rfl));intro gb173 hg w9 hbox hb;have n0_:=Aside0.mk (blk_below (g:=gb172) (o := .cells #[.int .i64 a0_0,.int .i64 a0_1,.int .i64 a0_2,.int .i64 a0_3,.int .i64 a0_4,.int .i64 a0_5,.slice A0_6 l0_6.length c0_6,.int .i64 a0_7] 27 (0,0)) (by (with_reducible repeat (first|refine blk_drewN ?_ _|refine blk_drew ?_|refine blk_alloc ?_ _));exact BK172.out) hb);have n1_:=Aside0.mk (below_step (by repeat (first|(with_reducible first|exact HB.out|apply below_alloc|apply pw_below_drewN|apply below_drew1|refine below_set ?_ GE172.out)|exact HB.out)) hb);have n2_:=Aside0.mk (hbox);have n3_:=Aside0.mk ((by rw [hg];exact (below_size (by repeat (first|(with_reducible first|exact HB.out|apply below_alloc|apply pw_below_drewN|apply below_drew1|refine below_set ?_ GE172.out)|exact HB.out))):w.heap.size≤gb173));have n4_:=Aside0.mk ((by rw [hg];exact (below_size (by repeat (first|(with_reducible first|exact HB.out|apply below_alloc|apply pw_below_drewN|apply below_drew1|refine below_set ?_ GE172.out)|exact HB.out))):w.heap.size≤gb173));have n5_:=Aside0.mk ((by rw [hg];exact Nat.ne_of_lt (blk_lt (g:=gb172) (o := .cells #[.int .i64 a0_0,.int .i64 a0_1,.int .i64 a0_2,.int .i64 a0_3,.int .i64 a0_4,.int .i64 a0_5,.slice A0_6 l0_6.length c0_6,.int .i64 a0_7] 27 (0,0)) (by (with_reducible repeat (first|refine blk_drewN ?_ _|refine blk_drew ?_|refine blk_alloc ?_ _));exact BK172.out)):gb172≠gb173));have n6_:=Aside0.mk ((by rw [hg];exact Nat.ne_of_gt (blk_lt (g:=gb172) (o := .cells #[.int .i64 a0_0,.int .i64 a0_1,.int .i64 a0_2,.int .i64 a0_3,.int .i64 a0_4,.int .i64 a0_5,.slice A0_6 l0_6.length c0_6,.int .i64 a0_7] 27 (0,0)) (by (with_reducible repeat (first|refine blk_drewN ?_ _|refine blk_drew ?_|refine blk_alloc ?_ _));exact BK172.out)):gb173≠gb172));clear BK172;clear HB;have BK172:=n0_;have HB:=n1_;have BK173:=n2_;have GW173:=n3_;have GE173:=n4_;have NB172_173:=n5_;have NB173_172:=n6_;clear n0_ n1_ n2_ n3_ n4_ n5_ n6_;clear hb hbox hg;have hnb10:=NB172_173.out;have hnc10:=NB173_172.out;have hcz11_0:w9.cell? ⟨gb172,0,none⟩=some (.int .i64 a0_0):=(blk_cell BK172.out 0).trans rfl;have hcz11_1:w9.cell? ⟨gb172,1,none⟩=some (.int .i64 a0_1):=(blk_cell BK172.out 1).trans rfl;have hcz11_2:w9.cell? ⟨gb172,2,none⟩=some (.int .i64 a0_2):=(blk_cell BK172.out 2).trans rfl;have hcz11_3:w9.cell? ⟨gb172,3,none⟩=some (.int .i64 a0_3):=(blk_cell BK172.out 3).trans rfl;have hcz11_4:w9.cell? ⟨gb172,4,none⟩=some (.int .i64 a0_4):=(blk_cell BK172.out 4).trans rfl;have hcz11_5:w9.cell? ⟨gb172,5,none⟩=some (.int .i64 a0_5):=(blk_cell BK172.out 5).trans rfl;have hcz11_6:w9.cell? ⟨gb172,6,none⟩=some (.slice A0_6 l0_6.length c0_6):=(blk_cell BK172.out 6).trans rfl;have hcz11_7:w9.cell? ⟨gb172,7,none⟩=some (.int .i64 a0_7):=(blk_cell BK172.out 7).trans rfl;have hfz11_0:=blk_frozen BK172.out 0;have hfz11_1:=blk_frozen BK172.out 1;have hfz11_2:=blk_frozen BK172.out 2;have hfz11_3:=blk_frozen BK172.out 3;have hfz11_4:=blk_frozen BK172.out 4;have hfz11_5:=blk_frozen BK172.out 5;have hfz11_6:=blk_frozen BK172.out 6;have hfz11_7:=blk_frozen BK172.out 7;have hcz12_0:w9.cell? ⟨gb173,0,none⟩=some (.int .i64 a1_0):=(blk_cell BK173.out 0).trans rfl;have hcz12_1:w9.cell? ⟨gb173,1,none⟩=some (.int .i64 a1_1):=(blk_cell BK173.out 1).trans rfl;have hcz12_2:w9.cell? ⟨gb173,2,none⟩=some (.int .i64 a1_2):=(blk_cell BK173.out 2).trans rfl;have hcz12_3:w9.cell? ⟨gb173,3,none⟩=some (.int .i64 a1_3):=(blk_cell BK173.out 3).trans rfl;have hcz12_4:w9.cell? ⟨gb173,4,none⟩=some (.int .i64 a1_4):=(blk_cell BK173.out 4).trans rfl;have hcz12_5:w9.cell? ⟨gb173,5,none⟩=some (.int .i64 a1_5):=(blk_cell BK173.out 5).trans rfl;have hcz12_6:w9.cell? ⟨gb173,6,none⟩=some (.slice A1_6 l1_6.length c1_6):=(blk_cell BK173.out 6).trans rfl;have hcz12_7:w9.cell? ⟨gb173,7,none⟩=some (.int .i64 a1_7):=(blk_cell BK173.out 7).trans rfl;have hfz12_0:=blk_frozen BK173.out 0;have hfz12_1:=blk_frozen BK173.out 1;have hfz12_2:=blk_frozen BK173.out 2;have hfz12_3:=blk_frozen BK173.out 3;have hfz12_4:=blk_frozen BK173.out 4;have hfz12_5:=blk_frozen BK173.out 5;have hfz12_6:=blk_frozen BK173.out 6;have hfz12_7:=blk_frozen BK173.out 7)|(go_at_call 21;(with_reducible refine (gimbalref0_EqBytes.calls k _ _ l0_6 _ _ l1_6 true _ ?side1 ?side2 ?side3 ?side4 A6.out).mono ?_);(case side1=>repeat (first|exact (Kd.C_below HR0_6.out HB.out)|(with_reducible refine Kd.C_alloc ?_ _)|(with_reducible refine Kd.C_drewN ?_ _)|(with_reducible refine Kd.C_drew ?_)));(case side2=>exact HC0_6.out);(case side3=>repeat (first|exact (Kd.C_below HR1_6.out HB.out)|(with_reducible refine Kd.C_alloc ?_ _)|(with_reducible refine Kd.C_drewN ?_ _)|(with_reducible refine Kd.C_drew ?_)));(case side4=>exact HC1_6.out);rintro e w' ⟨rfl,⟨nd,rfl⟩⟩))
          go_ret
          exact ⟨by first|rfl|(simp [errW_none,errW_some]<;>rfl)|(simp [*,errW_none,errW_some]<;>rfl),by repeat (first|(with_reducible first|exact HB.out|apply below_alloc|apply pw_below_drewN|apply below_drew1|refine below_set ?_ GE172.out|refine below_set ?_ GE173.out)|exact HB.out)⟩
        · replace c7:=Bool.eq_false_iff.mpr c7
          subst c7
          have H1:(some false)=some r:=by rw [if_neg (show ¬ (false=true) by decide)] at H;exact H
          clear H
          have H:=H1
          clear H1
          obtain rfl:=Option.some.inj H
          go_enter Try.func22,Try.ntmps22
          go_wp2_with (first|((with_reducible refine gate_dst (N:=2) rfl ?_);refine box_event ?hg (N:=2) ?hd (cs:=#[.int .i64 a0_0,.int .i64 a0_1,.int .i64 a0_2,.int .i64 a0_3,.int .i64 a0_4,.int .i64 a0_5,.slice A0_6 l0_6.length c0_6,.int .i64 a0_7]) (t:=27) ?hr ?_;(case hd=>rfl);(case hg=>rfl);(case hr=>first|(go_simp;done)|(go_simp;rfl));intro gb172 hg w13 hbox hb;have n0_:=Aside0.mk (below_step (by repeat (first|(with_reducible first|exact HB.out|apply below_alloc|apply pw_below_drewN|apply below_drew1)|exact HB.out)) hb);have n1_:=Aside0.mk (hbox);have n2_:=Aside0.mk ((by rw [hg];exact (below_size (by repeat (first|(with_reducible first|exact HB.out|apply below_alloc|apply pw_below_drewN|apply below_drew1)|exact HB.out))):w.heap.size≤gb172));have n3_:=Aside0.mk ((by rw [hg];exact (below_size (by repeat (first|(with_reducible first|exact HB.out|apply below_alloc|apply pw_below_drewN|apply below_drew1)|exact HB.out))):w.heap.size≤gb172));clear HB;have HB:=n0_;have BK172:=n1_;have GW172:=n2_;have GE172:=n3_;clear n0_ n1_ n2_ n3_;clear hb hbox hg)|((with_reducible refine gate_dst (N:=3) rfl ?_);refine box_event ?hg (N:=3) ?hd (cs:=#[.int .i64 a1_0,.int .i64 a1_1,.int .i64 a1_2,.int .i64 a1_3,.int .i64 a1_4,.int .i64 a1_5,.slice A1_6 l1_6.length c1_6,.int .i64 a1_7]) (t:=27) ?hr ?_;(case hd=>rfl);(case hg=>rfl);(case hr=>first|(go_simp;done)|(go_simp;rfl));intro gb173 hg w14 hbox hb;have n0_:=Aside0.mk (blk_below (g:=gb172) (o := .cells #[.int .i64 a0_0,.int .i64 a0_1,.int .i64 a0_2,.int .i64 a0_3,.int .i64 a0_4,.int .i64 a0_5,.slice A0_6 l0_6.length c0_6,.int .i64 a0_7] 27 (0,0)) (by (with_reducible repeat (first|refine blk_drewN ?_ _|refine blk_drew ?_|refine blk_alloc ?_ _));exact BK172.out) hb);have n1_:=Aside0.mk (below_step (by repeat (first|(with_reducible first|exact HB.out|apply below_alloc|apply pw_below_drewN|apply below_drew1|refine below_set ?_ GE172.out)|exact HB.out)) hb);have n2_:=Aside0.mk (hbox);have n3_:=Aside0.mk ((by rw [hg];exact (below_size (by repeat (first|(with_reducible first|exact HB.out|apply below_alloc|apply pw_below_drewN|apply below_drew1|refine below_set ?_ GE172.out)|exact HB.out))):w.heap.size≤gb173));have n4_:=Aside0.mk ((by rw [hg];exact (below_size (by repeat (first|(with_reducible first|exact HB.out|apply below_alloc|apply pw_below_drewN|apply below_drew1|refine below_set ?_ GE172.out)|exact HB.out))):w.heap.size≤gb173));have n5_:=Aside0.mk ((by rw [hg];exact Nat.ne_of_lt (blk_lt (g:=gb172) (o := .cells #[.int .i64 a0_0,.int .i64 a0_1,.int .i64 a0_2,.int .i64 a0_3,.int .i64 a0_4,.int .i64 a0_5,.slice A0_6 l0_6.length c0_6,.int .i64 a0_7] 27 (0,0)) (by (with_reducible repeat (first|refine blk_drewN ?_ _|refine blk_drew ?_|refine blk_alloc ?_ _));exact BK172.out)):gb172≠gb173));have n6_:=Aside0.mk ((by rw [hg];exact Nat.ne_of_gt (blk_lt (g:=gb172) (o := .cells #[.int .i64 a0_0,.int .i64 a0_1,.int .i64 a0_2,.int .i64 a0_3,.int .i64 a0_4,.int .i64 a0_5,.slice A0_6 l0_6.length c0_6,.int .i64 a0_7] 27 (0,0)) (by (with_reducible repeat (first|refine blk_drewN ?_ _|refine blk_drew ?_|refine blk_alloc ?_ _));exact BK172.out)):gb173≠gb172));clear BK172;clear HB;have BK172:=n0_;have HB:=n1_;have BK173:=n2_;have GW173:=n3_;have GE173:=n4_;have NB172_173:=n5_;have NB173_172:=n6_;clear n0_ n1_ n2_ n3_ n4_ n5_ n6_;clear hb hbox hg;have hnb15:=NB172_173.out;have hnc15:=NB173_172.out;have hcz16_0:w14.cell? ⟨gb172,0,none⟩=some (.int .i64 a0_0):=(blk_cell BK172.out 0).trans rfl;have hcz16_1:w14.cell? ⟨gb172,1,none⟩=some (.int .i64 a0_1):=(blk_cell BK172.out 1).trans rfl;have hcz16_2:w14.cell? ⟨gb172,2,none⟩=some (.int .i64 a0_2):=(blk_cell BK172.out 2).trans rfl;have hcz16_3:w14.cell? ⟨gb172,3,none⟩=some (.int .i64 a0_3):=(blk_cell BK172.out 3).trans rfl;have hcz16_4:w14.cell? ⟨gb172,4,none⟩=some (.int .i64 a0_4):=(blk_cell BK172.out 4).trans rfl;have hcz16_5:w14.cell? ⟨gb172,5,none⟩=some (.int .i64 a0_5):=(blk_cell BK172.out 5).trans rfl;have hcz16_6:w14.cell? ⟨gb172,6,none⟩=some (.slice A0_6 l0_6.length c0_6):=(blk_cell BK172.out 6).trans rfl;have hcz16_7:w14.cell? ⟨gb172,7,none⟩=some (.int .i64 a0_7):=(blk_cell BK172.out 7).trans rfl;have hfz16_0:=blk_frozen BK172.out 0;have hfz16_1:=blk_frozen BK172.out 1;have hfz16_2:=blk_frozen BK172.out 2;have hfz16_3:=blk_frozen BK172.out 3;have hfz16_4:=blk_frozen BK172.out 4;have hfz16_5:=blk_frozen BK172.out 5;have hfz16_6:=blk_frozen BK172.out 6;have hfz16_7:=blk_frozen BK172.out 7;have hcz17_0:w14.cell? ⟨gb173,0,none⟩=some (.int .i64 a1_0):=(blk_cell BK173.out 0).trans rfl;have hcz17_1:w14.cell? ⟨gb173,1,none⟩=some (.int .i64 a1_1):=(blk_cell BK173.out 1).trans rfl;have hcz17_2:w14.cell? ⟨gb173,2,none⟩=some (.int .i64 a1_2):=(blk_cell BK173.out 2).trans rfl;have hcz17_3:w14.cell? ⟨gb173,3,none⟩=some (.int .i64 a1_3):=(blk_cell BK173.out 3).trans rfl;have hcz17_4:w14.cell? ⟨gb173,4,none⟩=some (.int .i64 a1_4):=(blk_cell BK173.out 4).trans rfl;have hcz17_5:w14.cell? ⟨gb173,5,none⟩=some (.int .i64 a1_5):=(blk_cell BK173.out 5).trans rfl;have hcz17_6:w14.cell? ⟨gb173,6,none⟩=some (.slice A1_6 l1_6.length c1_6):=(blk_cell BK173.out 6).trans rfl;have hcz17_7:w14.cell? ⟨gb173,7,none⟩=some (.int .i64 a1_7):=(blk_cell BK173.out 7).trans rfl;have hfz17_0:=blk_frozen BK173.out 0;have hfz17_1:=blk_frozen BK173.out 1;have hfz17_2:=blk_frozen BK173.out 2;have hfz17_3:=blk_frozen BK173.out 3;have hfz17_4:=blk_frozen BK173.out 4;have hfz17_5:=blk_frozen BK173.out 5;have hfz17_6:=blk_frozen BK173.out 6;have hfz17_7:=blk_frozen BK173.out 7)|(go_at_call 21;(with_reducible refine (gimbalref0_EqBytes.calls k _ _ l0_6 _ _ l1_6 false _ ?side1 ?side2 ?side3 ?side4 A6.out).mono ?_);(case side1=>repeat (first|exact (Kd.C_below HR0_6.out HB.out)|(with_reducible refine Kd.C_alloc ?_ _)|(with_reducible refine Kd.C_drewN ?_ _)|(with_reducible refine Kd.C_drew ?_)));(case side2=>exact HC0_6.out);(case side3=>repeat (first|exact (Kd.C_below HR1_6.out HB.out)|(with_reducible refine Kd.C_alloc ?_ _)|(with_reducible refine Kd.C_drewN ?_ _)|(with_reducible refine Kd.C_drew ?_)));(case side4=>exact HC1_6.out);rintro e w' ⟨rfl,⟨nd,rfl⟩⟩))
          go_ret
          exact ⟨by first|rfl|(simp [errW_none,errW_some]<;>rfl)|(simp [*,errW_none,errW_some]<;>rfl),by repeat (first|(with_reducible first|exact HB.out|apply below_alloc|apply pw_below_drewN|apply below_drew1|refine below_set ?_ GE172.out|refine below_set ?_ GE173.out)|exact HB.out)⟩
      · rw [if_neg c5] at H
        have c5b0:(a0_5 == a1_5)=false:=beq_eq_false_iff_ne.mpr c5
        have c5b1:(a0_5 != a1_5)=true:=bne_iff_ne.mpr c5
        obtain rfl:=Option.some.inj H
        go_enter Try.func22,Try.ntmps22
        go_wp2_with (first|((with_reducible refine gate_dst (N:=2) rfl ?_);refine box_event ?hg (N:=2) ?hd (cs:=#[.int .i64 a0_0,.int .i64 a0_1,.int .i64 a0_2,.int .i64 a0_3,.int .i64 a0_4,.int .i64 a0_5,.slice A0_6 l0_6.length c0_6,.int .i64 a0_7]) (t:=27) ?hr ?_;(case hd=>rfl);(case hg=>rfl);(case hr=>first|(go_simp;done)|(go_simp;rfl));intro gb172 hg w18 hbox hb;have n0_:=Aside0.mk (below_step (by repeat (first|(with_reducible first|exact HB.out|apply below_alloc|apply pw_below_drewN|apply below_drew1)|exact HB.out)) hb);have n1_:=Aside0.mk (hbox);have n2_:=Aside0.mk ((by rw [hg];exact (below_size (by repeat (first|(with_reducible first|exact HB.out|apply below_alloc|apply pw_below_drewN|apply below_drew1)|exact HB.out))):w.heap.size≤gb172));have n3_:=Aside0.mk ((by rw [hg];exact (below_size (by repeat (first|(with_reducible first|exact HB.out|apply below_alloc|apply pw_below_drewN|apply below_drew1)|exact HB.out))):w.heap.size≤gb172));clear HB;have HB:=n0_;have BK172:=n1_;have GW172:=n2_;have GE172:=n3_;clear n0_ n1_ n2_ n3_;clear hb hbox hg)|((with_reducible refine gate_dst (N:=3) rfl ?_);refine box_event ?hg (N:=3) ?hd (cs:=#[.int .i64 a1_0,.int .i64 a1_1,.int .i64 a1_2,.int .i64 a1_3,.int .i64 a1_4,.int .i64 a1_5,.slice A1_6 l1_6.length c1_6,.int .i64 a1_7]) (t:=27) ?hr ?_;(case hd=>rfl);(case hg=>rfl);(case hr=>first|(go_simp;done)|(go_simp;rfl));intro gb173 hg w19 hbox hb;have n0_:=Aside0.mk (blk_below (g:=gb172) (o := .cells #[.int .i64 a0_0,.int .i64 a0_1,.int .i64 a0_2,.int .i64 a0_3,.int .i64 a0_4,.int .i64 a0_5,.slice A0_6 l0_6.length c0_6,.int .i64 a0_7] 27 (0,0)) (by (with_reducible repeat (first|refine blk_drewN ?_ _|refine blk_drew ?_|refine blk_alloc ?_ _));exact BK172.out) hb);have n1_:=Aside0.mk (below_step (by repeat (first|(with_reducible first|exact HB.out|apply below_alloc|apply pw_below_drewN|apply below_drew1|refine below_set ?_ GE172.out)|exact HB.out)) hb);have n2_:=Aside0.mk (hbox);have n3_:=Aside0.mk ((by rw [hg];exact (below_size (by repeat (first|(with_reducible first|exact HB.out|apply below_alloc|apply pw_below_drewN|apply below_drew1|refine below_set ?_ GE172.out)|exact HB.out))):w.heap.size≤gb173));have n4_:=Aside0.mk ((by rw [hg];exact (below_size (by repeat (first|(with_reducible first|exact HB.out|apply below_alloc|apply pw_below_drewN|apply below_drew1|refine below_set ?_ GE172.out)|exact HB.out))):w.heap.size≤gb173));have n5_:=Aside0.mk ((by rw [hg];exact Nat.ne_of_lt (blk_lt (g:=gb172) (o := .cells #[.int .i64 a0_0,.int .i64 a0_1,.int .i64 a0_2,.int .i64 a0_3,.int .i64 a0_4,.int .i64 a0_5,.slice A0_6 l0_6.length c0_6,.int .i64 a0_7] 27 (0,0)) (by (with_reducible repeat (first|refine blk_drewN ?_ _|refine blk_drew ?_|refine blk_alloc ?_ _));exact BK172.out)):gb172≠gb173));have n6_:=Aside0.mk ((by rw [hg];exact Nat.ne_of_gt (blk_lt (g:=gb172) (o := .cells #[.int .i64 a0_0,.int .i64 a0_1,.int .i64 a0_2,.int .i64 a0_3,.int .i64 a0_4,.int .i64 a0_5,.slice A0_6 l0_6.length c0_6,.int .i64 a0_7] 27 (0,0)) (by (with_reducible repeat (first|refine blk_drewN ?_ _|refine blk_drew ?_|refine blk_alloc ?_ _));exact BK172.out)):gb173≠gb172));clear BK172;clear HB;have BK172:=n0_;have HB:=n1_;have BK173:=n2_;have GW173:=n3_;have GE173:=n4_;have NB172_173:=n5_;have NB173_172:=n6_;clear n0_ n1_ n2_ n3_ n4_ n5_ n6_;clear hb hbox hg;have hnb20:=NB172_173.out;have hnc20:=NB173_172.out;have hcz21_0:w19.cell? ⟨gb172,0,none⟩=some (.int .i64 a0_0):=(blk_cell BK172.out 0).trans rfl;have hcz21_1:w19.cell? ⟨gb172,1,none⟩=some (.int .i64 a0_1):=(blk_cell BK172.out 1).trans rfl;have hcz21_2:w19.cell? ⟨gb172,2,none⟩=some (.int .i64 a0_2):=(blk_cell BK172.out 2).trans rfl;have hcz21_3:w19.cell? ⟨gb172,3,none⟩=some (.int .i64 a0_3):=(blk_cell BK172.out 3).trans rfl;have hcz21_4:w19.cell? ⟨gb172,4,none⟩=some (.int .i64 a0_4):=(blk_cell BK172.out 4).trans rfl;have hcz21_5:w19.cell? ⟨gb172,5,none⟩=some (.int .i64 a0_5):=(blk_cell BK172.out 5).trans rfl;have hcz21_6:w19.cell? ⟨gb172,6,none⟩=some (.slice A0_6 l0_6.length c0_6):=(blk_cell BK172.out 6).trans rfl;have hcz21_7:w19.cell? ⟨gb172,7,none⟩=some (.int .i64 a0_7):=(blk_cell BK172.out 7).trans rfl;have hfz21_0:=blk_frozen BK172.out 0;have hfz21_1:=blk_frozen BK172.out 1;have hfz21_2:=blk_frozen BK172.out 2;have hfz21_3:=blk_frozen BK172.out 3;have hfz21_4:=blk_frozen BK172.out 4;have hfz21_5:=blk_frozen BK172.out 5;have hfz21_6:=blk_frozen BK172.out 6;have hfz21_7:=blk_frozen BK172.out 7;have hcz22_0:w19.cell? ⟨gb173,0,none⟩=some (.int .i64 a1_0):=(blk_cell BK173.out 0).trans rfl;have hcz22_1:w19.cell? ⟨gb173,1,none⟩=some (.int .i64 a1_1):=(blk_cell BK173.out 1).trans rfl;have hcz22_2:w19.cell? ⟨gb173,2,none⟩=some (.int .i64 a1_2):=(blk_cell BK173.out 2).trans rfl;have hcz22_3:w19.cell? ⟨gb173,3,none⟩=some (.int .i64 a1_3):=(blk_cell BK173.out 3).trans rfl;have hcz22_4:w19.cell? ⟨gb173,4,none⟩=some (.int .i64 a1_4):=(blk_cell BK173.out 4).trans rfl;have hcz22_5:w19.cell? ⟨gb173,5,none⟩=some (.int .i64 a1_5):=(blk_cell BK173.out 5).trans rfl;have hcz22_6:w19.cell? ⟨gb173,6,none⟩=some (.slice A1_6 l1_6.length c1_6):=(blk_cell BK173.out 6).trans rfl;have hcz22_7:w19.cell? ⟨gb173,7,none⟩=some (.int .i64 a1_7):=(blk_cell BK173.out 7).trans rfl;have hfz22_0:=blk_frozen BK173.out 0;have hfz22_1:=blk_frozen BK173.out 1;have hfz22_2:=blk_frozen BK173.out 2;have hfz22_3:=blk_frozen BK173.out 3;have hfz22_4:=blk_frozen BK173.out 4;have hfz22_5:=blk_frozen BK173.out 5;have hfz22_6:=blk_frozen BK173.out 6;have hfz22_7:=blk_frozen BK173.out 7))
        go_ret
        exact ⟨by first|rfl|(simp [errW_none,errW_some]<;>rfl)|(simp [*,errW_none,errW_some]<;>rfl),by repeat (first|(with_reducible first|exact HB.out|apply below_alloc|apply pw_below_drewN|apply below_drew1|refine below_set ?_ GE172.out|refine below_set ?_ GE173.out)|exact HB.out)⟩
    · rw [if_neg c4] at H
      have c4b0:(a0_1 == a1_1&&(a0_2 == a1_2&&(a0_3 == a1_3&&(a0_4 == a1_4))))=false:=by simpa using c4
      (try (have c4b1:decide (a0_1=a1_1&&(a0_2 == a1_2&&(a0_3 == a1_3&&(a0_4 == a1_4))))=false:=by simpa using c4))
      (try (have c4b2:(a0_1 == a1_1&&(a0_2 == a1_2&&(a0_3 == a1_3&&(a0_4 == a1_4))))=false:=by simpa using c4))
      (try (have c4b3:¬ (a0_1=a1_1&&(a0_2 == a1_2&&(a0_3 == a1_3&&(a0_4 == a1_4)))):=by simpa using c4))
      clear c4
      obtain rfl:=Option.some.inj H
      go_enter Try.func22,Try.ntmps22
      go_wp2_with (first|((with_reducible refine gate_dst (N:=2) rfl ?_);refine box_event ?hg (N:=2) ?hd (cs:=#[.int .i64 a0_0,.int .i64 a0_1,.int .i64 a0_2,.int .i64 a0_3,.int .i64 a0_4,.int .i64 a0_5,.slice A0_6 l0_6.length c0_6,.int .i64 a0_7]) (t:=27) ?hr ?_;(case hd=>rfl);(case hg=>rfl);(case hr=>first|(go_simp;done)|(go_simp;rfl));intro gb172 hg w23 hbox hb;have n0_:=Aside0.mk (below_step (by repeat (first|(with_reducible first|exact HB.out|apply below_alloc|apply pw_below_drewN|apply below_drew1)|exact HB.out)) hb);have n1_:=Aside0.mk (hbox);have n2_:=Aside0.mk ((by rw [hg];exact (below_size (by repeat (first|(with_reducible first|exact HB.out|apply below_alloc|apply pw_below_drewN|apply below_drew1)|exact HB.out))):w.heap.size≤gb172));have n3_:=Aside0.mk ((by rw [hg];exact (below_size (by repeat (first|(with_reducible first|exact HB.out|apply below_alloc|apply pw_below_drewN|apply below_drew1)|exact HB.out))):w.heap.size≤gb172));clear HB;have HB:=n0_;have BK172:=n1_;have GW172:=n2_;have GE172:=n3_;clear n0_ n1_ n2_ n3_;clear hb hbox hg)|((with_reducible refine gate_dst (N:=3) rfl ?_);refine box_event ?hg (N:=3) ?hd (cs:=#[.int .i64 a1_0,.int .i64 a1_1,.int .i64 a1_2,.int .i64 a1_3,.int .i64 a1_4,.int .i64 a1_5,.slice A1_6 l1_6.length c1_6,.int .i64 a1_7]) (t:=27) ?hr ?_;(case hd=>rfl);(case hg=>rfl);(case hr=>first|(go_simp;done)|(go_simp;rfl));intro gb173 hg w24 hbox hb;have n0_:=Aside0.mk (blk_below (g:=gb172) (o := .cells #[.int .i64 a0_0,.int .i64 a0_1,.int .i64 a0_2,.int .i64 a0_3,.int .i64 a0_4,.int .i64 a0_5,.slice A0_6 l0_6.length c0_6,.int .i64 a0_7] 27 (0,0)) (by (with_reducible repeat (first|refine blk_drewN ?_ _|refine blk_drew ?_|refine blk_alloc ?_ _));exact BK172.out) hb);have n1_:=Aside0.mk (below_step (by repeat (first|(with_reducible first|exact HB.out|apply below_alloc|apply pw_below_drewN|apply below_drew1|refine below_set ?_ GE172.out)|exact HB.out)) hb);have n2_:=Aside0.mk (hbox);have n3_:=Aside0.mk ((by rw [hg];exact (below_size (by repeat (first|(with_reducible first|exact HB.out|apply below_alloc|apply pw_below_drewN|apply below_drew1|refine below_set ?_ GE172.out)|exact HB.out))):w.heap.size≤gb173));have n4_:=Aside0.mk ((by rw [hg];exact (below_size (by repeat (first|(with_reducible first|exact HB.out|apply below_alloc|apply pw_below_drewN|apply below_drew1|refine below_set ?_ GE172.out)|exact HB.out))):w.heap.size≤gb173));have n5_:=Aside0.mk ((by rw [hg];exact Nat.ne_of_lt (blk_lt (g:=gb172) (o := .cells #[.int .i64 a0_0,.int .i64 a0_1,.int .i64 a0_2,.int .i64 a0_3,.int .i64 a0_4,.int .i64 a0_5,.slice A0_6 l0_6.length c0_6,.int .i64 a0_7] 27 (0,0)) (by (with_reducible repeat (first|refine blk_drewN ?_ _|refine blk_drew ?_|refine blk_alloc ?_ _));exact BK172.out)):gb172≠gb173));have n6_:=Aside0.mk ((by rw [hg];exact Nat.ne_of_gt (blk_lt (g:=gb172) (o := .cells #[.int .i64 a0_0,.int .i64 a0_1,.int .i64 a0_2,.int .i64 a0_3,.int .i64 a0_4,.int .i64 a0_5,.slice A0_6 l0_6.length c0_6,.int .i64 a0_7] 27 (0,0)) (by (with_reducible repeat (first|refine blk_drewN ?_ _|refine blk_drew ?_|refine blk_alloc ?_ _));exact BK172.out)):gb173≠gb172));clear BK172;clear HB;have BK172:=n0_;have HB:=n1_;have BK173:=n2_;have GW173:=n3_;have GE173:=n4_;have NB172_173:=n5_;have NB173_172:=n6_;clear n0_ n1_ n2_ n3_ n4_ n5_ n6_;clear hb hbox hg;have hnb25:=NB172_173.out;have hnc25:=NB173_172.out;have hcz26_0:w24.cell? ⟨gb172,0,none⟩=some (.int .i64 a0_0):=(blk_cell BK172.out 0).trans rfl;have hcz26_1:w24.cell? ⟨gb172,1,none⟩=some (.int .i64 a0_1):=(blk_cell BK172.out 1).trans rfl;have hcz26_2:w24.cell? ⟨gb172,2,none⟩=some (.int .i64 a0_2):=(blk_cell BK172.out 2).trans rfl;have hcz26_3:w24.cell? ⟨gb172,3,none⟩=some (.int .i64 a0_3):=(blk_cell BK172.out 3).trans rfl;have hcz26_4:w24.cell? ⟨gb172,4,none⟩=some (.int .i64 a0_4):=(blk_cell BK172.out 4).trans rfl;have hcz26_5:w24.cell? ⟨gb172,5,none⟩=some (.int .i64 a0_5):=(blk_cell BK172.out 5).trans rfl;have hcz26_6:w24.cell? ⟨gb172,6,none⟩=some (.slice A0_6 l0_6.length c0_6):=(blk_cell BK172.out 6).trans rfl;have hcz26_7:w24.cell? ⟨gb172,7,none⟩=some (.int .i64 a0_7):=(blk_cell BK172.out 7).trans rfl;have hfz26_0:=blk_frozen BK172.out 0;have hfz26_1:=blk_frozen BK172.out 1;have hfz26_2:=blk_frozen BK172.out 2;have hfz26_3:=blk_frozen BK172.out 3;have hfz26_4:=blk_frozen BK172.out 4;have hfz26_5:=blk_frozen BK172.out 5;have hfz26_6:=blk_frozen BK172.out 6;have hfz26_7:=blk_frozen BK172.out 7;have hcz27_0:w24.cell? ⟨gb173,0,none⟩=some (.int .i64 a1_0):=(blk_cell BK173.out 0).trans rfl;have hcz27_1:w24.cell? ⟨gb173,1,none⟩=some (.int .i64 a1_1):=(blk_cell BK173.out 1).trans rfl;have hcz27_2:w24.cell? ⟨gb173,2,none⟩=some (.int .i64 a1_2):=(blk_cell BK173.out 2).trans rfl;have hcz27_3:w24.cell? ⟨gb173,3,none⟩=some (.int .i64 a1_3):=(blk_cell BK173.out 3).trans rfl;have hcz27_4:w24.cell? ⟨gb173,4,none⟩=some (.int .i64 a1_4):=(blk_cell BK173.out 4).trans rfl;have hcz27_5:w24.cell? ⟨gb173,5,none⟩=some (.int .i64 a1_5):=(blk_cell BK173.out 5).trans rfl;have hcz27_6:w24.cell? ⟨gb173,6,none⟩=some (.slice A1_6 l1_6.length c1_6):=(blk_cell BK173.out 6).trans rfl;have hcz27_7:w24.cell? ⟨gb173,7,none⟩=some (.int .i64 a1_7):=(blk_cell BK173.out 7).trans rfl;have hfz27_0:=blk_frozen BK173.out 0;have hfz27_1:=blk_frozen BK173.out 1;have hfz27_2:=blk_frozen BK173.out 2;have hfz27_3:=blk_frozen BK173.out 3;have hfz27_4:=blk_frozen BK173.out 4;have hfz27_5:=blk_frozen BK173.out 5;have hfz27_6:=blk_frozen BK173.out 6;have hfz27_7:=blk_frozen BK173.out 7))
      go_ret
      exact ⟨by first|rfl|(simp [errW_none,errW_some]<;>rfl)|(simp [*,errW_none,errW_some]<;>rfl),by repeat (first|(with_reducible first|exact HB.out|apply below_alloc|apply pw_below_drewN|apply below_drew1|refine below_set ?_ GE172.out|refine below_set ?_ GE173.out)|exact HB.out)⟩
  · rw [if_neg c3] at H
    have c3b0:(a0_0 == a1_0)=false:=beq_eq_false_iff_ne.mpr c3
    have c3b1:(a0_0 != a1_0)=true:=bne_iff_ne.mpr c3
    obtain rfl:=Option.some.inj H
    go_enter Try.func22,Try.ntmps22
    go_wp2_with (first|((with_reducible refine gate_dst (N:=2) rfl ?_);refine box_event ?hg (N:=2) ?hd (cs:=#[.int .i64 a0_0,.int .i64 a0_1,.int .i64 a0_2,.int .i64 a0_3,.int .i64 a0_4,.int .i64 a0_5,.slice A0_6 l0_6.length c0_6,.int .i64 a0_7]) (t:=27) ?hr ?_;(case hd=>rfl);(case hg=>rfl);(case hr=>first|(go_simp;done)|(go_simp;rfl));intro gb172 hg w28 hbox hb;have n0_:=Aside0.mk (below_step (by repeat (first|(with_reducible first|exact HB.out|apply below_alloc|apply pw_below_drewN|apply below_drew1)|exact HB.out)) hb);have n1_:=Aside0.mk (hbox);have n2_:=Aside0.mk ((by rw [hg];exact (below_size (by repeat (first|(with_reducible first|exact HB.out|apply below_alloc|apply pw_below_drewN|apply below_drew1)|exact HB.out))):w.heap.size≤gb172));have n3_:=Aside0.mk ((by rw [hg];exact (below_size (by repeat (first|(with_reducible first|exact HB.out|apply below_alloc|apply pw_below_drewN|apply below_drew1)|exact HB.out))):w.heap.size≤gb172));clear HB;have HB:=n0_;have BK172:=n1_;have GW172:=n2_;have GE172:=n3_;clear n0_ n1_ n2_ n3_;clear hb hbox hg)|((with_reducible refine gate_dst (N:=3) rfl ?_);refine box_event ?hg (N:=3) ?hd (cs:=#[.int .i64 a1_0,.int .i64 a1_1,.int .i64 a1_2,.int .i64 a1_3,.int .i64 a1_4,.int .i64 a1_5,.slice A1_6 l1_6.length c1_6,.int .i64 a1_7]) (t:=27) ?hr ?_;(case hd=>rfl);(case hg=>rfl);(case hr=>first|(go_simp;done)|(go_simp;rfl));intro gb173 hg w29 hbox hb;have n0_:=Aside0.mk (blk_below (g:=gb172) (o := .cells #[.int .i64 a0_0,.int .i64 a0_1,.int .i64 a0_2,.int .i64 a0_3,.int .i64 a0_4,.int .i64 a0_5,.slice A0_6 l0_6.length c0_6,.int .i64 a0_7] 27 (0,0)) (by (with_reducible repeat (first|refine blk_drewN ?_ _|refine blk_drew ?_|refine blk_alloc ?_ _));exact BK172.out) hb);have n1_:=Aside0.mk (below_step (by repeat (first|(with_reducible first|exact HB.out|apply below_alloc|apply pw_below_drewN|apply below_drew1|refine below_set ?_ GE172.out)|exact HB.out)) hb);have n2_:=Aside0.mk (hbox);have n3_:=Aside0.mk ((by rw [hg];exact (below_size (by repeat (first|(with_reducible first|exact HB.out|apply below_alloc|apply pw_below_drewN|apply below_drew1|refine below_set ?_ GE172.out)|exact HB.out))):w.heap.size≤gb173));have n4_:=Aside0.mk ((by rw [hg];exact (below_size (by repeat (first|(with_reducible first|exact HB.out|apply below_alloc|apply pw_below_drewN|apply below_drew1|refine below_set ?_ GE172.out)|exact HB.out))):w.heap.size≤gb173));have n5_:=Aside0.mk ((by rw [hg];exact Nat.ne_of_lt (blk_lt (g:=gb172) (o := .cells #[.int .i64 a0_0,.int .i64 a0_1,.int .i64 a0_2,.int .i64 a0_3,.int .i64 a0_4,.int .i64 a0_5,.slice A0_6 l0_6.length c0_6,.int .i64 a0_7] 27 (0,0)) (by (with_reducible repeat (first|refine blk_drewN ?_ _|refine blk_drew ?_|refine blk_alloc ?_ _));exact BK172.out)):gb172≠gb173));have n6_:=Aside0.mk ((by rw [hg];exact Nat.ne_of_gt (blk_lt (g:=gb172) (o := .cells #[.int .i64 a0_0,.int .i64 a0_1,.int .i64 a0_2,.int .i64 a0_3,.int .i64 a0_4,.int .i64 a0_5,.slice A0_6 l0_6.length c0_6,.int .i64 a0_7] 27 (0,0)) (by (with_reducible repeat (first|refine blk_drewN ?_ _|refine blk_drew ?_|refine blk_alloc ?_ _));exact BK172.out)):gb173≠gb172));clear BK172;clear HB;have BK172:=n0_;have HB:=n1_;have BK173:=n2_;have GW173:=n3_;have GE173:=n4_;have NB172_173:=n5_;have NB173_172:=n6_;clear n0_ n1_ n2_ n3_ n4_ n5_ n6_;clear hb hbox hg;have hnb30:=NB172_173.out;have hnc30:=NB173_172.out;have hcz31_0:w29.cell? ⟨gb172,0,none⟩=some (.int .i64 a0_0):=(blk_cell BK172.out 0).trans rfl;have hcz31_1:w29.cell? ⟨gb172,1,none⟩=some (.int .i64 a0_1):=(blk_cell BK172.out 1).trans rfl;have hcz31_2:w29.cell? ⟨gb172,2,none⟩=some (.int .i64 a0_2):=(blk_cell BK172.out 2).trans rfl;have hcz31_3:w29.cell? ⟨gb172,3,none⟩=some (.int .i64 a0_3):=(blk_cell BK172.out 3).trans rfl;have hcz31_4:w29.cell? ⟨gb172,4,none⟩=some (.int .i64 a0_4):=(blk_cell BK172.out 4).trans rfl;have hcz31_5:w29.cell? ⟨gb172,5,none⟩=some (.int .i64 a0_5):=(blk_cell BK172.out 5).trans rfl;have hcz31_6:w29.cell? ⟨gb172,6,none⟩=some (.slice A0_6 l0_6.length c0_6):=(blk_cell BK172.out 6).trans rfl;have hcz31_7:w29.cell? ⟨gb172,7,none⟩=some (.int .i64 a0_7):=(blk_cell BK172.out 7).trans rfl;have hfz31_0:=blk_frozen BK172.out 0;have hfz31_1:=blk_frozen BK172.out 1;have hfz31_2:=blk_frozen BK172.out 2;have hfz31_3:=blk_frozen BK172.out 3;have hfz31_4:=blk_frozen BK172.out 4;have hfz31_5:=blk_frozen BK172.out 5;have hfz31_6:=blk_frozen BK172.out 6;have hfz31_7:=blk_frozen BK172.out 7;have hcz32_0:w29.cell? ⟨gb173,0,none⟩=some (.int .i64 a1_0):=(blk_cell BK173.out 0).trans rfl;have hcz32_1:w29.cell? ⟨gb173,1,none⟩=some (.int .i64 a1_1):=(blk_cell BK173.out 1).trans rfl;have hcz32_2:w29.cell? ⟨gb173,2,none⟩=some (.int .i64 a1_2):=(blk_cell BK173.out 2).trans rfl;have hcz32_3:w29.cell? ⟨gb173,3,none⟩=some (.int .i64 a1_3):=(blk_cell BK173.out 3).trans rfl;have hcz32_4:w29.cell? ⟨gb173,4,none⟩=some (.int .i64 a1_4):=(blk_cell BK173.out 4).trans rfl;have hcz32_5:w29.cell? ⟨gb173,5,none⟩=some (.int .i64 a1_5):=(blk_cell BK173.out 5).trans rfl;have hcz32_6:w29.cell? ⟨gb173,6,none⟩=some (.slice A1_6 l1_6.length c1_6):=(blk_cell BK173.out 6).trans rfl;have hcz32_7:w29.cell? ⟨gb173,7,none⟩=some (.int .i64 a1_7):=(blk_cell BK173.out 7).trans rfl;have hfz32_0:=blk_frozen BK173.out 0;have hfz32_1:=blk_frozen BK173.out 1;have hfz32_2:=blk_frozen BK173.out 2;have hfz32_3:=blk_frozen BK173.out 3;have hfz32_4:=blk_frozen BK173.out 4;have hfz32_5:=blk_frozen BK173.out 5;have hfz32_6:=blk_frozen BK173.out 6;have hfz32_7:=blk_frozen BK173.out 7))
    go_ret
    exact ⟨by first|rfl|(simp [errW_none,errW_some]<;>rfl)|(simp [*,errW_none,errW_some]<;>rfl),by repeat (first|(with_reducible first|exact HB.out|apply below_alloc|apply pw_below_drewN|apply below_drew1|refine below_set ?_ GE172.out|refine below_set ?_ GE173.out)|exact HB.out)⟩
def gimbalref0_CopyBytes.l0:Nat→List Int→List Int→Int→Option (List Int)
  | 0,_,_,_=>none
  | k+1,x0,x3,x4=>if x4<(x0.length:Int) then (if 0≤x4 then (if x3.length<140737488355328 then (gimbalref0_CopyBytes.l0 k x0 (x3++[rd x0 x4]) (wrap64 (x4+1))) else (none)) else (none)) else (some x3)
def gimbalref0_CopyBytes.f (k:Nat) (l0:List Int):Option (List Int):=gimbalref0_CopyBytes.l0 k l0 ([]:List Int) 0
theorem gimbalref0_CopyBytes.mono_l:∀ k,(∀ y0 y1 y2,LeO (gimbalref0_CopyBytes.l0 k y0 y1 y2) (gimbalref0_CopyBytes.l0 (k+1) y0 y1 y2))
  | 0=>fun _ _ _ r h=>by simp [gimbalref0_CopyBytes.l0] at h
  | k + 1 => by
    have ih0:=gimbalref0_CopyBytes.mono_l k
    · intro y0 y1 y2
      unfold gimbalref0_CopyBytes.l0
      repeat' first
      | (with_reducible exact ih0 _ _ _)
      | (with_reducible exact LeO.refl _)
      | (with_reducible exact LeO.none _)
      | (with_reducible refine LeO.ite ?_ ?_)
      | (with_reducible refine LeO.bind ?_ (fun _=>?_))
      | exact ih0 _ _ _
      | exact LeO.none _
      | refine LeO.ite ?_ ?_
      | refine LeO.bind ?_ (fun _=>?_)
theorem gimbalref0_CopyBytes.mono:∀ a0 k,LeO (gimbalref0_CopyBytes.f k a0) (gimbalref0_CopyBytes.f (k+1) a0):=by
  intro a0 k
  have ih0:=gimbalref0_CopyBytes.mono_l k
  unfold gimbalref0_CopyBytes.f
  repeat' first
      | (with_reducible exact ih0 _ _ _)
      | (with_reducible exact LeO.refl _)
      | (with_reducible exact LeO.none _)
      | (with_reducible refine LeO.ite ?_ ?_)
      | (with_reducible refine LeO.bind ?_ (fun _=>?_))
      | exact ih0 _ _ _
      | exact LeO.none _
      | refine LeO.ite ?_ ?_
      | refine LeO.bind ?_ (fun _=>?_)
set_option maxHeartbeats 8000000 in
set_option maxRecDepth 100000 in
theorem gimbalref0_CopyBytes.calls (k:Nat) (A0:Option Addr) (c0:Nat) (l0:List Int) (r:List Int) (w:World) (hr0:Kd.C (Kd.int .u8) w A0 l0.length l0) (hc0:l0.length≤c0) (h:gimbalref0_CopyBytes.f k l0=some r) :
    Calls Try.prog 26 #[.slice A0 l0.length c0] w fun e w'=>∃ v0_:Value,e = .returned (v0_)∧Kd.R (Kd.int .u8) 5 w' w.heap.size (fun _=>True) v0_ r∧Below w.heap.size w w':=by
  have HR0:=Aside0.mk hr0
  have HC0:=Aside0.mk hc0
  clear hr0 hc0
  have HB:=Aside0.mk (Below.refl w.heap.size w)
  have H:(gimbalref0_CopyBytes.l0 k l0 ([]:List Int) 0)=some r:=h
  clear h
  have H':=Aside0.mk H
  clear H
  go_enter Try.func26,Try.ntmps26
  go_wp2
  go_loopg [3,4] k (fun kq v3 v4 w'=>∃ (x3_1:List Int) (x4_1:Int),v4 = .int .i64 x4_1∧Aside0 (gimbalref0_CopyBytes.l0 kq l0 x3_1 x4_1=some r)∧Aside0 (kq≤k)∧Aside0 (Kd.R (Kd.int .u8) 5 w' w.heap.size (fun _=>True) v3 x3_1)∧Aside0 (Below w.heap.size w w'))
  case atStart=>exact ⟨(([]:List Int)),(0),(by first|rfl|(simp;done)|(simp [*];done)),H',⟨Nat.le_refl _⟩,⟨by first|exact Kd.R_nil _ _ _ _ _|exact Kd.N_nil _ _ _ _ _|exact Kd.V_nil _ _ _ _ _|exact Kd.Q_nil _ _ _ _ _|exact Kd.S_nil _ _ _ _ _⟩,⟨by repeat (first|(with_reducible first|exact HB.out|apply below_alloc|apply pw_below_drewN|apply below_drew1)|exact HB.out)⟩⟩
  case round =>
    clear H'
    obtain ⟨x3_1,x4_1,rfl,HA,HK1,HO_3,HB⟩:=hrel
    cases gk with
    | zero=>exact absurd HA.out (by simp [gimbalref0_CopyBytes.l0])
    | succ k1 =>
      have H:=HA.out
      clear HA
      simp only [gimbalref0_CopyBytes.l0] at H
      by_cases c2:x4_1<(l0.length:Int)
      · rw [if_pos c2] at H
        have c2b0:decide (x4_1<(l0.length:Int))=true:=decide_eq_true c2
        clear c2
        by_cases c3:0≤x4_1
        · rw [if_pos c3] at H
          have c3b0:decide (0≤x4_1)=true:=decide_eq_true c3
          clear c3
          by_cases c4:x3_1.length<140737488355328
          · rw [if_pos c4] at H
            have LMc4:=Aside0.mk c4
            clear c4
            obtain ⟨y176,hy176⟩:∃ y_:List Int,y_=(x3_1++[rd l0 x4_1]):=⟨_,rfl⟩
            replace H:(gimbalref0_CopyBytes.l0 k1 l0 y176 (wrap64 (x4_1+1)))=some r:=by first|(rw [hy176];with_reducible exact H)|(have H2_:=(Option.bind_some _ _).symm.trans H;rw [hy176];with_reducible exact H2_)|(have H2_:=(Option.bind_some _ _).symm.trans H;with_reducible exact H2_)|with_reducible exact H|(rw [hy176];exact H)|exact H
            have Ny176:=Aside0.mk hy176
            clear hy176
            have H':=Aside0.mk H
            clear H
            have p175:0≤(x4_1:Int):=of_decide_eq_true (by first|(with_reducible assumption)|assumption)
            have q175:x4_1<(l0.length:Int):=of_decide_eq_true (by first|(with_reducible assumption)|assumption)
            obtain ⟨ad175,e175,hx175_0⟩:=Kd.at_int HR0.out x4_1 p175 q175
            cases e175
            replace hx175_0:=(HB.out.cell (World.block_lt_of_cell? w _ hx175_0)).trans hx175_0
            replace p175:=eq_true p175
            replace q175:=eq_true q175
            go_wp2_with (first|((with_reducible refine gate_builtin (b := .append) (xs:=#[.tmp 11,.tmp 16]) rfl ?_);at_builtin;refine Kd.R_append (Kd.int .u8) (w0:=w) w.heap.size rfl (.tmp 11) (.tmp 16) 25 5 (.int .u8 0) 1 rfl Try.underlying25 info5 rfl (by decide) (by omega) u3 x3_1 (rd l0 x4_1) [.int .u8 (rd l0 x4_1)] (fun _=>True) (fun _=>False) rfl rfl ?aP (fun _ hk=>hk.elim) ?aF ?aO ?aB ?aS ?aL ?_;(case aP=>exact rfl);(case aB=>exact (by repeat (first|(with_reducible first|exact HB.out|apply below_alloc|apply pw_below_drewN|apply below_drew1)|exact HB.out)));(case aF=>exact (fun _ _=>trivial));(case aO=>exact (by (with_reducible repeat (first|apply Kd.R_alloc|apply Kd.R_drewN|apply Kd.R_drew));exact HO_3.out));(case aS=>exact (below_size (by repeat (first|(with_reducible first|exact HB.out|apply below_alloc|apply pw_below_drewN|apply below_drew1)|exact HB.out))));(case aL=>have:=LMc4.out;omega);intro v177 w5 ho hb hg hat;rw [← Ny176.out] at ho;have n0_:=Aside0.mk (hb);have n1_:=Aside0.mk (ho);clear HB;clear HO_3;have HB:=n0_;have HO178:=n1_;clear n0_ n1_;clear ho hb hg hat))
            go_roundg k1
            case measure=>have:=HK1.out;omega
            case rel=>exact ⟨(y176),(wrap64 (x4_1+1)),(by first|rfl|(simp;done)|(simp [*];done)),H',⟨by have:=HK1.out;omega⟩,⟨by (with_reducible repeat (first|apply Kd.R_alloc|apply Kd.R_drewN|apply Kd.R_drew));exact HO178.out⟩,⟨by repeat (first|(with_reducible first|exact HB.out|apply below_alloc|apply pw_below_drewN|apply below_drew1)|exact HB.out)⟩⟩
          · rw [if_neg c4] at H
            exact absurd H (by simp)
        · rw [if_neg c3] at H
          exact absurd H (by simp)
      · rw [if_neg c2] at H
        have c2b0:decide (x4_1<(l0.length:Int))=false:=decide_eq_false c2
        clear c2
        obtain rfl:=Option.some.inj H
        go_wp2
        go_ret
        exact ⟨_,by first|rfl|(simp [errW_none,errW_some]<;>rfl)|(simp [*,errW_none,errW_some]<;>rfl),by (with_reducible repeat (first|apply Kd.R_alloc|apply Kd.R_drewN|apply Kd.R_drew));exact HO_3.out,by repeat (first|(with_reducible first|exact HB.out|apply below_alloc|apply pw_below_drewN|apply below_drew1)|exact HB.out)⟩
def gimbalref0_CopyCommand.f (k:Nat) (a0_0:Int) (a0_1:Int) (a0_2:Int) (a0_3:Int) (a0_4:Int) (a0_5:Int) (l0_6:List Int) (a0_7:Int):Option (Int × Int × Int × Int × Int × Int × List Int × Int):=(gimbalref0_CopyBytes.f k l0_6).bind fun t182=>(some (a0_0,a0_1,a0_2,a0_3,a0_4,a0_5,t182,a0_7))
theorem gimbalref0_CopyCommand.mono:∀ a0 a1 a2 a3 a4 a5 a6 a7 k,LeO (gimbalref0_CopyCommand.f k a0 a1 a2 a3 a4 a5 a6 a7) (gimbalref0_CopyCommand.f (k+1) a0 a1 a2 a3 a4 a5 a6 a7):=by
  intro a0 a1 a2 a3 a4 a5 a6 a7 k
  unfold gimbalref0_CopyCommand.f
  repeat' first
      | (with_reducible exact gimbalref0_CopyBytes.mono _ _)
      | (with_reducible exact LeO.refl _)
      | (with_reducible exact LeO.none _)
      | (with_reducible refine LeO.ite ?_ ?_)
      | (with_reducible refine LeO.bind ?_ (fun _=>?_))
      | exact gimbalref0_CopyBytes.mono _ _
      | exact LeO.none _
      | refine LeO.ite ?_ ?_
      | refine LeO.bind ?_ (fun _=>?_)
set_option maxHeartbeats 8000000 in
set_option maxRecDepth 100000 in
theorem gimbalref0_CopyCommand.calls (k:Nat) (a0_0:Int) (a0_1:Int) (a0_2:Int) (a0_3:Int) (a0_4:Int) (a0_5:Int) (A0_6:Option Addr) (c0_6:Nat) (l0_6:List Int) (a0_7:Int) (r1:Int) (r2:Int) (r3:Int) (r4:Int) (r5:Int) (r6:Int) (r7:List Int) (r8:Int) (w:World) (hr0_6:Kd.C (Kd.int .u8) w A0_6 l0_6.length l0_6) (hc0_6:l0_6.length≤c0_6) (h:gimbalref0_CopyCommand.f k a0_0 a0_1 a0_2 a0_3 a0_4 a0_5 l0_6 a0_7=some (r1,r2,r3,r4,r5,r6,r7,r8)) :
    Calls Try.prog 18 #[.agg #[.int .i64 a0_0,.int .i64 a0_1,.int .i64 a0_2,.int .i64 a0_3,.int .i64 a0_4,.int .i64 a0_5,.slice A0_6 l0_6.length c0_6,.int .i64 a0_7]] w fun e w'=>∃ v6_:Value,e = .returned (.agg #[.int .i64 r1,.int .i64 r2,.int .i64 r3,.int .i64 r4,.int .i64 r5,.int .i64 r6,v6_,.int .i64 r8])∧Kd.R (Kd.int .u8) 5 w' w.heap.size (fun _=>True) v6_ r7∧Below w.heap.size w w':=by
  have hu27:=Try.underlying27
  have HR0_6:=Aside0.mk hr0_6
  have HC0_6:=Aside0.mk hc0_6
  clear hr0_6 hc0_6
  have HB:=Aside0.mk (Below.refl w.heap.size w)
  have H:((gimbalref0_CopyBytes.f k l0_6).bind fun t182=>(some (a0_0,a0_1,a0_2,a0_3,a0_4,a0_5,t182,a0_7)))=some (r1,r2,r3,r4,r5,r6,r7,r8):=h
  clear h
  replace H:=Option.bind_eq_some_iff.mp H
  obtain ⟨t182,A20,H⟩:=H
  replace H:(some (a0_0,a0_1,a0_2,a0_3,a0_4,a0_5,t182,a0_7))=some (r1,r2,r3,r4,r5,r6,r7,r8):=H
  have A2:=Aside0.mk A20
  clear A20
  simp only [Option.some.injEq,Prod.mk.injEq] at H
  obtain ⟨rfl,rfl,rfl,rfl,rfl,rfl,rfl,rfl⟩:=H
  go_enter Try.func18,Try.ntmps18
  go_wp2_with (first|((with_reducible refine gate_dst (N:=1) rfl ?_);refine box_event ?hg (N:=1) ?hd (cs:=#[.int .i64 a0_0,.int .i64 a0_1,.int .i64 a0_2,.int .i64 a0_3,.int .i64 a0_4,.int .i64 a0_5,.slice A0_6 l0_6.length c0_6,.int .i64 a0_7]) (t:=27) ?hr ?_;(case hd=>rfl);(case hg=>rfl);(case hr=>first|(go_simp;done)|(go_simp;rfl));intro gb179 hg w3 hbox hb;have n0_:=Aside0.mk (below_step (by repeat (first|(with_reducible first|exact HB.out|apply below_alloc|apply pw_below_drewN|apply below_drew1)|exact HB.out)) hb);have n1_:=Aside0.mk (hbox);have n2_:=Aside0.mk ((by rw [hg];exact (below_size (by repeat (first|(with_reducible first|exact HB.out|apply below_alloc|apply pw_below_drewN|apply below_drew1)|exact HB.out))):w.heap.size≤gb179));have n3_:=Aside0.mk ((by rw [hg];exact (below_size (by repeat (first|(with_reducible first|exact HB.out|apply below_alloc|apply pw_below_drewN|apply below_drew1)|exact HB.out))):w.heap.size≤gb179));clear HB;have HB:=n0_;have BK179:=n1_;have GW179:=n2_;have GE179:=n3_;clear n0_ n1_ n2_ n3_;clear hb hbox hg)|((with_reducible refine gate_dst (N:=2) rfl ?_);refine box_event ?hg (N:=2) ?hd (cs:=#[.int .i64 0,.int .i64 0,.int .i64 0,.int .i64 0,.int .i64 0,.int .i64 0,.slice none 0 0,.int .i64 0]) (t:=27) ?hr ?_;(case hd=>rfl);(case hg=>rfl);(case hr=>first|(go_simp;done)|(go_simp;rfl));intro gb180 hg w4 hbox hb;have n0_:=Aside0.mk (blk_below (g:=gb179) (o := .cells #[.int .i64 a0_0,.int .i64 a0_1,.int .i64 a0_2,.int .i64 a0_3,.int .i64 a0_4,.int .i64 a0_5,.slice A0_6 l0_6.length c0_6,.int .i64 a0_7] 27 (0,0)) (by (with_reducible repeat (first|refine blk_drewN ?_ _|refine blk_drew ?_|refine blk_alloc ?_ _));exact BK179.out) hb);have n1_:=Aside0.mk (below_step (by repeat (first|(with_reducible first|exact HB.out|apply below_alloc|apply pw_below_drewN|apply below_drew1|refine below_set ?_ GE179.out)|exact HB.out)) hb);have n2_:=Aside0.mk (hbox);have n3_:=Aside0.mk ((by rw [hg];exact (below_size (by repeat (first|(with_reducible first|exact HB.out|apply below_alloc|apply pw_below_drewN|apply below_drew1|refine below_set ?_ GE179.out)|exact HB.out))):w.heap.size≤gb180));have n4_:=Aside0.mk ((by rw [hg];exact (below_size (by repeat (first|(with_reducible first|exact HB.out|apply below_alloc|apply pw_below_drewN|apply below_drew1|refine below_set ?_ GE179.out)|exact HB.out))):w.heap.size≤gb180));have n5_:=Aside0.mk ((by rw [hg];exact Nat.ne_of_lt (blk_lt (g:=gb179) (o := .cells #[.int .i64 a0_0,.int .i64 a0_1,.int .i64 a0_2,.int .i64 a0_3,.int .i64 a0_4,.int .i64 a0_5,.slice A0_6 l0_6.length c0_6,.int .i64 a0_7] 27 (0,0)) (by (with_reducible repeat (first|refine blk_drewN ?_ _|refine blk_drew ?_|refine blk_alloc ?_ _));exact BK179.out)):gb179≠gb180));have n6_:=Aside0.mk ((by rw [hg];exact Nat.ne_of_gt (blk_lt (g:=gb179) (o := .cells #[.int .i64 a0_0,.int .i64 a0_1,.int .i64 a0_2,.int .i64 a0_3,.int .i64 a0_4,.int .i64 a0_5,.slice A0_6 l0_6.length c0_6,.int .i64 a0_7] 27 (0,0)) (by (with_reducible repeat (first|refine blk_drewN ?_ _|refine blk_drew ?_|refine blk_alloc ?_ _));exact BK179.out)):gb180≠gb179));clear BK179;clear HB;have BK179:=n0_;have HB:=n1_;have BK180:=n2_;have GW180:=n3_;have GE180:=n4_;have NB179_180:=n5_;have NB180_179:=n6_;clear n0_ n1_ n2_ n3_ n4_ n5_ n6_;clear hb hbox hg;have hnb5:=NB179_180.out;have hnc5:=NB180_179.out;have hcz6_0:w4.cell? ⟨gb179,0,none⟩=some (.int .i64 a0_0):=(blk_cell BK179.out 0).trans rfl;have hcz6_1:w4.cell? ⟨gb179,1,none⟩=some (.int .i64 a0_1):=(blk_cell BK179.out 1).trans rfl;have hcz6_2:w4.cell? ⟨gb179,2,none⟩=some (.int .i64 a0_2):=(blk_cell BK179.out 2).trans rfl;have hcz6_3:w4.cell? ⟨gb179,3,none⟩=some (.int .i64 a0_3):=(blk_cell BK179.out 3).trans rfl;have hcz6_4:w4.cell? ⟨gb179,4,none⟩=some (.int .i64 a0_4):=(blk_cell BK179.out 4).trans rfl;have hcz6_5:w4.cell? ⟨gb179,5,none⟩=some (.int .i64 a0_5):=(blk_cell BK179.out 5).trans rfl;have hcz6_6:w4.cell? ⟨gb179,6,none⟩=some (.slice A0_6 l0_6.length c0_6):=(blk_cell BK179.out 6).trans rfl;have hcz6_7:w4.cell? ⟨gb179,7,none⟩=some (.int .i64 a0_7):=(blk_cell BK179.out 7).trans rfl;have hfz6_0:=blk_frozen BK179.out 0;have hfz6_1:=blk_frozen BK179.out 1;have hfz6_2:=blk_frozen BK179.out 2;have hfz6_3:=blk_frozen BK179.out 3;have hfz6_4:=blk_frozen BK179.out 4;have hfz6_5:=blk_frozen BK179.out 5;have hfz6_6:=blk_frozen BK179.out 6;have hfz6_7:=blk_frozen BK179.out 7)|((with_reducible refine gate_dst (N:=3) rfl ?_);refine box_event ?hg (N:=3) ?hd (cs:=#[.int .i64 0,.int .i64 0,.int .i64 0,.int .i64 0,.int .i64 0,.int .i64 0,.slice none 0 0,.int .i64 0]) (t:=27) ?hr ?_;(case hd=>rfl);(case hg=>rfl);(case hr=>first|(go_simp;done)|(go_simp;rfl));intro gb181 hg w7 hbox hb;have n0_:=Aside0.mk (blk_below (g:=gb179) (o := .cells #[.int .i64 a0_0,.int .i64 a0_1,.int .i64 a0_2,.int .i64 a0_3,.int .i64 a0_4,.int .i64 a0_5,.slice A0_6 l0_6.length c0_6,.int .i64 a0_7] 27 (0,0)) (by (with_reducible repeat (first|refine blk_drewN ?_ _|refine blk_drew ?_|refine blk_alloc ?_ _));exact BK179.out) hb);have n1_:=Aside0.mk (blk_below (g:=gb180) (o := .cells #[.int .i64 0,.int .i64 0,.int .i64 0,.int .i64 0,.int .i64 0,.int .i64 0,.slice none 0 0,.int .i64 0] 27 (0,0)) (by (with_reducible repeat (first|refine blk_drewN ?_ _|refine blk_drew ?_|refine blk_alloc ?_ _));exact BK180.out) hb);have n2_:=Aside0.mk (below_step (by repeat (first|(with_reducible first|exact HB.out|apply below_alloc|apply pw_below_drewN|apply below_drew1|refine below_set ?_ GE179.out|refine below_set ?_ GE180.out)|exact HB.out)) hb);have n3_:=Aside0.mk (hbox);have n4_:=Aside0.mk ((by rw [hg];exact (below_size (by repeat (first|(with_reducible first|exact HB.out|apply below_alloc|apply pw_below_drewN|apply below_drew1|refine below_set ?_ GE179.out|refine below_set ?_ GE180.out)|exact HB.out))):w.heap.size≤gb181));have n5_:=Aside0.mk ((by rw [hg];exact (below_size (by repeat (first|(with_reducible first|exact HB.out|apply below_alloc|apply pw_below_drewN|apply below_drew1|refine below_set ?_ GE179.out|refine below_set ?_ GE180.out)|exact HB.out))):w.heap.size≤gb181));have n6_:=Aside0.mk ((by rw [hg];exact Nat.ne_of_lt (blk_lt (g:=gb179) (o := .cells #[.int .i64 a0_0,.int .i64 a0_1,.int .i64 a0_2,.int .i64 a0_3,.int .i64 a0_4,.int .i64 a0_5,.slice A0_6 l0_6.length c0_6,.int .i64 a0_7] 27 (0,0)) (by (with_reducible repeat (first|refine blk_drewN ?_ _|refine blk_drew ?_|refine blk_alloc ?_ _));exact BK179.out)):gb179≠gb181));have n7_:=Aside0.mk ((by rw [hg];exact Nat.ne_of_gt (blk_lt (g:=gb179) (o := .cells #[.int .i64 a0_0,.int .i64 a0_1,.int .i64 a0_2,.int .i64 a0_3,.int .i64 a0_4,.int .i64 a0_5,.slice A0_6 l0_6.length c0_6,.int .i64 a0_7] 27 (0,0)) (by (with_reducible repeat (first|refine blk_drewN ?_ _|refine blk_drew ?_|refine blk_alloc ?_ _));exact BK179.out)):gb181≠gb179));have n8_:=Aside0.mk ((by rw [hg];exact Nat.ne_of_lt (blk_lt (g:=gb180) (o := .cells #[.int .i64 0,.int .i64 0,.int .i64 0,.int .i64 0,.int .i64 0,.int .i64 0,.slice none 0 0,.int .i64 0] 27 (0,0)) (by (with_reducible repeat (first|refine blk_drewN ?_ _|refine blk_drew ?_|refine blk_alloc ?_ _));exact BK180.out)):gb180≠gb181));have n9_:=Aside0.mk ((by rw [hg];exact Nat.ne_of_gt (blk_lt (g:=gb180) (o := .cells #[.int .i64 0,.int .i64 0,.int .i64 0,.int .i64 0,.int .i64 0,.int .i64 0,.slice none 0 0,.int .i64 0] 27 (0,0)) (by (with_reducible repeat (first|refine blk_drewN ?_ _|refine blk_drew ?_|refine blk_alloc ?_ _));exact BK180.out)):gb181≠gb180));clear BK179;clear BK180;clear HB;have BK179:=n0_;have BK180:=n1_;have HB:=n2_;have BK181:=n3_;have GW181:=n4_;have GE181:=n5_;have NB179_181:=n6_;have NB181_179:=n7_;have NB180_181:=n8_;have NB181_180:=n9_;clear n0_ n1_ n2_ n3_ n4_ n5_ n6_ n7_ n8_ n9_;clear hb hbox hg;have hnb8:=NB181_179.out;have hnc8:=NB179_181.out;have hnb9:=NB181_180.out;have hnc9:=NB180_181.out;have hcz10_0:w7.cell? ⟨gb181,0,none⟩=some (.int .i64 0):=(blk_cell BK181.out 0).trans rfl;have hcz10_1:w7.cell? ⟨gb181,1,none⟩=some (.int .i64 0):=(blk_cell BK181.out 1).trans rfl;have hcz10_2:w7.cell? ⟨gb181,2,none⟩=some (.int .i64 0):=(blk_cell BK181.out 2).trans rfl;have hcz10_3:w7.cell? ⟨gb181,3,none⟩=some (.int .i64 0):=(blk_cell BK181.out 3).trans rfl;have hcz10_4:w7.cell? ⟨gb181,4,none⟩=some (.int .i64 0):=(blk_cell BK181.out 4).trans rfl;have hcz10_5:w7.cell? ⟨gb181,5,none⟩=some (.int .i64 0):=(blk_cell BK181.out 5).trans rfl;have hcz10_6:w7.cell? ⟨gb181,6,none⟩=some (.slice none 0 0):=(blk_cell BK181.out 6).trans rfl;have hcz10_7:w7.cell? ⟨gb181,7,none⟩=some (.int .i64 0):=(blk_cell BK181.out 7).trans rfl;have hfz10_0:=blk_frozen BK181.out 0;have hfz10_1:=blk_frozen BK181.out 1;have hfz10_2:=blk_frozen BK181.out 2;have hfz10_3:=blk_frozen BK181.out 3;have hfz10_4:=blk_frozen BK181.out 4;have hfz10_5:=blk_frozen BK181.out 5;have hfz10_6:=blk_frozen BK181.out 6;have hfz10_7:=blk_frozen BK181.out 7;have hcz11_0:w7.cell? ⟨gb179,0,none⟩=some (.int .i64 a0_0):=(blk_cell BK179.out 0).trans rfl;have hcz11_1:w7.cell? ⟨gb179,1,none⟩=some (.int .i64 a0_1):=(blk_cell BK179.out 1).trans rfl;have hcz11_2:w7.cell? ⟨gb179,2,none⟩=some (.int .i64 a0_2):=(blk_cell BK179.out 2).trans rfl;have hcz11_3:w7.cell? ⟨gb179,3,none⟩=some (.int .i64 a0_3):=(blk_cell BK179.out 3).trans rfl;have hcz11_4:w7.cell? ⟨gb179,4,none⟩=some (.int .i64 a0_4):=(blk_cell BK179.out 4).trans rfl;have hcz11_5:w7.cell? ⟨gb179,5,none⟩=some (.int .i64 a0_5):=(blk_cell BK179.out 5).trans rfl;have hcz11_6:w7.cell? ⟨gb179,6,none⟩=some (.slice A0_6 l0_6.length c0_6):=(blk_cell BK179.out 6).trans rfl;have hcz11_7:w7.cell? ⟨gb179,7,none⟩=some (.int .i64 a0_7):=(blk_cell BK179.out 7).trans rfl;have hfz11_0:=blk_frozen BK179.out 0;have hfz11_1:=blk_frozen BK179.out 1;have hfz11_2:=blk_frozen BK179.out 2;have hfz11_3:=blk_frozen BK179.out 3;have hfz11_4:=blk_frozen BK179.out 4;have hfz11_5:=blk_frozen BK179.out 5;have hfz11_6:=blk_frozen BK179.out 6;have hfz11_7:=blk_frozen BK179.out 7)|((with_reducible refine gate_callee (f:=26) rfl ?_);refine goesL_ (some 7) rfl rfl Try.func26 (by kernel_rfl) rfl #[.slice A0_6 l0_6.length c0_6] rfl (by (try simp only [List.map_toArray,List.map_cons,List.map_nil]);first|done|rfl|(simp only [List.length_drop,List.length_take];rfl)) ?_;(with_reducible refine (gimbalref0_CopyBytes.calls k _ _ l0_6 t182 _ ?side1 ?side2 A2.out).mono ?_);(case side1=>exact Kd.C_below HR0_6.out (by repeat (first|(with_reducible first|exact HB.out|apply below_alloc|apply pw_below_drewN|apply below_drew1|refine below_set ?_ GE179.out|refine below_set ?_ GE180.out|refine below_set ?_ GE181.out)|exact HB.out)));(case side2=>exact HC0_6.out);rintro e w12 ⟨v183,rfl,ho0,hb⟩;refine ⟨_,rfl,?_⟩;have n0_:=Aside0.mk (Kd.R_lower ho0 (below_size (by repeat (first|(with_reducible first|exact HB.out|apply below_alloc|apply pw_below_drewN|apply below_drew1|refine below_set ?_ GE179.out|refine below_set ?_ GE180.out|refine below_set ?_ GE181.out)|exact HB.out))));have n1_:=Aside0.mk (blk_below (g:=gb179) (o := .cells #[.int .i64 a0_0,.int .i64 a0_1,.int .i64 a0_2,.int .i64 a0_3,.int .i64 a0_4,.int .i64 a0_5,.slice A0_6 l0_6.length c0_6,.int .i64 a0_7] 27 (0,0)) (by (with_reducible repeat (first|refine blk_drewN ?_ _|refine blk_drew ?_|refine blk_alloc ?_ _));refine blk_far ?_ NB179_181.out _;(with_reducible repeat (first|refine blk_drewN ?_ _|refine blk_drew ?_|refine blk_alloc ?_ _));refine blk_far ?_ NB179_181.out _;(with_reducible repeat (first|refine blk_drewN ?_ _|refine blk_drew ?_|refine blk_alloc ?_ _));refine blk_far ?_ NB179_181.out _;(with_reducible repeat (first|refine blk_drewN ?_ _|refine blk_drew ?_|refine blk_alloc ?_ _));refine blk_far ?_ NB179_181.out _;(with_reducible repeat (first|refine blk_drewN ?_ _|refine blk_drew ?_|refine blk_alloc ?_ _));refine blk_far ?_ NB179_181.out _;(with_reducible repeat (first|refine blk_drewN ?_ _|refine blk_drew ?_|refine blk_alloc ?_ _));refine blk_far ?_ NB179_181.out _;(with_reducible repeat (first|refine blk_drewN ?_ _|refine blk_drew ?_|refine blk_alloc ?_ _));refine blk_far ?_ NB179_181.out _;(with_reducible repeat (first|refine blk_drewN ?_ _|refine blk_drew ?_|refine blk_alloc ?_ _));refine blk_far ?_ NB179_181.out _;(with_reducible repeat (first|refine blk_drewN ?_ _|refine blk_drew ?_|refine blk_alloc ?_ _));exact BK179.out) hb);have n2_:=Aside0.mk (blk_below (g:=gb180) (o := .cells #[.int .i64 0,.int .i64 0,.int .i64 0,.int .i64 0,.int .i64 0,.int .i64 0,.slice none 0 0,.int .i64 0] 27 (0,0)) (by (with_reducible repeat (first|refine blk_drewN ?_ _|refine blk_drew ?_|refine blk_alloc ?_ _));refine blk_far ?_ NB180_181.out _;(with_reducible repeat (first|refine blk_drewN ?_ _|refine blk_drew ?_|refine blk_alloc ?_ _));refine blk_far ?_ NB180_181.out _;(with_reducible repeat (first|refine blk_drewN ?_ _|refine blk_drew ?_|refine blk_alloc ?_ _));refine blk_far ?_ NB180_181.out _;(with_reducible repeat (first|refine blk_drewN ?_ _|refine blk_drew ?_|refine blk_alloc ?_ _));refine blk_far ?_ NB180_181.out _;(with_reducible repeat (first|refine blk_drewN ?_ _|refine blk_drew ?_|refine blk_alloc ?_ _));refine blk_far ?_ NB180_181.out _;(with_reducible repeat (first|refine blk_drewN ?_ _|refine blk_drew ?_|refine blk_alloc ?_ _));refine blk_far ?_ NB180_181.out _;(with_reducible repeat (first|refine blk_drewN ?_ _|refine blk_drew ?_|refine blk_alloc ?_ _));refine blk_far ?_ NB180_181.out _;(with_reducible repeat (first|refine blk_drewN ?_ _|refine blk_drew ?_|refine blk_alloc ?_ _));refine blk_far ?_ NB180_181.out _;(with_reducible repeat (first|refine blk_drewN ?_ _|refine blk_drew ?_|refine blk_alloc ?_ _));exact BK180.out) hb);have n3_:=Aside0.mk (blk_below (g:=gb181) (o := .cells #[.int .i64 a0_0,.int .i64 a0_1,.int .i64 a0_2,.int .i64 a0_3,.int .i64 a0_4,.int .i64 a0_5,.slice A0_6 l0_6.length c0_6,.int .i64 a0_7] 27 (0,0)) (by (with_reducible repeat (first|refine blk_drewN ?_ _|refine blk_drew ?_|refine blk_alloc ?_ _));refine blk_put (cs:=#[.int .i64 a0_0,.int .i64 a0_1,.int .i64 a0_2,.int .i64 a0_3,.int .i64 a0_4,.int .i64 a0_5,.slice A0_6 l0_6.length c0_6,.int .i64 0]) ?_ 7 _ rfl;(with_reducible repeat (first|refine blk_drewN ?_ _|refine blk_drew ?_|refine blk_alloc ?_ _));refine blk_put (cs:=#[.int .i64 a0_0,.int .i64 a0_1,.int .i64 a0_2,.int .i64 a0_3,.int .i64 a0_4,.int .i64 a0_5,.slice none 0 0,.int .i64 0]) ?_ 6 _ rfl;(with_reducible repeat (first|refine blk_drewN ?_ _|refine blk_drew ?_|refine blk_alloc ?_ _));refine blk_put (cs:=#[.int .i64 a0_0,.int .i64 a0_1,.int .i64 a0_2,.int .i64 a0_3,.int .i64 a0_4,.int .i64 0,.slice none 0 0,.int .i64 0]) ?_ 5 _ rfl;(with_reducible repeat (first|refine blk_drewN ?_ _|refine blk_drew ?_|refine blk_alloc ?_ _));refine blk_put (cs:=#[.int .i64 a0_0,.int .i64 a0_1,.int .i64 a0_2,.int .i64 a0_3,.int .i64 0,.int .i64 0,.slice none 0 0,.int .i64 0]) ?_ 4 _ rfl;(with_reducible repeat (first|refine blk_drewN ?_ _|refine blk_drew ?_|refine blk_alloc ?_ _));refine blk_put (cs:=#[.int .i64 a0_0,.int .i64 a0_1,.int .i64 a0_2,.int .i64 0,.int .i64 0,.int .i64 0,.slice none 0 0,.int .i64 0]) ?_ 3 _ rfl;(with_reducible repeat (first|refine blk_drewN ?_ _|refine blk_drew ?_|refine blk_alloc ?_ _));refine blk_put (cs:=#[.int .i64 a0_0,.int .i64 a0_1,.int .i64 0,.int .i64 0,.int .i64 0,.int .i64 0,.slice none 0 0,.int .i64 0]) ?_ 2 _ rfl;(with_reducible repeat (first|refine blk_drewN ?_ _|refine blk_drew ?_|refine blk_alloc ?_ _));refine blk_put (cs:=#[.int .i64 a0_0,.int .i64 0,.int .i64 0,.int .i64 0,.int .i64 0,.int .i64 0,.slice none 0 0,.int .i64 0]) ?_ 1 _ rfl;(with_reducible repeat (first|refine blk_drewN ?_ _|refine blk_drew ?_|refine blk_alloc ?_ _));refine blk_put (cs:=#[.int .i64 0,.int .i64 0,.int .i64 0,.int .i64 0,.int .i64 0,.int .i64 0,.slice none 0 0,.int .i64 0]) ?_ 0 _ rfl;(with_reducible repeat (first|refine blk_drewN ?_ _|refine blk_drew ?_|refine blk_alloc ?_ _));exact BK181.out) hb);have n4_:=Aside0.mk (below_step (by repeat (first|(with_reducible first|exact HB.out|apply below_alloc|apply pw_below_drewN|apply below_drew1|refine below_set ?_ GE179.out|refine below_set ?_ GE180.out|refine below_set ?_ GE181.out)|exact HB.out)) hb);clear BK179;clear BK180;clear BK181;clear HB;have HO184:=n0_;have BK179:=n1_;have BK180:=n2_;have BK181:=n3_;have HB:=n4_;clear n0_ n1_ n2_ n3_ n4_;(try clear hb);(try clear hb2);(try clear hk);(try clear hi);(try clear ho0);obtain ⟨Ao13,co13,eo13⟩:=Kd.R_slice HO184.out;subst eo13;have hcz14_0:w12.cell? ⟨gb181,0,none⟩=some (.int .i64 a0_0):=(blk_cell BK181.out 0).trans rfl;have hcz14_1:w12.cell? ⟨gb181,1,none⟩=some (.int .i64 a0_1):=(blk_cell BK181.out 1).trans rfl;have hcz14_2:w12.cell? ⟨gb181,2,none⟩=some (.int .i64 a0_2):=(blk_cell BK181.out 2).trans rfl;have hcz14_3:w12.cell? ⟨gb181,3,none⟩=some (.int .i64 a0_3):=(blk_cell BK181.out 3).trans rfl;have hcz14_4:w12.cell? ⟨gb181,4,none⟩=some (.int .i64 a0_4):=(blk_cell BK181.out 4).trans rfl;have hcz14_5:w12.cell? ⟨gb181,5,none⟩=some (.int .i64 a0_5):=(blk_cell BK181.out 5).trans rfl;have hcz14_6:w12.cell? ⟨gb181,6,none⟩=some (.slice A0_6 l0_6.length c0_6):=(blk_cell BK181.out 6).trans rfl;have hcz14_7:w12.cell? ⟨gb181,7,none⟩=some (.int .i64 a0_7):=(blk_cell BK181.out 7).trans rfl;have hfz14_0:=blk_frozen BK181.out 0;have hfz14_1:=blk_frozen BK181.out 1;have hfz14_2:=blk_frozen BK181.out 2;have hfz14_3:=blk_frozen BK181.out 3;have hfz14_4:=blk_frozen BK181.out 4;have hfz14_5:=blk_frozen BK181.out 5;have hfz14_6:=blk_frozen BK181.out 6;have hfz14_7:=blk_frozen BK181.out 7;have hcz15_0:w12.cell? ⟨gb180,0,none⟩=some (.int .i64 0):=(blk_cell BK180.out 0).trans rfl;have hcz15_1:w12.cell? ⟨gb180,1,none⟩=some (.int .i64 0):=(blk_cell BK180.out 1).trans rfl;have hcz15_2:w12.cell? ⟨gb180,2,none⟩=some (.int .i64 0):=(blk_cell BK180.out 2).trans rfl;have hcz15_3:w12.cell? ⟨gb180,3,none⟩=some (.int .i64 0):=(blk_cell BK180.out 3).trans rfl;have hcz15_4:w12.cell? ⟨gb180,4,none⟩=some (.int .i64 0):=(blk_cell BK180.out 4).trans rfl;have hcz15_5:w12.cell? ⟨gb180,5,none⟩=some (.int .i64 0):=(blk_cell BK180.out 5).trans rfl;have hcz15_6:w12.cell? ⟨gb180,6,none⟩=some (.slice none 0 0):=(blk_cell BK180.out 6).trans rfl;have hcz15_7:w12.cell? ⟨gb180,7,none⟩=some (.int .i64 0):=(blk_cell BK180.out 7).trans rfl;have hfz15_0:=blk_frozen BK180.out 0;have hfz15_1:=blk_frozen BK180.out 1;have hfz15_2:=blk_frozen BK180.out 2;have hfz15_3:=blk_frozen BK180.out 3;have hfz15_4:=blk_frozen BK180.out 4;have hfz15_5:=blk_frozen BK180.out 5;have hfz15_6:=blk_frozen BK180.out 6;have hfz15_7:=blk_frozen BK180.out 7))
  refine bodyPost_ret (results_cell_row rfl _ _ gb180 27 #[.int .i64 a0_0,.int .i64 a0_1,.int .i64 a0_2,.int .i64 a0_3,.int .i64 a0_4,.int .i64 a0_5,.slice Ao13 t182.length co13,.int .i64 a0_7] (0,0) _ rfl (by (with_reducible repeat (first|refine blk_drewN ?_ _|refine blk_drew ?_|refine blk_alloc ?_ _));refine blk_put (cs:=#[.int .i64 a0_0,.int .i64 a0_1,.int .i64 a0_2,.int .i64 a0_3,.int .i64 a0_4,.int .i64 a0_5,.slice Ao13 t182.length co13,.int .i64 0]) ?_ 7 _ rfl;(with_reducible repeat (first|refine blk_drewN ?_ _|refine blk_drew ?_|refine blk_alloc ?_ _));refine blk_put (cs:=#[.int .i64 a0_0,.int .i64 a0_1,.int .i64 a0_2,.int .i64 a0_3,.int .i64 a0_4,.int .i64 a0_5,.slice none 0 0,.int .i64 0]) ?_ 6 _ rfl;(with_reducible repeat (first|refine blk_drewN ?_ _|refine blk_drew ?_|refine blk_alloc ?_ _));refine blk_put (cs:=#[.int .i64 a0_0,.int .i64 a0_1,.int .i64 a0_2,.int .i64 a0_3,.int .i64 a0_4,.int .i64 0,.slice none 0 0,.int .i64 0]) ?_ 5 _ rfl;(with_reducible repeat (first|refine blk_drewN ?_ _|refine blk_drew ?_|refine blk_alloc ?_ _));refine blk_put (cs:=#[.int .i64 a0_0,.int .i64 a0_1,.int .i64 a0_2,.int .i64 a0_3,.int .i64 0,.int .i64 0,.slice none 0 0,.int .i64 0]) ?_ 4 _ rfl;(with_reducible repeat (first|refine blk_drewN ?_ _|refine blk_drew ?_|refine blk_alloc ?_ _));refine blk_put (cs:=#[.int .i64 a0_0,.int .i64 a0_1,.int .i64 a0_2,.int .i64 0,.int .i64 0,.int .i64 0,.slice none 0 0,.int .i64 0]) ?_ 3 _ rfl;(with_reducible repeat (first|refine blk_drewN ?_ _|refine blk_drew ?_|refine blk_alloc ?_ _));refine blk_put (cs:=#[.int .i64 a0_0,.int .i64 a0_1,.int .i64 0,.int .i64 0,.int .i64 0,.int .i64 0,.slice none 0 0,.int .i64 0]) ?_ 2 _ rfl;(with_reducible repeat (first|refine blk_drewN ?_ _|refine blk_drew ?_|refine blk_alloc ?_ _));refine blk_put (cs:=#[.int .i64 a0_0,.int .i64 0,.int .i64 0,.int .i64 0,.int .i64 0,.int .i64 0,.slice none 0 0,.int .i64 0]) ?_ 1 _ rfl;(with_reducible repeat (first|refine blk_drewN ?_ _|refine blk_drew ?_|refine blk_alloc ?_ _));refine blk_put (cs:=#[.int .i64 0,.int .i64 0,.int .i64 0,.int .i64 0,.int .i64 0,.int .i64 0,.slice none 0 0,.int .i64 0]) ?_ 0 _ rfl;(with_reducible repeat (first|refine blk_drewN ?_ _|refine blk_drew ?_|refine blk_alloc ?_ _));refine blk_far ?_ NB180_181.out _;(with_reducible repeat (first|refine blk_drewN ?_ _|refine blk_drew ?_|refine blk_alloc ?_ _));exact BK180.out) Try.underlying27 rfl (by kernel_rfl)) rfl ?_
  exact ⟨_,by first|rfl|(simp [errW_none,errW_some]<;>rfl)|(simp [*,errW_none,errW_some]<;>rfl),by (with_reducible repeat (first|apply Kd.R_alloc|apply Kd.R_drewN|apply Kd.R_drew));exact Kd.R_mono (Kd.R_far (p:=⟨gb180,7,none⟩) (Kd.R_far (p:=⟨gb180,6,none⟩) (Kd.R_far (p:=⟨gb180,5,none⟩) (Kd.R_far (p:=⟨gb180,4,none⟩) (Kd.R_far (p:=⟨gb180,3,none⟩) (Kd.R_far (p:=⟨gb180,2,none⟩) (Kd.R_far (p:=⟨gb180,1,none⟩) (Kd.R_far (p:=⟨gb180,0,none⟩) (Kd.R_far (p:=⟨gb181,6,none⟩) (Kd.R_types (Kd.R_types HO184.out BK181.out (by decide)) BK180.out (by decide)) (fun _ hk=>hk.1.2) (.slice Ao13 t182.length co13)) (fun _ hk=>hk.2) (.int .i64 a0_0)) (fun _ hk=>hk.2) (.int .i64 a0_1)) (fun _ hk=>hk.2) (.int .i64 a0_2)) (fun _ hk=>hk.2) (.int .i64 a0_3)) (fun _ hk=>hk.2) (.int .i64 a0_4)) (fun _ hk=>hk.2) (.int .i64 a0_5)) (fun _ hk=>hk.2) (.slice Ao13 t182.length co13)) (fun _ hk=>hk.2) (.int .i64 a0_7)) (fun _ hk=>trivial),by repeat (first|(with_reducible first|exact HB.out|apply below_alloc|apply pw_below_drewN|apply below_drew1|refine below_set ?_ GE179.out|refine below_set ?_ GE180.out|refine below_set ?_ GE181.out)|exact HB.out)⟩
end Go.Proofs.Ytaeabemipnbgbaa.QCm
end
