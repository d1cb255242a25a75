/- Part of a proof: texts of this session, one behind the other, and words that print.sh printed for this seat, of these only those that the proof leans on (wip/tools/pack.py). -/
import Derived.Test.YtonelbidndjhdaaZT220d
section
namespace Go.Proofs.Ytonelbidndjhdaa.QN90
open RowKit YtonelbidndjhdaaW.PrintWords YtonelbidndjhdaaW.PrintLast YtonelbidndjhdaaW.PrintMore
attribute [local go_sem] max2_int min2_int max_two min_two max_three min_three max_four min_four   -- for this text's walks alone
set_option linter.unusedVariables false
set_option linter.unusedSimpArgs false
def gimbalref90_NDivide.l0:Nat→List Int→List Int→List Int→Int→Option (List Int × List Int)
  | 0,_,_,_,_=>none
  | k+1,x10,x11,x12,x13=>if x13≥0 then ((gimbalref90_NCmp.f k x11 x12).bind fun t233=>(if t233≥0 then ((gimbalref90_NLess.f k x11 x12).bind fun t234=>(if 0≤(wrap64 (Int.tdiv x13 64)) then (if (wrap64 (Int.tdiv x13 64))<(x10.length:Int) then (if 0≤(IntKind.u64.wrap (Int.tmod x13 64)) then ((gimbalref90_Down2.f k x12 1).bind fun t239=>(gimbalref90_NDivide.l0 k (x10.set ((wrap64 (Int.tdiv x13 64)):Int).toNat (Go.bits .or .u64 (rd x10 (wrap64 (Int.tdiv x13 64))) (shl .u64 1 (IntKind.u64.wrap (Int.tmod x13 64))))) t234 t239 (wrap64 (x13-1)))) else (none)) else (none)) else (none))) else ((gimbalref90_Down2.f k x12 1).bind fun t242=>(gimbalref90_NDivide.l0 k x10 x11 t242 (wrap64 (x13-1)))))) else ((gimbalref90_NTrim.f k x10).bind fun t230=>(some (t230,x11)))
def gimbalref90_NDivide.f (k:Nat) (l0:List Int) (l1:List Int):Option (List Int × List Int):=(gimbalref90_halves.f k l1).bind fun t205=>(if (t205.length:Int)=1 then ((gimbalref90_halves.f k l0).bind fun t208=>(if 0<(t205.length:Int) then ((gimbalref90_short.f k t208 (rd t205 0)).bind fun bt212=>((gimbalref90_whole.f k bt212.1).bind fun t216=>((gimbalref90_NOf.f k (IntKind.u64.wrap (bt212.2))).bind fun t219=>(some (t216,t219))))) else (none))) else ((gimbalref90_NLen.f k l0).bind fun t222=>((gimbalref90_NLen.f k l1).bind fun t223=>(if (wrap64 (t222-t223))<0 then (some (([]:List Int),l0)) else (if 0≤(wrap64 ((wrap64 (Int.tdiv (wrap64 (t222-t223)) 64))+1)) then (if (wrap64 ((wrap64 (Int.tdiv (wrap64 (t222-t223)) 64))+1):Int).toNat≤35184372088832 then ((gimbalref90_Up2.f k l1 (wrap64 (t222-t223))).bind fun t227=>(gimbalref90_NDivide.l0 k (List.replicate (wrap64 ((wrap64 (Int.tdiv (wrap64 (t222-t223)) 64))+1):Int).toNat 0) l0 t227 (wrap64 (t222-t223)))) else (none)) else (none))))))
theorem gimbalref90_NDivide.mono_l:∀ k,(∀ y0 y1 y2 y3,LeO (gimbalref90_NDivide.l0 k y0 y1 y2 y3) (gimbalref90_NDivide.l0 (k+1) y0 y1 y2 y3))
  | 0=>fun _ _ _ _ r h=>by simp [gimbalref90_NDivide.l0] at h
  | k + 1 => by
    have ih0:=gimbalref90_NDivide.mono_l k
    · intro y0 y1 y2 y3
      unfold gimbalref90_NDivide.l0
      repeat' first
      | (with_reducible exact ih0 _ _ _ _)
      | (with_reducible exact gimbalref90_Down2.mono _ _ _)
      | (with_reducible exact gimbalref90_NCmp.mono _ _ _)
      | (with_reducible exact gimbalref90_NLen.mono _ _)
      | (with_reducible exact gimbalref90_NLess.mono _ _ _)
      | (with_reducible exact gimbalref90_NOf.mono _ _)
      | (with_reducible exact gimbalref90_NTrim.mono _ _)
      | (with_reducible exact gimbalref90_Up2.mono _ _ _)
      | (with_reducible exact gimbalref90_halves.mono _ _)
      | (with_reducible exact gimbalref90_short.mono _ _ _)
      | (with_reducible exact gimbalref90_whole.mono _ _)
      | (with_reducible exact LeO.refl _)
      | (with_reducible exact LeO.none _)
      | (with_reducible refine LeO.ite ?_ ?_)
      | (with_reducible refine LeO.bind ?_ (fun _=>?_))
      | exact ih0 _ _ _ _
      | exact gimbalref90_Down2.mono _ _ _
      | exact gimbalref90_NCmp.mono _ _ _
      | exact gimbalref90_NLen.mono _ _
      | exact gimbalref90_NLess.mono _ _ _
      | exact gimbalref90_NOf.mono _ _
      | exact gimbalref90_NTrim.mono _ _
      | exact gimbalref90_Up2.mono _ _ _
      | exact gimbalref90_halves.mono _ _
      | exact gimbalref90_short.mono _ _ _
      | exact gimbalref90_whole.mono _ _
      | exact LeO.none _
      | refine LeO.ite ?_ ?_
      | refine LeO.bind ?_ (fun _=>?_)
theorem gimbalref90_NDivide.mono:∀ a0 a1 k,LeO (gimbalref90_NDivide.f k a0 a1) (gimbalref90_NDivide.f (k+1) a0 a1):=by
  intro a0 a1 k
  have ih0:=gimbalref90_NDivide.mono_l k
  unfold gimbalref90_NDivide.f
  repeat' first
      | (with_reducible exact ih0 _ _ _ _)
      | (with_reducible exact gimbalref90_Down2.mono _ _ _)
      | (with_reducible exact gimbalref90_NCmp.mono _ _ _)
      | (with_reducible exact gimbalref90_NLen.mono _ _)
      | (with_reducible exact gimbalref90_NLess.mono _ _ _)
      | (with_reducible exact gimbalref90_NOf.mono _ _)
      | (with_reducible exact gimbalref90_NTrim.mono _ _)
      | (with_reducible exact gimbalref90_Up2.mono _ _ _)
      | (with_reducible exact gimbalref90_halves.mono _ _)
      | (with_reducible exact gimbalref90_short.mono _ _ _)
      | (with_reducible exact gimbalref90_whole.mono _ _)
      | (with_reducible exact LeO.refl _)
      | (with_reducible exact LeO.none _)
      | (with_reducible refine LeO.ite ?_ ?_)
      | (with_reducible refine LeO.bind ?_ (fun _=>?_))
      | exact ih0 _ _ _ _
      | exact gimbalref90_Down2.mono _ _ _
      | exact gimbalref90_NCmp.mono _ _ _
      | exact gimbalref90_NLen.mono _ _
      | exact gimbalref90_NLess.mono _ _ _
      | exact gimbalref90_NOf.mono _ _
      | exact gimbalref90_NTrim.mono _ _
      | exact gimbalref90_Up2.mono _ _ _
      | exact gimbalref90_halves.mono _ _
      | exact gimbalref90_short.mono _ _ _
      | exact gimbalref90_whole.mono _ _
      | exact LeO.none _
      | refine LeO.ite ?_ ?_
      | refine LeO.bind ?_ (fun _=>?_)
def gimbalref90_NDivide.T3:Bool × List (List Nat × List Nat):=(true,[([],[]),([0],[0]),([],[]),([2],[2]),([3],[3]),([1,4,1],[1,4]),([5],[5]),([6],[6]),([6],[6]),([7,5,0,1,2,3,4,5,6,7],[7]),([8,9,0,1,2,3,4,5,6,7,8,9],[8])])
def gimbalref90_NDivide.B3:List Nat:=[0,1,0,4,12,31,63,127,127,255,1023]
theorem gimbalref90_NDivide.tab3:rtab .any (opsOf Try.f114 3)=gimbalref90_NDivide.T3:=by kernel_rfl
theorem gimbalref90_NDivide.bits3:waitsOk gimbalref90_NDivide.T3.2 gimbalref90_NDivide.B3=true:=by kernel_rfl
set_option maxHeartbeats 8000000 in
set_option maxRecDepth 100000 in
theorem gimbalref90_NDivide.calls (k:Nat) (P0_:Nat→Prop) (A0:Option Addr) (c0:Nat) (l0:List Int) (A1:Option Addr) (c1:Nat) (l1:List Int) (r1:List Int) (r2:List Int) (w:World) (hs0:Kd.V (Kd.int .u64) 104 w w.heap.size (fun k_=>P0_ k_) (.slice A0 l0.length c0) l0) (hr1:Kd.C (Kd.int .u64) w A1 l1.length l1) (hc1:l1.length≤c1) (h:gimbalref90_NDivide.f k l0 l1=some (r1,r2)) :
    Calls Try.prog 114 #[.slice A0 l0.length c0,.slice A1 l1.length c1] w fun e w'=>∃ v0_ v1_:Value,e = .returned (.tuple #[v0_,v1_])∧Kd.R (Kd.int .u64) 104 w' w.heap.size (fun k_=>(w.heap.size≤k_)) v0_ r1∧Kd.V (Kd.int .u64) 104 w' w.heap.size (fun k_=>(P0_ k_∨w.heap.size≤k_)∧some k_≠(v0_:Value).ownBlock) v1_ r2∧Below w.heap.size w w':=by
  have HO0:=Aside0.mk (show Kd.V (Kd.int .u64) 104 w w.heap.size (fun k_=>(P0_ k_∨w.heap.size≤k_)) (.slice A0 l0.length c0) l0 from Kd.V_mono hs0 (fun k_ hk => .inl hk))
  have HR1:=Aside0.mk hr1
  have HC1:=Aside0.mk hc1
  clear hr1 hc1
  have HB:=Aside0.mk (Below.refl w.heap.size w)
  have H:((gimbalref90_halves.f k l1).bind fun t205=>(if (t205.length:Int)=1 then ((gimbalref90_halves.f k l0).bind fun t208=>(if 0<(t205.length:Int) then ((gimbalref90_short.f k t208 (rd t205 0)).bind fun bt212=>((gimbalref90_whole.f k bt212.1).bind fun t216=>((gimbalref90_NOf.f k (IntKind.u64.wrap (bt212.2))).bind fun t219=>(some (t216,t219))))) else (none))) else ((gimbalref90_NLen.f k l0).bind fun t222=>((gimbalref90_NLen.f k l1).bind fun t223=>(if (wrap64 (t222-t223))<0 then (some (([]:List Int),l0)) else (if 0≤(wrap64 ((wrap64 (Int.tdiv (wrap64 (t222-t223)) 64))+1)) then (if (wrap64 ((wrap64 (Int.tdiv (wrap64 (t222-t223)) 64))+1):Int).toNat≤35184372088832 then ((gimbalref90_Up2.f k l1 (wrap64 (t222-t223))).bind fun t227=>(gimbalref90_NDivide.l0 k (List.replicate (wrap64 ((wrap64 (Int.tdiv (wrap64 (t222-t223)) 64))+1):Int).toNat 0) l0 t227 (wrap64 (t222-t223)))) else (none)) else (none)))))))=some (r1,r2):=h
  clear h
  replace H:=Option.bind_eq_some_iff.mp H
  obtain ⟨t205,A30,H⟩:=H
  replace H:(if (t205.length:Int)=1 then ((gimbalref90_halves.f k l0).bind fun t208=>(if 0<(t205.length:Int) then ((gimbalref90_short.f k t208 (rd t205 0)).bind fun bt212=>((gimbalref90_whole.f k bt212.1).bind fun t216=>((gimbalref90_NOf.f k (IntKind.u64.wrap (bt212.2))).bind fun t219=>(some (t216,t219))))) else (none))) else ((gimbalref90_NLen.f k l0).bind fun t222=>((gimbalref90_NLen.f k l1).bind fun t223=>(if (wrap64 (t222-t223))<0 then (some (([]:List Int),l0)) else (if 0≤(wrap64 ((wrap64 (Int.tdiv (wrap64 (t222-t223)) 64))+1)) then (if (wrap64 ((wrap64 (Int.tdiv (wrap64 (t222-t223)) 64))+1):Int).toNat≤35184372088832 then ((gimbalref90_Up2.f k l1 (wrap64 (t222-t223))).bind fun t227=>(gimbalref90_NDivide.l0 k (List.replicate (wrap64 ((wrap64 (Int.tdiv (wrap64 (t222-t223)) 64))+1):Int).toNat 0) l0 t227 (wrap64 (t222-t223)))) else (none)) else (none))))))=some (r1,r2):=H
  have A3:=Aside0.mk A30
  clear A30
  by_cases c4:(t205.length:Int)=1
  · rw [if_pos c4] at H
    have c4b0:((t205.length:Int) == 1)=true:=beq_iff_eq.mpr c4
    have c4b1:((t205.length:Int) != 1)=false:=bne_eq_false_iff_eq.mpr c4
    clear c4
    replace H:=Option.bind_eq_some_iff.mp H
    obtain ⟨t208,A50,H⟩:=H
    replace H:(if 0<(t205.length:Int) then ((gimbalref90_short.f k t208 (rd t205 0)).bind fun bt212=>((gimbalref90_whole.f k bt212.1).bind fun t216=>((gimbalref90_NOf.f k (IntKind.u64.wrap (bt212.2))).bind fun t219=>(some (t216,t219))))) else (none))=some (r1,r2):=H
    have A5:=Aside0.mk A50
    clear A50
    by_cases c6:0<(t205.length:Int)
    · rw [if_pos c6] at H
      have c6b0:decide (0<(t205.length:Int))=true:=decide_eq_true c6
      have c6b1:decide (0<t205.length)=true:=decide_eq_true (by omega)
      clear c6
      replace H:=Option.bind_eq_some_iff.mp H
      obtain ⟨⟨t212,t213⟩,A70,H⟩:=H
      replace H:((gimbalref90_whole.f k t212).bind fun t216=>((gimbalref90_NOf.f k (IntKind.u64.wrap (t213))).bind fun t219=>(some (t216,t219))))=some (r1,r2):=H
      have A7:=Aside0.mk A70
      clear A70
      replace H:=Option.bind_eq_some_iff.mp H
      obtain ⟨t216,A80,H⟩:=H
      replace H:((gimbalref90_NOf.f k (IntKind.u64.wrap (t213))).bind fun t219=>(some (t216,t219)))=some (r1,r2):=H
      have A8:=Aside0.mk A80
      clear A80
      replace H:=Option.bind_eq_some_iff.mp H
      obtain ⟨t219,A90,H⟩:=H
      replace H:(some (t216,t219))=some (r1,r2):=H
      have A9:=Aside0.mk A90
      clear A90
      simp only [Option.some.injEq,Prod.mk.injEq] at H
      obtain ⟨rfl,rfl⟩:=H
      go_enter Try.func114,Try.ntmps114
      try go_wp2_with (first|((with_reducible refine gate_callee (f:=108) rfl ?_);refine goesL_ (some 15) rfl rfl Try.func108 (by kernel_rfl) rfl #[.slice A1 l1.length c1] rfl (by (try simp only [List.map_toArray,List.map_cons,List.map_nil]);first|done|rfl|(simp only [List.length_drop,List.length_take];rfl)) ?_;(with_reducible refine (gimbalref90_halves.calls k _ _ l1 t205 _ ?side1 ?side2 A3.out).mono ?_);(case side1=>repeat (first|exact HR1.out|(with_reducible refine Kd.C_alloc ?_ _)|(with_reducible refine Kd.C_drewN ?_ _)|(with_reducible refine Kd.C_drew ?_)));(case side2=>exact HC1.out);rintro e w10 ⟨v206,rfl,ho0,hb⟩;refine ⟨_,rfl,?_⟩;have n0_:=Aside0.mk (Kd.V_elder' (by (with_reducible repeat (first|apply Kd.V_alloc|apply Kd.V_drewN|apply Kd.V_drew));exact HO0.out) (Kd.R_base ho0) hb);have n1_:=Aside0.mk (Kd.R_lower (Kd.R_newM (M:=fun k_=>(w.heap.size≤k_)) ho0 (below_size (by repeat (first|(with_reducible first|exact HB.out|apply below_alloc|apply pw_below_drewN|apply below_drew1)|exact HB.out))) (fun k_ h_=>h_)) (below_size (by repeat (first|(with_reducible first|exact HB.out|apply below_alloc|apply pw_below_drewN|apply below_drew1)|exact HB.out))));have n2_:=Aside0.mk (below_step (by repeat (first|(with_reducible first|exact HB.out|apply below_alloc|apply pw_below_drewN|apply below_drew1)|exact HB.out)) hb);clear HO0;clear HB;have HO0:=n0_;have HO207:=n1_;have HB:=n2_;clear n0_ n1_ n2_;(try clear hb);(try clear hb2);(try clear hk);(try clear hi);(try clear ho0);obtain ⟨Ao11,co11,eo11⟩:=Kd.R_slice HO207.out;subst eo11))
      have n0_:=Aside0.mk (Kd.V_drew HO0.out)
      have n1_:=Aside0.mk (Kd.R_drew HO207.out)
      have n2_:=Aside0.mk (below_drew1 HB.out)
      clear HO0
      clear HO207
      clear HB
      have HO0:=n0_
      have HO207:=n1_
      have HB:=n2_
      clear n0_ n1_ n2_
      have p211:0≤(0:Int):=(by omega)
      have q211:0<(t205.length:Int):=of_decide_eq_true (by first|(with_reducible assumption)|assumption)
      obtain ⟨ad211,e211,hx211_0⟩:=Kd.at_int (Kd.R_reads' HO207.out).2.2 0 p211 q211
      cases e211
      have qi211:(0<t205.length)=True:=eq_true (by omega)
      (try rw [show ((0:Int)).toNat=0 from rfl] at hx211_0)
      (try rw [Addr.add_zero'] at hx211_0)
      replace p211:=eq_true p211
      replace q211:=eq_true q211
      refine start_ (n:=11) (S:=fun w'=>w'.cell? ad211=some (.int .u32 (rd t205 0))) (ds:=[]) #[false,false,false,false,false,false,false,false,false,false,false] (by kernel_rfl) rfl rfl (hx211_0) (fun hHeld=>?_);refine with_tabW gimbalref90_NDivide.tab3 gimbalref90_NDivide.bits3 (fun HT_ HW_=>?_)
      generalize w10.drew=w12 at HO0 HO207 HB hx211_0 hHeld ⊢
      refine pure_ (i:=0) (N:=some 20) (v:=?_) (a':=?_) #[true,false,false,false,false,false,false,false,false,false,false] rfl rfl (any_of HT_.out (by kernel_rfl)) (fun _ _ _ h=>h) (Or.inl ⟨by rfl,?_⟩) ?_ ?_
      rotate_left
      · intro w'
        go_simp
        with_reducible rfl
      rotate_left
      · simp only [Act.put,List.setIfInBounds_toArray,List.set_cons_zero,List.set_cons_succ,i64_w,i32_w]
        rfl
      refine pure_ (i:=2) (N:=some 22) (v:=?_) (a':=?_) #[true,false,true,false,false,false,false,false,false,false,false] rfl rfl (any_of HT_.out (by kernel_rfl)) (fun _ _ _ h=>h) (Or.inl ⟨by rfl,?_⟩) ?_ ?_
      rotate_left
      · intro w'
        go_simp
        with_reducible rfl
      rotate_left
      · simp only [Act.put,List.setIfInBounds_toArray,List.set_cons_zero,List.set_cons_succ,i64_w,i32_w]
        rfl
      refine pure_ (i:=3) (N:=some 23) (v:=?_) (a':=?_) #[true,false,true,true,false,false,false,false,false,false,false] rfl rfl (any_of HT_.out (by kernel_rfl)) (fun _ _ _ h=>h) (Or.inl ⟨by rfl,?_⟩) ?_ ?_
      rotate_left
      · intro w'
        go_simp
        with_reducible rfl
      rotate_left
      · simp only [Act.put,List.setIfInBounds_toArray,List.set_cons_zero,List.set_cons_succ,i64_w,i32_w]
        rfl
      refine take_ (i:=4) (N:=some 24) (v:=?_) (a':=?_) #[true,false,true,true,true,false,false,false,false,false,false] rfl rfl (take_ofW HT_.out HW_.out (by kernel_rfl)) (fun _ _ _ h=>h) (Or.inl ⟨by rfl,?_⟩) hHeld ?_ ?_
      rotate_left
      · intro w' s0
        go_simp
        with_reducible rfl
      rotate_left
      · simp only [Act.put,List.setIfInBounds_toArray,List.set_cons_zero,List.set_cons_succ,i64_w,i32_w]
        rfl
      refine one_ (i:=1) (N:=some 21) #[true,true,true,true,true,false,false,false,false,false,false] rfl rfl (one_of HT_.out (by kernel_rfl)) (by decide) (fun K hK=>?_)
      refine goes_ Try.func108 (by kernel_rfl) rfl #[.slice A0 l0.length c0] (by rfl) rfl rfl (by (try simp only [List.map_toArray,List.map_cons,List.map_nil]);first|done|rfl|(simp only [List.length_drop,List.length_take];rfl)) ?_
      with_reducible refine (gimbalref90_halves.calls k _ _ l0 t208 _ ?side1 ?side2 A5.out).mono ?_
      (case side1=>repeat (first|exact (Kd.V_reads' HO0.out).2.2|(with_reducible refine Kd.C_alloc ?_ _)|(with_reducible refine Kd.C_drewN ?_ _)|(with_reducible refine Kd.C_drew ?_)))
      (case side2=>exact (Kd.V_reads' HO0.out).2.1)
      rintro e w13 ⟨v209,rfl,ho0,hb⟩
      have HS0_:=(hb.cell (World.block_lt_of_cell? _ _ (hHeld))).trans (hHeld)
      refine ⟨_,rfl,?_⟩
      have n0_:=Aside0.mk (Kd.V_elder' (by (with_reducible repeat (first|apply Kd.V_alloc|apply Kd.V_drewN|apply Kd.V_drew));exact HO0.out) (Kd.R_base ho0) hb)
      have n1_:=Aside0.mk (Kd.R_elder' (by (with_reducible repeat (first|apply Kd.R_alloc|apply Kd.R_drewN|apply Kd.R_drew));exact HO207.out) (Kd.R_base ho0) hb)
      have n2_:=Aside0.mk (Kd.R_lower (Kd.R_new' (Kd.R_newM (M:=fun k_=>(w.heap.size≤k_)) ho0 (below_size (by repeat (first|(with_reducible first|exact HB.out|apply below_alloc|apply pw_below_drewN|apply below_drew1)|exact HB.out))) (fun k_ h_=>h_)) (Kd.R_lt (by (with_reducible repeat (first|apply Kd.R_alloc|apply Kd.R_drewN|apply Kd.R_drew));exact HO207.out))) (below_size (by repeat (first|(with_reducible first|exact HB.out|apply below_alloc|apply pw_below_drewN|apply below_drew1)|exact HB.out))))
      have n3_:=Aside0.mk (below_step (by repeat (first|(with_reducible first|exact HB.out|apply below_alloc|apply pw_below_drewN|apply below_drew1)|exact HB.out)) hb)
      clear HO0
      clear HO207
      clear HB
      have HO0:=n0_
      have HO207:=n1_
      have HO210:=n2_
      have HB:=n3_
      clear n0_ n1_ n2_ n3_
      (try clear hb)
      (try clear hb2)
      (try clear hk)
      (try clear hi)
      (try clear ho0)
      obtain ⟨Ao14,co14,eo14⟩:=Kd.R_slice HO210.out
      (first|subst eo14|(injection eo14 with f1_ f2_ f3_;have f4_:=f1_.symm;have f5_:=f3_.symm;clear f1_ f2_ f3_;subst f4_;subst f5_))
      refine hK.out _ _ (HS0_) (fun hHeld=>?_)
      clear hK K
      refine norm_ (a':=?_) ?_ ?_
      rotate_left
      · show Act.put _ (some 21) _=_
        simp only [Act.put,List.setIfInBounds_toArray,List.set_cons_zero,List.set_cons_succ,i64_w,i32_w]
        rfl
      refine one_ (i:=5) (N:=some 25) #[true,true,true,true,true,true,false,false,false,false,false] rfl rfl (one_of HT_.out (by kernel_rfl)) (by decide) (fun K hK=>?_)
      refine goes_ Try.func131 (by kernel_rfl) rfl #[.slice Ao14 t208.length co14,.int .u32 (rd t205 0)] (by rfl) rfl rfl (by (try simp only [List.map_toArray,List.map_cons,List.map_nil]);first|done|rfl|(simp only [List.length_drop,List.length_take];rfl)) ?_
      with_reducible refine (gimbalref90_short.calls k _ _ t208 (rd t205 0) t212 t213 _ ?side1 ?side2 A7.out).mono ?_
      (case side1=>repeat (first|exact (Kd.R_reads' HO210.out).2.2|(with_reducible refine Kd.C_alloc ?_ _)|(with_reducible refine Kd.C_drewN ?_ _)|(with_reducible refine Kd.C_drew ?_)))
      (case side2=>exact (Kd.R_reads' HO210.out).2.1)
      rintro e w15 ⟨v214,rfl,ho0,hb⟩
      have HS0_:=(hb.cell (World.block_lt_of_cell? _ _ (hHeld))).trans (hHeld)
      refine ⟨_,rfl,?_⟩
      have n0_:=Aside0.mk (Kd.V_elder' (by (with_reducible repeat (first|apply Kd.V_alloc|apply Kd.V_drewN|apply Kd.V_drew));exact HO0.out) (Kd.R_base ho0) hb)
      have n1_:=Aside0.mk (Kd.R_elder' (by (with_reducible repeat (first|apply Kd.R_alloc|apply Kd.R_drewN|apply Kd.R_drew));exact HO207.out) (Kd.R_base ho0) hb)
      have n2_:=Aside0.mk (Kd.R_elder' (by (with_reducible repeat (first|apply Kd.R_alloc|apply Kd.R_drewN|apply Kd.R_drew));exact HO210.out) (Kd.R_base ho0) hb)
      have n3_:=Aside0.mk (Kd.R_lower (Kd.R_new' (Kd.R_new' (Kd.R_newM (M:=fun k_=>(w.heap.size≤k_)) ho0 (below_size (by repeat (first|(with_reducible first|exact HB.out|apply below_alloc|apply pw_below_drewN|apply below_drew1)|exact HB.out))) (fun k_ h_=>h_)) (Kd.R_lt (by (with_reducible repeat (first|apply Kd.R_alloc|apply Kd.R_drewN|apply Kd.R_drew));exact HO207.out))) (Kd.R_lt (by (with_reducible repeat (first|apply Kd.R_alloc|apply Kd.R_drewN|apply Kd.R_drew));exact HO210.out))) (below_size (by repeat (first|(with_reducible first|exact HB.out|apply below_alloc|apply pw_below_drewN|apply below_drew1)|exact HB.out))))
      have n4_:=Aside0.mk (below_step (by repeat (first|(with_reducible first|exact HB.out|apply below_alloc|apply pw_below_drewN|apply below_drew1)|exact HB.out)) hb)
      clear HO0
      clear HO207
      clear HO210
      clear HB
      have HO0:=n0_
      have HO207:=n1_
      have HO210:=n2_
      have HO215:=n3_
      have HB:=n4_
      clear n0_ n1_ n2_ n3_ n4_
      (try clear hb)
      (try clear hb2)
      (try clear hk)
      (try clear hi)
      (try clear ho0)
      refine hK.out _ _ (HS0_) (fun hHeld=>?_)
      clear hK K
      refine norm_ (a':=?_) ?_ ?_
      rotate_left
      · show Act.put _ (some 25) _=_
        simp only [Act.put,List.setIfInBounds_toArray,List.set_cons_zero,List.set_cons_succ,i64_w,i32_w]
        rfl
      refine pure_ (i:=6) (N:=some 19) (v:=?_) (a':=?_) #[true,true,true,true,true,true,true,false,false,false,false] rfl rfl (any_of HT_.out (by kernel_rfl)) (fun _ _ _ h=>h) (Or.inl ⟨by rfl,?_⟩) ?_ ?_
      rotate_left
      · intro w'
        go_simp
        with_reducible rfl
      rotate_left
      · simp only [Act.put,List.setIfInBounds_toArray,List.set_cons_zero,List.set_cons_succ,i64_w,i32_w]
        rfl
      refine pure_ (i:=7) (N:=some 26) (v:=?_) (a':=?_) #[true,true,true,true,true,true,true,true,false,false,false] rfl rfl (any_of HT_.out (by kernel_rfl)) (fun _ _ _ h=>h) (Or.inl ⟨by rfl,?_⟩) ?_ ?_
      rotate_left
      · intro w'
        go_simp
        with_reducible rfl
      rotate_left
      · simp only [Act.put,List.setIfInBounds_toArray,List.set_cons_zero,List.set_cons_succ,i64_w,i32_w]
        rfl
      refine pure_ (i:=8) (N:=some 27) (v:=?_) (a':=?_) #[true,true,true,true,true,true,true,true,true,false,false] rfl rfl (any_of HT_.out (by kernel_rfl)) (fun _ _ _ h=>h) (Or.inl ⟨by rfl,?_⟩) ?_ ?_
      rotate_left
      · intro w'
        go_simp
        with_reducible rfl
      rotate_left
      · simp only [Act.put,List.setIfInBounds_toArray,List.set_cons_zero,List.set_cons_succ,i64_w,i32_w]
        rfl
      refine pure_ (i:=9) (N:=some 7) (v:=?_) (a':=?_) #[true,true,true,true,true,true,true,true,true,true,false] rfl rfl (any_of HT_.out (by kernel_rfl)) (fun _ _ _ h=>h) (Or.inl ⟨by rfl,?_⟩) ?_ ?_
      rotate_left
      · intro w'
        go_simp
        with_reducible rfl
      rotate_left
      · simp only [Act.put,List.setIfInBounds_toArray,List.set_cons_zero,List.set_cons_succ,i64_w,i32_w]
        rfl
      refine pure_ (i:=10) (N:=some 8) (v:=?_) (a':=?_) #[true,true,true,true,true,true,true,true,true,true,true] rfl rfl (any_of HT_.out (by kernel_rfl)) (fun _ _ _ h=>h) (Or.inl ⟨by rfl,?_⟩) ?_ ?_
      rotate_left
      · intro w'
        go_simp
        with_reducible rfl
      rotate_left
      · simp only [Act.put,List.setIfInBounds_toArray,List.set_cons_zero,List.set_cons_succ,i64_w,i32_w]
        rfl
      refine done_ (done_of HT_.out (by kernel_rfl)) ?_
      obtain ⟨Ao16,co16,eo16⟩:=Kd.R_slice HO215.out
      subst eo16
      try go_wp2_with (first|((with_reducible refine gate_callee (f:=109) rfl ?_);refine goesL_ (some 29) rfl rfl Try.func109 (by kernel_rfl) rfl #[.slice Ao16 t212.length co16] rfl (by (try simp only [List.map_toArray,List.map_cons,List.map_nil]);first|done|rfl|(simp only [List.length_drop,List.length_take];rfl)) ?_;(with_reducible refine (gimbalref90_whole.calls k _ _ t212 t216 _ ?side1 ?side2 A8.out).mono ?_);(case side1=>repeat (first|exact (Kd.R_reads' HO215.out).2.2|(with_reducible refine Kd.C_alloc ?_ _)|(with_reducible refine Kd.C_drewN ?_ _)|(with_reducible refine Kd.C_drew ?_)));(case side2=>exact (Kd.R_reads' HO215.out).2.1);rintro e w17 ⟨v217,rfl,ho0,hb⟩;refine ⟨_,rfl,?_⟩;have n0_:=Aside0.mk (Kd.V_elder' (by (with_reducible repeat (first|apply Kd.V_alloc|apply Kd.V_drewN|apply Kd.V_drew));exact HO0.out) (Kd.R_base ho0) hb);have n1_:=Aside0.mk (Kd.R_below (by (with_reducible repeat (first|apply Kd.R_alloc|apply Kd.R_drewN|apply Kd.R_drew));exact HO207.out) hb);have n2_:=Aside0.mk (Kd.R_below (by (with_reducible repeat (first|apply Kd.R_alloc|apply Kd.R_drewN|apply Kd.R_drew));exact HO210.out) hb);have n3_:=Aside0.mk (Kd.R_below (by (with_reducible repeat (first|apply Kd.R_alloc|apply Kd.R_drewN|apply Kd.R_drew));exact HO215.out) hb);have n4_:=Aside0.mk (Kd.R_lower (Kd.R_newM (M:=fun k_=>(w.heap.size≤k_)) ho0 (below_size (by repeat (first|(with_reducible first|exact HB.out|apply below_alloc|apply pw_below_drewN|apply below_drew1)|exact HB.out))) (fun k_ h_=>h_)) (below_size (by repeat (first|(with_reducible first|exact HB.out|apply below_alloc|apply pw_below_drewN|apply below_drew1)|exact HB.out))));have n5_:=Aside0.mk (below_step (by repeat (first|(with_reducible first|exact HB.out|apply below_alloc|apply pw_below_drewN|apply below_drew1)|exact HB.out)) hb);clear HO0;clear HO207;clear HO210;clear HO215;clear HB;have HO0:=n0_;have HO207:=n1_;have HO210:=n2_;have HO215:=n3_;have HO218:=n4_;have HB:=n5_;clear n0_ n1_ n2_ n3_ n4_ n5_;(try clear hb);(try clear hb2);(try clear hk);(try clear hi);(try clear ho0))|((with_reducible refine gate_callee (f:=79) rfl ?_);refine goesL_ (some 32) rfl rfl Try.func79 (by kernel_rfl) rfl #[.int .u64 (IntKind.u64.wrap (t213))] rfl (by (try simp only [List.map_toArray,List.map_cons,List.map_nil]);first|done|rfl|(simp only [List.length_drop,List.length_take];rfl)) ?_;(with_reducible refine (gimbalref90_NOf.calls k (IntKind.u64.wrap (t213)) t219 _ A9.out).mono ?_);rintro e w18 ⟨v220,rfl,ho0,hb⟩;refine ⟨_,rfl,?_⟩;have n0_:=Aside0.mk (Kd.V_elder' (by (with_reducible repeat (first|apply Kd.V_alloc|apply Kd.V_drewN|apply Kd.V_drew));exact HO0.out) (Kd.R_base ho0) hb);have n1_:=Aside0.mk (Kd.R_below (by (with_reducible repeat (first|apply Kd.R_alloc|apply Kd.R_drewN|apply Kd.R_drew));exact HO207.out) hb);have n2_:=Aside0.mk (Kd.R_below (by (with_reducible repeat (first|apply Kd.R_alloc|apply Kd.R_drewN|apply Kd.R_drew));exact HO210.out) hb);have n3_:=Aside0.mk (Kd.R_below (by (with_reducible repeat (first|apply Kd.R_alloc|apply Kd.R_drewN|apply Kd.R_drew));exact HO215.out) hb);have n4_:=Aside0.mk (Kd.R_elder' (by (with_reducible repeat (first|apply Kd.R_alloc|apply Kd.R_drewN|apply Kd.R_drew));exact HO218.out) (Kd.R_base ho0) hb);have n5_:=Aside0.mk (Kd.R_lower (Kd.R_new' (Kd.R_newM (M:=fun k_=>(w.heap.size≤k_)) ho0 (below_size (by repeat (first|(with_reducible first|exact HB.out|apply below_alloc|apply pw_below_drewN|apply below_drew1)|exact HB.out))) (fun k_ h_=>h_)) (Kd.R_lt (by (with_reducible repeat (first|apply Kd.R_alloc|apply Kd.R_drewN|apply Kd.R_drew));exact HO218.out))) (below_size (by repeat (first|(with_reducible first|exact HB.out|apply below_alloc|apply pw_below_drewN|apply below_drew1)|exact HB.out))));have n6_:=Aside0.mk (below_step (by repeat (first|(with_reducible first|exact HB.out|apply below_alloc|apply pw_below_drewN|apply below_drew1)|exact HB.out)) hb);clear HO0;clear HO207;clear HO210;clear HO215;clear HO218;clear HB;have HO0:=n0_;have HO207:=n1_;have HO210:=n2_;have HO215:=n3_;have HO218:=n4_;have HO221:=n5_;have HB:=n6_;clear n0_ n1_ n2_ n3_ n4_ n5_ n6_;(try clear hb);(try clear hb2);(try clear hk);(try clear hi);(try clear ho0)))
      go_ret2
      exact ⟨_,_,by first|rfl|(simp [errW_none,errW_some]<;>rfl)|(simp [*,errW_none,errW_some]<;>rfl),by (with_reducible repeat (first|apply Kd.R_alloc|apply Kd.R_drewN|apply Kd.R_drew));exact Kd.R_mono HO218.out (fun _ hk=>hk.1.1),(by refine Kd.V_mono (Kd.R_V (by (with_reducible repeat (first|apply Kd.R_alloc|apply Kd.R_drewN|apply Kd.R_drew));exact HO221.out)) ?_;exact fun k_ hk=>by first|exact ⟨.inr hk.1.1,hk.2⟩|exact ⟨.inr hk.1,hk.2⟩|exact ⟨.inr hk.1.1.1,⟨hk.1.2,hk.2⟩⟩|exact ⟨⟨.inr hk.1.1.1,hk.1.2⟩,hk.2⟩|exact .inr hk.1.1),by repeat (first|(with_reducible first|exact HB.out|apply below_alloc|apply pw_below_drewN|apply below_drew1)|exact HB.out)⟩
    · rw [if_neg c6] at H
      exact absurd H (by simp)
  · rw [if_neg c4] at H
    have c4b0:((t205.length:Int) == 1)=false:=beq_eq_false_iff_ne.mpr c4
    have c4b1:((t205.length:Int) != 1)=true:=bne_iff_ne.mpr c4
    replace H:=Option.bind_eq_some_iff.mp H
    obtain ⟨t222,A190,H⟩:=H
    replace H:((gimbalref90_NLen.f k l1).bind fun t223=>(if (wrap64 (t222-t223))<0 then (some (([]:List Int),l0)) else (if 0≤(wrap64 ((wrap64 (Int.tdiv (wrap64 (t222-t223)) 64))+1)) then (if (wrap64 ((wrap64 (Int.tdiv (wrap64 (t222-t223)) 64))+1):Int).toNat≤35184372088832 then ((gimbalref90_Up2.f k l1 (wrap64 (t222-t223))).bind fun t227=>(gimbalref90_NDivide.l0 k (List.replicate (wrap64 ((wrap64 (Int.tdiv (wrap64 (t222-t223)) 64))+1):Int).toNat 0) l0 t227 (wrap64 (t222-t223)))) else (none)) else (none))))=some (r1,r2):=H
    have A19:=Aside0.mk A190
    clear A190
    replace H:=Option.bind_eq_some_iff.mp H
    obtain ⟨t223,A200,H⟩:=H
    replace H:(if (wrap64 (t222-t223))<0 then (some (([]:List Int),l0)) else (if 0≤(wrap64 ((wrap64 (Int.tdiv (wrap64 (t222-t223)) 64))+1)) then (if (wrap64 ((wrap64 (Int.tdiv (wrap64 (t222-t223)) 64))+1):Int).toNat≤35184372088832 then ((gimbalref90_Up2.f k l1 (wrap64 (t222-t223))).bind fun t227=>(gimbalref90_NDivide.l0 k (List.replicate (wrap64 ((wrap64 (Int.tdiv (wrap64 (t222-t223)) 64))+1):Int).toNat 0) l0 t227 (wrap64 (t222-t223)))) else (none)) else (none)))=some (r1,r2):=H
    have A20:=Aside0.mk A200
    clear A200
    by_cases c21:(wrap64 (t222-t223))<0
    · rw [if_pos c21] at H
      have c21b0:decide ((wrap64 (t222-t223))<0)=true:=decide_eq_true c21
      clear c21
      simp only [Option.some.injEq,Prod.mk.injEq] at H
      obtain ⟨rfl,rfl⟩:=H
      go_enter Try.func114,Try.ntmps114
      go_wp2_with (first|((with_reducible refine gate_callee (f:=108) rfl ?_);refine goesL_ (some 15) rfl rfl Try.func108 (by kernel_rfl) rfl #[.slice A1 l1.length c1] rfl (by (try simp only [List.map_toArray,List.map_cons,List.map_nil]);first|done|rfl|(simp only [List.length_drop,List.length_take];rfl)) ?_;(with_reducible refine (gimbalref90_halves.calls k _ _ l1 t205 _ ?side1 ?side2 A3.out).mono ?_);(case side1=>repeat (first|exact HR1.out|(with_reducible refine Kd.C_alloc ?_ _)|(with_reducible refine Kd.C_drewN ?_ _)|(with_reducible refine Kd.C_drew ?_)));(case side2=>exact HC1.out);rintro e w22 ⟨v206,rfl,ho0,hb⟩;refine ⟨_,rfl,?_⟩;have n0_:=Aside0.mk (Kd.V_elder' (by (with_reducible repeat (first|apply Kd.V_alloc|apply Kd.V_drewN|apply Kd.V_drew));exact HO0.out) (Kd.R_base ho0) hb);have n1_:=Aside0.mk (Kd.R_lower (Kd.R_newM (M:=fun k_=>(w.heap.size≤k_)) ho0 (below_size (by repeat (first|(with_reducible first|exact HB.out|apply below_alloc|apply pw_below_drewN|apply below_drew1)|exact HB.out))) (fun k_ h_=>h_)) (below_size (by repeat (first|(with_reducible first|exact HB.out|apply below_alloc|apply pw_below_drewN|apply below_drew1)|exact HB.out))));have n2_:=Aside0.mk (below_step (by repeat (first|(with_reducible first|exact HB.out|apply below_alloc|apply pw_below_drewN|apply below_drew1)|exact HB.out)) hb);clear HO0;clear HB;have HO0:=n0_;have HO207:=n1_;have HB:=n2_;clear n0_ n1_ n2_;(try clear hb);(try clear hb2);(try clear hk);(try clear hi);(try clear ho0);obtain ⟨Ao23,co23,eo23⟩:=Kd.R_slice HO207.out;subst eo23)|((with_reducible refine gate_callee (f:=132) rfl ?_);refine goesL_ (some 34) rfl rfl Try.func132 (by kernel_rfl) rfl #[.slice A0 l0.length c0] rfl (by (try simp only [List.map_toArray,List.map_cons,List.map_nil]);first|done|rfl|(simp only [List.length_drop,List.length_take];rfl)) ?_;(with_reducible refine (gimbalref90_NLen.calls k _ _ l0 t222 _ ?side1 ?side2 A19.out).mono ?_);(case side1=>repeat (first|exact (Kd.V_reads' HO0.out).2.2|(with_reducible refine Kd.C_alloc ?_ _)|(with_reducible refine Kd.C_drewN ?_ _)|(with_reducible refine Kd.C_drew ?_)));(case side2=>exact (Kd.V_reads' HO0.out).2.1);rintro e w' ⟨rfl,⟨nd,rfl⟩⟩;refine ⟨_,rfl,?_⟩)|((with_reducible refine gate_callee (f:=132) rfl ?_);refine goesL_ (some 36) rfl rfl Try.func132 (by kernel_rfl) rfl #[.slice A1 l1.length c1] rfl (by (try simp only [List.map_toArray,List.map_cons,List.map_nil]);first|done|rfl|(simp only [List.length_drop,List.length_take];rfl)) ?_;(with_reducible refine (gimbalref90_NLen.calls k _ _ l1 t223 _ ?side1 ?side2 A20.out).mono ?_);(case side1=>repeat (first|exact (Kd.C_below HR1.out (by repeat (first|(with_reducible first|exact HB.out|apply below_alloc|apply pw_below_drewN|apply below_drew1)|exact HB.out)))|(with_reducible refine Kd.C_alloc ?_ _)|(with_reducible refine Kd.C_drewN ?_ _)|(with_reducible refine Kd.C_drew ?_)));(case side2=>exact HC1.out);rintro e w' ⟨rfl,⟨nd,rfl⟩⟩;refine ⟨_,rfl,?_⟩))
      go_ret2
      exact ⟨_,_,by first|rfl|(simp [errW_none,errW_some]<;>rfl)|(simp [*,errW_none,errW_some]<;>rfl),by first|exact Kd.R_nil _ _ _ _ _|exact Kd.N_nil _ _ _ _ _|exact Kd.V_nil _ _ _ _ _|exact Kd.Q_nil _ _ _ _ _|exact Kd.S_nil _ _ _ _ _,by (with_reducible repeat (first|apply Kd.V_alloc|apply Kd.V_drewN|apply Kd.V_drew));exact Kd.V_mono HO0.out (fun _ hk=>⟨hk.1,(by simp [Value.ownBlock])⟩),by repeat (first|(with_reducible first|exact HB.out|apply below_alloc|apply pw_below_drewN|apply below_drew1)|exact HB.out)⟩
    · rw [if_neg c21] at H
      have c21b0:decide ((wrap64 (t222-t223))<0)=false:=decide_eq_false c21
      clear c21
      obtain ⟨ji24,hji24⟩:∃ j_:Int,(wrap64 ((wrap64 (Int.tdiv (wrap64 (t222-t223)) 64))+1))=j_:=⟨_,rfl⟩
      replace H:(if 0≤(ji24) then (if (ji24:Int).toNat≤35184372088832 then ((gimbalref90_Up2.f k l1 (wrap64 (t222-t223))).bind fun t227=>(gimbalref90_NDivide.l0 k (List.replicate (ji24:Int).toNat 0) l0 t227 (wrap64 (t222-t223)))) else (none)) else (none))=some (r1,r2):=by first|(rw [hji24] at H;exact H)|(simp only [hji24] at H ⊢;exact H)
      (try rw [hji24] at A3)
      (try rw [hji24] at A19)
      (try rw [hji24] at A20)
      have hji24w:(IntKind.i64.wrap ((wrap64 (Int.tdiv (wrap64 (t222-t223)) 64))+1))=ji24:=(i64_w _).trans hji24
      by_cases c25:0≤(ji24)
      · rw [if_pos c25] at H
        have c25b0:=eq_true c25
        have c25b1:decide (0≤(ji24))=true:=decide_eq_true c25
        clear c25
        by_cases c26:(ji24:Int).toNat≤35184372088832
        · rw [if_pos c26] at H
          have c26b0:=eq_true c26
          have c26b1:decide ((ji24:Int).toNat≤35184372088832)=true:=decide_eq_true c26
          clear c26
          obtain ⟨y224,hy224⟩:∃ y_:List Int,y_=(List.replicate (ji24:Int).toNat 0):=⟨_,rfl⟩
          replace H:((gimbalref90_Up2.f k l1 (wrap64 (t222-t223))).bind fun t227=>(gimbalref90_NDivide.l0 k y224 l0 t227 (wrap64 (t222-t223))))=some (r1,r2):=by first|(rw [hy224];with_reducible exact H)|(have H2_:=(Option.bind_some _ _).symm.trans H;rw [hy224];with_reducible exact H2_)|(have H2_:=(Option.bind_some _ _).symm.trans H;with_reducible exact H2_)|with_reducible exact H|(rw [hy224];exact H)|exact H
          have Ny224:=Aside0.mk hy224
          clear hy224
          replace H:=Option.bind_eq_some_iff.mp H
          obtain ⟨t227,A270,H⟩:=H
          replace H:(gimbalref90_NDivide.l0 k y224 l0 t227 (wrap64 (t222-t223)))=some (r1,r2):=H
          have A27:=Aside0.mk A270
          clear A270
          have H':=Aside0.mk H
          clear H
          go_enter Try.func114,Try.ntmps114
          go_wp2_with (first|((with_reducible refine gate_callee (f:=108) rfl ?_);refine goesL_ (some 15) rfl rfl Try.func108 (by kernel_rfl) rfl #[.slice A1 l1.length c1] rfl (by (try simp only [List.map_toArray,List.map_cons,List.map_nil]);first|done|rfl|(simp only [List.length_drop,List.length_take];rfl)) ?_;(with_reducible refine (gimbalref90_halves.calls k _ _ l1 t205 _ ?side1 ?side2 A3.out).mono ?_);(case side1=>repeat (first|exact HR1.out|(with_reducible refine Kd.C_alloc ?_ _)|(with_reducible refine Kd.C_drewN ?_ _)|(with_reducible refine Kd.C_drew ?_)));(case side2=>exact HC1.out);rintro e w28 ⟨v206,rfl,ho0,hb⟩;refine ⟨_,rfl,?_⟩;have n0_:=Aside0.mk (Kd.V_elder' (by (with_reducible repeat (first|apply Kd.V_alloc|apply Kd.V_drewN|apply Kd.V_drew));exact HO0.out) (Kd.R_base ho0) hb);have n1_:=Aside0.mk (Kd.R_lower (Kd.R_newM (M:=fun k_=>(w.heap.size≤k_)) ho0 (below_size (by repeat (first|(with_reducible first|exact HB.out|apply below_alloc|apply pw_below_drewN|apply below_drew1)|exact HB.out))) (fun k_ h_=>h_)) (below_size (by repeat (first|(with_reducible first|exact HB.out|apply below_alloc|apply pw_below_drewN|apply below_drew1)|exact HB.out))));have n2_:=Aside0.mk (below_step (by repeat (first|(with_reducible first|exact HB.out|apply below_alloc|apply pw_below_drewN|apply below_drew1)|exact HB.out)) hb);clear HO0;clear HB;have HO0:=n0_;have HO207:=n1_;have HB:=n2_;clear n0_ n1_ n2_;(try clear hb);(try clear hb2);(try clear hk);(try clear hi);(try clear ho0);obtain ⟨Ao29,co29,eo29⟩:=Kd.R_slice HO207.out;subst eo29)|((with_reducible refine gate_callee (f:=132) rfl ?_);refine goesL_ (some 34) rfl rfl Try.func132 (by kernel_rfl) rfl #[.slice A0 l0.length c0] rfl (by (try simp only [List.map_toArray,List.map_cons,List.map_nil]);first|done|rfl|(simp only [List.length_drop,List.length_take];rfl)) ?_;(with_reducible refine (gimbalref90_NLen.calls k _ _ l0 t222 _ ?side1 ?side2 A19.out).mono ?_);(case side1=>repeat (first|exact (Kd.V_reads' HO0.out).2.2|(with_reducible refine Kd.C_alloc ?_ _)|(with_reducible refine Kd.C_drewN ?_ _)|(with_reducible refine Kd.C_drew ?_)));(case side2=>exact (Kd.V_reads' HO0.out).2.1);rintro e w' ⟨rfl,⟨nd,rfl⟩⟩;refine ⟨_,rfl,?_⟩)|((with_reducible refine gate_callee (f:=132) rfl ?_);refine goesL_ (some 36) rfl rfl Try.func132 (by kernel_rfl) rfl #[.slice A1 l1.length c1] rfl (by (try simp only [List.map_toArray,List.map_cons,List.map_nil]);first|done|rfl|(simp only [List.length_drop,List.length_take];rfl)) ?_;(with_reducible refine (gimbalref90_NLen.calls k _ _ l1 t223 _ ?side1 ?side2 A20.out).mono ?_);(case side1=>repeat (first|exact (Kd.C_below HR1.out (by repeat (first|(with_reducible first|exact HB.out|apply below_alloc|apply pw_below_drewN|apply below_drew1)|exact HB.out)))|(with_reducible refine Kd.C_alloc ?_ _)|(with_reducible refine Kd.C_drewN ?_ _)|(with_reducible refine Kd.C_drew ?_)));(case side2=>exact HC1.out);rintro e w' ⟨rfl,⟨nd,rfl⟩⟩;refine ⟨_,rfl,?_⟩)|((with_reducible refine gate_dst (N:=44) rfl ?_);refine Kd.R_make (Kd.int .u64) _ 104 rfl (N:=44) rfl 89 _ _ rfl ji24 rfl rfl Try.underlying89 (.int .u64 0) 8 info104 rfl (by decide) (by omega) 0 (ok:=fun _=>True) (okp:=fun _=>True) rfl (fun _ hk=>hk) trivial (of_decide_eq_true (by first|(with_reducible assumption)|assumption)) (Nat.le_trans (Nat.mul_le_mul_right _ (of_decide_eq_true (by first|(with_reducible assumption)|assumption):ji24.toNat≤35184372088832)) (by omega)) (Below.refl _ _) (Nat.le_refl _) ?_;intro v225 w30 ho31 hb hg_ hnew_;clear hg_ hnew_;(first|rw [← Ny224.out] at ho31|(simp only [Int.reduceToNat] at ho31;rw [← Ny224.out] at ho31));have n0_:=Aside0.mk (Kd.V_elder' (by (with_reducible repeat (first|apply Kd.V_alloc|apply Kd.V_drewN|apply Kd.V_drew));exact HO0.out) (Kd.R_base ho31) hb);have n1_:=Aside0.mk (Kd.R_below (by (with_reducible repeat (first|apply Kd.R_alloc|apply Kd.R_drewN|apply Kd.R_drew));exact HO207.out) hb);have n2_:=Aside0.mk (Kd.R_lower (Kd.R_newM (M:=fun k_=>(w.heap.size≤k_)) ho31 (below_size (by repeat (first|(with_reducible first|exact HB.out|apply below_alloc|apply pw_below_drewN|apply below_drew1)|exact HB.out))) (fun k_ h_=>h_)) (below_size (by repeat (first|(with_reducible first|exact HB.out|apply below_alloc|apply pw_below_drewN|apply below_drew1)|exact HB.out))));have n3_:=Aside0.mk (below_step (by repeat (first|(with_reducible first|exact HB.out|apply below_alloc|apply pw_below_drewN|apply below_drew1)|exact HB.out)) hb);clear HO0;clear HO207;clear HB;have HO0:=n0_;have HO207:=n1_;have HO226:=n2_;have HB:=n3_;clear n0_ n1_ n2_ n3_;clear hb ho31)|((with_reducible refine gate_callee (f:=87) rfl ?_);refine goesL_ (some 48) rfl rfl Try.func87 (by kernel_rfl) rfl #[.slice A1 l1.length c1,.int .i64 (wrap64 (t222-t223))] rfl (by (try simp only [List.map_toArray,List.map_cons,List.map_nil]);first|done|rfl|(simp only [List.length_drop,List.length_take];rfl)) ?_;(with_reducible refine (gimbalref90_Up2.calls k _ _ l1 (wrap64 (t222-t223)) t227 _ ?side1 ?side2 A27.out).mono ?_);(case side1=>repeat (first|exact (Kd.C_below HR1.out HB.out)|(with_reducible refine Kd.C_alloc ?_ _)|(with_reducible refine Kd.C_drewN ?_ _)|(with_reducible refine Kd.C_drew ?_)));(case side2=>exact HC1.out);rintro e w32 ⟨v228,rfl,ho0,hb⟩;refine ⟨_,rfl,?_⟩;have n0_:=Aside0.mk (Kd.V_elder' (by (with_reducible repeat (first|apply Kd.V_alloc|apply Kd.V_drewN|apply Kd.V_drew));exact HO0.out) (Kd.R_base ho0) hb);have n1_:=Aside0.mk (Kd.R_below (by (with_reducible repeat (first|apply Kd.R_alloc|apply Kd.R_drewN|apply Kd.R_drew));exact HO207.out) hb);have n2_:=Aside0.mk (Kd.R_elder' (by (with_reducible repeat (first|apply Kd.R_alloc|apply Kd.R_drewN|apply Kd.R_drew));exact HO226.out) (Kd.R_base ho0) hb);have n3_:=Aside0.mk (Kd.R_lower (Kd.R_new' (Kd.R_newM (M:=fun k_=>(w.heap.size≤k_)) ho0 (below_size (by repeat (first|(with_reducible first|exact HB.out|apply below_alloc|apply pw_below_drewN|apply below_drew1)|exact HB.out))) (fun k_ h_=>h_)) (Kd.R_lt (by (with_reducible repeat (first|apply Kd.R_alloc|apply Kd.R_drewN|apply Kd.R_drew));exact HO226.out))) (below_size (by repeat (first|(with_reducible first|exact HB.out|apply below_alloc|apply pw_below_drewN|apply below_drew1)|exact HB.out))));have n4_:=Aside0.mk (below_step (by repeat (first|(with_reducible first|exact HB.out|apply below_alloc|apply pw_below_drewN|apply below_drew1)|exact HB.out)) hb);clear HO0;clear HO207;clear HO226;clear HB;have HO0:=n0_;have HO207:=n1_;have HO226:=n2_;have HO229:=n3_;have HB:=n4_;clear n0_ n1_ n2_ n3_ n4_;(try clear hb);(try clear hb2);(try clear hk);(try clear hi);(try clear ho0)))
          go_loopg [11,12,13] k (fun kq v11 v12 v13 w'=>∃ (x10_1:List Int) (x11_1:List Int) (x12_1:List Int) (x13_1:Int),v13 = .int .i64 x13_1∧Aside0 (gimbalref90_NDivide.l0 kq x10_1 x11_1 x12_1 x13_1=some (r1,r2))∧Aside0 (kq≤k)∧Aside0 (Kd.R (Kd.int .u64) 104 w' w.heap.size (fun k_=>(w.heap.size≤k_)∧some k_≠(v12:Value).ownBlock) v225 x10_1)∧Aside0 (Kd.V (Kd.int .u64) 104 w' w.heap.size (fun k_=>(P0_ k_∨w.heap.size≤k_)∧some k_≠(v225:Value).ownBlock∧some k_≠(v12:Value).ownBlock) v11 x11_1)∧Aside0 (Kd.R (Kd.int .u64) 104 w' w.heap.size (fun k_=>(w.heap.size≤k_)∧some k_≠(v225:Value).ownBlock) v12 x12_1)∧Aside0 (Below w.heap.size w w'))
          case atStart=>exact ⟨(y224),(l0),(t227),(wrap64 (t222-t223)),(by first|rfl|(simp;done)|(simp [*];done)),H',⟨Nat.le_refl _⟩,⟨by (with_reducible repeat (first|apply Kd.R_alloc|apply Kd.R_drewN|apply Kd.R_drew));exact Kd.R_mono HO226.out (fun _ hk=>⟨hk.1.1,hk.2⟩)⟩,⟨by (with_reducible repeat (first|apply Kd.V_alloc|apply Kd.V_drewN|apply Kd.V_drew));exact Kd.V_mono HO0.out (fun _ hk=>⟨hk.1.1.1,⟨hk.1.2,hk.2⟩⟩)⟩,⟨by (with_reducible repeat (first|apply Kd.R_alloc|apply Kd.R_drewN|apply Kd.R_drew));exact Kd.R_mono HO229.out (fun _ hk=>⟨hk.1.1,hk.2⟩)⟩,⟨by repeat (first|(with_reducible first|exact HB.out|apply below_alloc|apply pw_below_drewN|apply below_drew1)|exact HB.out)⟩⟩
          case round =>
            clear H'
            try clear c1
            try clear c2
            try clear p2
            try clear q2
            try clear hx2
            try clear qi2
            try clear c4
            try clear c4b0
            try clear c4b1
            try clear c6
            try clear c6b0
            try clear c6b1
            try clear p6
            try clear c7
            try clear c8
            try clear c10
            try clear c11
            try clear c13
            try clear c21
            try clear c21b0
            try clear p21
            try clear q21
            try clear hx21
            try clear qi21
            try clear c25
            try clear c25b0
            try clear c25b1
            try clear c26
            try clear c26b0
            try clear c26b1
            try clear hx211_0
            try clear p211
            try clear q211
            obtain ⟨x10_1,x11_1,x12_1,x13_1,rfl,HA,HK1,HO_10,HO_11,HO_12,HB⟩:=hrel
            cases gk with
            | zero=>exact absurd HA.out (by simp [gimbalref90_NDivide.l0])
            | succ k1 =>
              have H:=HA.out
              clear HA
              simp only [gimbalref90_NDivide.l0] at H
              by_cases c33:x13_1≥0
              · rw [if_pos c33] at H
                have c33b0:decide (0≤x13_1)=true:=decide_eq_true c33
                clear c33
                replace H:=Option.bind_eq_some_iff.mp H
                obtain ⟨t233,A340,H⟩:=H
                replace H:(if t233≥0 then ((gimbalref90_NLess.f k1 x11_1 x12_1).bind fun t234=>(if 0≤(wrap64 (Int.tdiv x13_1 64)) then (if (wrap64 (Int.tdiv x13_1 64))<(x10_1.length:Int) then (if 0≤(IntKind.u64.wrap (Int.tmod x13_1 64)) then ((gimbalref90_Down2.f k1 x12_1 1).bind fun t239=>(gimbalref90_NDivide.l0 k1 (x10_1.set ((wrap64 (Int.tdiv x13_1 64)):Int).toNat (Go.bits .or .u64 (rd x10_1 (wrap64 (Int.tdiv x13_1 64))) (shl .u64 1 (IntKind.u64.wrap (Int.tmod x13_1 64))))) t234 t239 (wrap64 (x13_1-1)))) else (none)) else (none)) else (none))) else ((gimbalref90_Down2.f k1 x12_1 1).bind fun t242=>(gimbalref90_NDivide.l0 k1 x10_1 x11_1 t242 (wrap64 (x13_1-1)))))=some (r1,r2):=H
                have A34:=Aside0.mk A340
                clear A340
                by_cases c35:t233≥0
                · rw [if_pos c35] at H
                  have c35b0:decide (0≤t233)=true:=decide_eq_true c35
                  clear c35
                  replace H:=Option.bind_eq_some_iff.mp H
                  obtain ⟨t234,A360,H⟩:=H
                  replace H:(if 0≤(wrap64 (Int.tdiv x13_1 64)) then (if (wrap64 (Int.tdiv x13_1 64))<(x10_1.length:Int) then (if 0≤(IntKind.u64.wrap (Int.tmod x13_1 64)) then ((gimbalref90_Down2.f k1 x12_1 1).bind fun t239=>(gimbalref90_NDivide.l0 k1 (x10_1.set ((wrap64 (Int.tdiv x13_1 64)):Int).toNat (Go.bits .or .u64 (rd x10_1 (wrap64 (Int.tdiv x13_1 64))) (shl .u64 1 (IntKind.u64.wrap (Int.tmod x13_1 64))))) t234 t239 (wrap64 (x13_1-1)))) else (none)) else (none)) else (none))=some (r1,r2):=H
                  have A36:=Aside0.mk A360
                  clear A360
                  obtain ⟨ji37,hji37⟩:∃ j_:Int,(wrap64 (Int.tdiv x13_1 64))=j_:=⟨_,rfl⟩
                  replace H:(if 0≤(ji37) then (if (ji37)<(x10_1.length:Int) then (if 0≤(IntKind.u64.wrap (Int.tmod x13_1 64)) then ((gimbalref90_Down2.f k1 x12_1 1).bind fun t239=>(gimbalref90_NDivide.l0 k1 (x10_1.set ((ji37):Int).toNat (Go.bits .or .u64 (rd x10_1 (ji37)) (shl .u64 1 (IntKind.u64.wrap (Int.tmod x13_1 64))))) t234 t239 (wrap64 (x13_1-1)))) else (none)) else (none)) else (none))=some (r1,r2):=by first|(rw [hji37] at H;exact H)|(simp only [hji37] at H ⊢;exact H)
                  (try rw [hji37] at A34)
                  (try rw [hji37] at A36)
                  have hji37w:(IntKind.i64.wrap (Int.tdiv x13_1 64))=ji37:=(i64_w _).trans hji37
                  by_cases c38:0≤(ji37)
                  · rw [if_pos c38] at H
                    have c38b0:decide (0≤(ji37))=true:=decide_eq_true c38
                    clear c38
                    by_cases c39:(ji37)<(x10_1.length:Int)
                    · rw [if_pos c39] at H
                      have c39b0:decide ((ji37)<(x10_1.length:Int))=true:=decide_eq_true c39
                      clear c39
                      obtain ⟨ji40,hji40⟩:∃ j_:Int,(IntKind.u64.wrap (Int.tmod x13_1 64))=j_:=⟨_,rfl⟩
                      replace H:(if 0≤(ji40) then ((gimbalref90_Down2.f k1 x12_1 1).bind fun t239=>(gimbalref90_NDivide.l0 k1 (x10_1.set ((ji37):Int).toNat (Go.bits .or .u64 (rd x10_1 (ji37)) (shl .u64 1 (ji40)))) t234 t239 (wrap64 (x13_1-1)))) else (none))=some (r1,r2):=by first|(rw [hji40] at H;exact H)|(simp only [hji40] at H ⊢;exact H)
                      (try rw [hji40] at A34)
                      (try rw [hji40] at A36)
                      by_cases c41:0≤(ji40)
                      · rw [if_pos c41] at H
                        have c41b0:=eq_true c41
                        have c41b1:decide (0≤(ji40))=true:=decide_eq_true c41
                        clear c41
                        obtain ⟨ji42,hji42⟩:∃ j_:Int,(shl .u64 1 (ji40))=j_:=⟨_,rfl⟩
                        replace H:((gimbalref90_Down2.f k1 x12_1 1).bind fun t239=>(gimbalref90_NDivide.l0 k1 (x10_1.set ((ji37):Int).toNat (Go.bits .or .u64 (rd x10_1 (ji37)) (ji42))) t234 t239 (wrap64 (x13_1-1))))=some (r1,r2):=by first|(rw [hji42] at H;exact H)|(simp only [hji42] at H ⊢;exact H)
                        (try rw [hji42] at A34)
                        (try rw [hji42] at A36)
                        have hji42_:(IntKind.u64.wrap (1*2 ^ min (ji40).toNat 64))=ji42:=hji42
                        have hji42z:(ji40)≤64→(IntKind.u64.wrap (1*2 ^ (ji40).toNat))=ji42:=shl_small hji42
                        have hji42u:(IntKind.u64.wrap (2 ^ min (ji40).toNat 64))=ji42:=by have h_:=hji42_;rw [Int.one_mul] at h_;exact h_
                        have hji42v:(ji40)≤64→(IntKind.u64.wrap (2 ^ (ji40).toNat))=ji42:=fun hle_=>by have h_:=hji42z hle_;rw [Int.one_mul] at h_;exact h_
                        obtain ⟨y238,hy238⟩:∃ y_:List Int,y_=(x10_1.set ((ji37):Int).toNat (Go.bits .or .u64 (rd x10_1 (ji37)) (ji42))):=⟨_,rfl⟩
                        replace H:((gimbalref90_Down2.f k1 x12_1 1).bind fun t239=>(gimbalref90_NDivide.l0 k1 y238 t234 t239 (wrap64 (x13_1-1))))=some (r1,r2):=by first|(rw [hy238];with_reducible exact H)|(have H2_:=(Option.bind_some _ _).symm.trans H;rw [hy238];with_reducible exact H2_)|(have H2_:=(Option.bind_some _ _).symm.trans H;with_reducible exact H2_)|with_reducible exact H|(rw [hy238];exact H)|exact H
                        have Ny238:=Aside0.mk hy238
                        clear hy238
                        replace H:=Option.bind_eq_some_iff.mp H
                        obtain ⟨t239,A440,H⟩:=H
                        replace H:(gimbalref90_NDivide.l0 k1 y238 t234 t239 (wrap64 (x13_1-1)))=some (r1,r2):=H
                        have A44:=Aside0.mk A440
                        clear A440
                        have H':=Aside0.mk H
                        clear H
                        obtain ⟨Ao45,co45,eo45⟩:=Kd.V_slice HO_11.out
                        subst eo45
                        obtain ⟨Ao46,co46,eo46⟩:=Kd.R_slice HO_12.out
                        subst eo46
                        go_wp2_with (first|((with_reducible refine gate_callee (f:=82) rfl ?_);refine goesL_ (some 56) rfl rfl Try.func82 (by kernel_rfl) rfl #[.slice Ao45 x11_1.length co45,.slice Ao46 x12_1.length co46] rfl (by (try simp only [List.map_toArray,List.map_cons,List.map_nil]);first|done|rfl|(simp only [List.length_drop,List.length_take];rfl)) ?_;(with_reducible refine (gimbalref90_NCmp.calls k1 _ _ x11_1 _ _ x12_1 t233 _ ?side1 ?side2 ?side3 ?side4 A34.out).mono ?_);(case side1=>repeat (first|exact (Kd.V_reads' HO_11.out).2.2|(with_reducible refine Kd.C_alloc ?_ _)|(with_reducible refine Kd.C_drewN ?_ _)|(with_reducible refine Kd.C_drew ?_)));(case side2=>exact (Kd.V_reads' HO_11.out).2.1);(case side3=>repeat (first|exact (Kd.R_reads' HO_12.out).2.2|(with_reducible refine Kd.C_alloc ?_ _)|(with_reducible refine Kd.C_drewN ?_ _)|(with_reducible refine Kd.C_drew ?_)));(case side4=>exact (Kd.R_reads' HO_12.out).2.1);rintro e w' ⟨rfl,⟨nd,rfl⟩⟩;refine ⟨_,rfl,?_⟩;(try (rw [drewN_self wr];generalize hq_:World.drewN wr _=wr;have n0_:Aside0 (Kd.R (Kd.int .u64) 104 wr w.heap.size (fun k_=>(w.heap.size≤k_)∧some k_≠(.slice Ao46 x12_1.length co46:Value).ownBlock) v225 x10_1):=⟨by rw [← hq_];exact (by (with_reducible repeat (first|apply Kd.R_alloc|apply Kd.R_drewN|apply Kd.R_drew));exact HO_10.out)⟩;have n1_:Aside0 (Kd.V (Kd.int .u64) 104 wr w.heap.size (fun k_=>(P0_ k_∨w.heap.size≤k_)∧some k_≠(v225:Value).ownBlock∧some k_≠(.slice Ao46 x12_1.length co46:Value).ownBlock) (.slice Ao45 x11_1.length co45) x11_1):=⟨by rw [← hq_];exact (by (with_reducible repeat (first|apply Kd.V_alloc|apply Kd.V_drewN|apply Kd.V_drew));exact HO_11.out)⟩;have n2_:Aside0 (Kd.R (Kd.int .u64) 104 wr w.heap.size (fun k_=>(w.heap.size≤k_)∧some k_≠(v225:Value).ownBlock) (.slice Ao46 x12_1.length co46) x12_1):=⟨by rw [← hq_];exact (by (with_reducible repeat (first|apply Kd.R_alloc|apply Kd.R_drewN|apply Kd.R_drew));exact HO_12.out)⟩;have n3_:Aside0 (Below w.heap.size w wr):=⟨by rw [← hq_];exact (by repeat (first|(with_reducible first|exact HB.out|apply below_alloc|apply pw_below_drewN|apply below_drew1)|exact HB.out))⟩;clear HO_10 HO_11 HO_12 HB hq_;have HO_10:=n0_;have HO_11:=n1_;have HO_12:=n2_;have HB:=n3_;clear n0_ n1_ n2_ n3_)))|((with_reducible refine gate_callee (f:=83) rfl ?_);refine goesL_ (some 60) rfl rfl Try.func83 (by kernel_rfl) rfl #[.slice Ao45 x11_1.length co45,.slice Ao46 x12_1.length co46] rfl (by (try simp only [List.map_toArray,List.map_cons,List.map_nil]);first|done|rfl|(simp only [List.length_drop,List.length_take];rfl)) ?_;(with_reducible refine (gimbalref90_NLess.calls k1 _ _ x11_1 _ _ x12_1 t234 _ ?side1 ?side2 ?side3 ?side4 A36.out).mono ?_);(case side1=>repeat (first|exact (Kd.V_reads' HO_11.out).2.2|(with_reducible refine Kd.C_alloc ?_ _)|(with_reducible refine Kd.C_drewN ?_ _)|(with_reducible refine Kd.C_drew ?_)));(case side2=>exact (Kd.V_reads' HO_11.out).2.1);(case side3=>repeat (first|exact (Kd.R_reads' HO_12.out).2.2|(with_reducible refine Kd.C_alloc ?_ _)|(with_reducible refine Kd.C_drewN ?_ _)|(with_reducible refine Kd.C_drew ?_)));(case side4=>exact (Kd.R_reads' HO_12.out).2.1);rintro e w47 ⟨v235,rfl,ho0,hb⟩;refine ⟨_,rfl,?_⟩;have n0_:=Aside0.mk (Kd.R_elder' (by (with_reducible repeat (first|apply Kd.R_alloc|apply Kd.R_drewN|apply Kd.R_drew));exact HO_10.out) (Kd.R_base ho0) hb);have n1_:=Aside0.mk (Kd.V_elder' (by (with_reducible repeat (first|apply Kd.V_alloc|apply Kd.V_drewN|apply Kd.V_drew));exact HO_11.out) (Kd.R_base ho0) hb);have n2_:=Aside0.mk (Kd.R_elder' (by (with_reducible repeat (first|apply Kd.R_alloc|apply Kd.R_drewN|apply Kd.R_drew));exact HO_12.out) (Kd.R_base ho0) hb);have n3_:=Aside0.mk (Kd.R_lower (Kd.R_new' (Kd.R_new' (Kd.R_newM (M:=fun k_=>(w.heap.size≤k_)) ho0 (below_size (by repeat (first|(with_reducible first|exact HB.out|apply below_alloc|apply pw_below_drewN|apply below_drew1)|exact HB.out))) (fun k_ h_=>h_)) (Kd.R_lt (by (with_reducible repeat (first|apply Kd.R_alloc|apply Kd.R_drewN|apply Kd.R_drew));exact HO_10.out))) (Kd.R_lt (by (with_reducible repeat (first|apply Kd.R_alloc|apply Kd.R_drewN|apply Kd.R_drew));exact HO_12.out))) (below_size (by repeat (first|(with_reducible first|exact HB.out|apply below_alloc|apply pw_below_drewN|apply below_drew1)|exact HB.out))));have n4_:=Aside0.mk (below_step (by repeat (first|(with_reducible first|exact HB.out|apply below_alloc|apply pw_below_drewN|apply below_drew1)|exact HB.out)) hb);clear HO_10;clear HO_11;clear HO_12;clear HB;have HO_10:=n0_;have HO_11:=n1_;have HO_12:=n2_;have HO236:=n3_;have HB:=n4_;clear n0_ n1_ n2_ n3_ n4_;(try clear hb);(try clear hb2);(try clear hk);(try clear hi);(try clear ho0);obtain ⟨Ao48,co48,eo48⟩:=Kd.R_slice HO_10.out;subst eo48;have p237:0≤((ji37):Int):=of_decide_eq_true (by first|(with_reducible assumption)|assumption);have q237:(ji37)<(x10_1.length:Int):=of_decide_eq_true (by first|(with_reducible assumption)|assumption);obtain ⟨ad237,e237,hx237_0⟩:=Kd.at_int (Kd.R_reads' HO_10.out).2.2 (ji37) p237 q237;cases e237;replace p237:=eq_true p237;replace q237:=eq_true q237;have p43:0≤((ji37):Int):=of_decide_eq_true (by first|(with_reducible assumption)|assumption);have q43:((ji37):Int)<((x10_1.length:Int):Int):=of_decide_eq_true (by first|(with_reducible assumption)|assumption);obtain ⟨go43,co43,eo43,gb43,gl43,cl43,HG43⟩:=Kd.R_form HO_10.out (by omega);(first|cases eo43|(injection eo43 with ea_ en_ ec_;(first|subst ea_|(injection ea_ with ea_;subst ea_));subst ec_;clear en_));have GB43:=Aside0.mk gb43;have GG43:=Aside0.mk HG43;clear gb43 gl43 HG43;(first|simp only [add_plain] at hx237_0|skip);obtain ⟨hx43_0,hf43_0⟩:=Kd.R_celln 0 HO_10.out ((ji37):Int) p43 q43;replace p43:=eq_true p43;replace q43:=eq_true q43;have n_:=Aside0.mk (Kd.R_mono (ok':=(fun k_=>(w.heap.size≤k_)∧some k_≠(.slice Ao46 x12_1.length co46:Value).ownBlock∧some k_≠(v235:Value).ownBlock)) HO_10.out (fun k_ hk=>⟨hk.1.1,⟨hk.1.2,hk.2⟩⟩));clear HO_10;have HO_10:=n_;clear n_;obtain ⟨hy49_,hz49_⟩:=Kd.R_celln 0 HO_10.out ((ji37):Int) (of_decide_eq_true (by first|(with_reducible assumption)|assumption)) (of_decide_eq_true (by first|(with_reducible assumption)|assumption));have HP49:=Kd.R_putg HO_10.out ((ji37):Int) (Go.bits .or .u64 (rd x10_1 (ji37)) (ji42)))|((with_reducible refine gate_store (t:=104) (p:=74) rfl ?_);refine store_event (t:=104) (p:=74) (v:=?vo_w50) (w1:=(w47.setCell ⟨go43,((ji37):Int).toNat,none⟩ (.int .u64 (Go.bits .or .u64 (rd x10_1 (ji37)) (ji42))))) ?hg ?ho ?hn ?hr ?_;(case ho=>rfl);(case hg=>rfl);(case hn=>rfl);(case hr=>first|(go_simp;done)|(go_simp;rfl));intro w50 hw;have hg:w47.grownBy w50 (some go43):=(by rw [hw];exact HP49.2);have hp_:Kd.R (Kd.int .u64) 104 w50 w.heap.size (fun k_=>(w.heap.size≤k_)∧some k_≠(.slice Ao46 x12_1.length co46:Value).ownBlock∧some k_≠(v235:Value).ownBlock) (.slice (some ⟨go43,0,none⟩) x10_1.length co48) y238:=(by rw [hw,Ny238.out];exact HP49.1);clear HP49;have n0_:=Aside0.mk (hp_);have n1_:=Aside0.mk (Kd.V_afterv (v:=(.slice (some ⟨go43,0,none⟩) x10_1.length co48)) (v1:=(.slice (some ⟨go43,0,none⟩) x10_1.length co48)) (ok:=(fun k_=>(P0_ k_∨w.heap.size≤k_)∧some k_≠(.slice Ao46 x12_1.length co46:Value).ownBlock∧some k_≠(v235:Value).ownBlock)) (by (with_reducible repeat (first|apply Kd.V_alloc|apply Kd.V_drewN|apply Kd.V_drew));exact Kd.V_mono HO_11.out (fun _ hk=>⟨⟨hk.1.1,⟨hk.1.2.2,hk.2⟩⟩,hk.1.2.1⟩)) hg (.inl rfl));have n2_:=Aside0.mk (Kd.R_after (v:=(.slice (some ⟨go43,0,none⟩) x10_1.length co48)) (v1:=(.slice (some ⟨go43,0,none⟩) x10_1.length co48)) (ok:=(fun k_=>(w.heap.size≤k_)∧some k_≠(v235:Value).ownBlock)) (by (with_reducible repeat (first|apply Kd.R_alloc|apply Kd.R_drewN|apply Kd.R_drew));exact Kd.R_mono HO_12.out (fun _ hk=>⟨⟨hk.1.1,hk.2⟩,hk.1.2⟩)) hg (.inl rfl));have n3_:=Aside0.mk (Kd.R_after (v:=(.slice (some ⟨go43,0,none⟩) x10_1.length co48)) (v1:=(.slice (some ⟨go43,0,none⟩) x10_1.length co48)) (ok:=(fun k_=>(w.heap.size≤k_)∧some k_≠(.slice Ao46 x12_1.length co46:Value).ownBlock)) (by (with_reducible repeat (first|apply Kd.R_alloc|apply Kd.R_drewN|apply Kd.R_drew));exact Kd.R_mono HO236.out (fun _ hk=>⟨⟨hk.1.1.1,hk.2⟩,hk.1.2⟩)) hg (.inl rfl));have n4_:=Aside0.mk ((by rw [hw];exact below_set (HB.out) GB43.out:Below w.heap.size w w50));clear HO_10;clear HO_11;clear HO_12;clear HO236;clear HB;have HO_10:=n0_;have HO_11:=n1_;have HO_12:=n2_;have HO236:=n3_;have HB:=n4_;clear n0_ n1_ n2_ n3_ n4_;clear hg hw hp_)|((with_reducible refine gate_callee (f:=133) rfl ?_);refine goesL_ (some 76) rfl rfl Try.func133 (by kernel_rfl) rfl #[.slice Ao46 x12_1.length co46,.int .i64 1] rfl (by (try simp only [List.map_toArray,List.map_cons,List.map_nil]);first|done|rfl|(simp only [List.length_drop,List.length_take];rfl)) ?_;(with_reducible refine (gimbalref90_Down2.calls k1 _ _ x12_1 1 t239 _ ?side1 ?side2 A44.out).mono ?_);(case side1=>repeat (first|exact (Kd.R_reads' HO_12.out).2.2|(with_reducible refine Kd.C_alloc ?_ _)|(with_reducible refine Kd.C_drewN ?_ _)|(with_reducible refine Kd.C_drew ?_)));(case side2=>exact (Kd.R_reads' HO_12.out).2.1);rintro e w51 ⟨v240,rfl,ho0,hb⟩;refine ⟨_,rfl,?_⟩;have n0_:=Aside0.mk (Kd.R_elder' (by (with_reducible repeat (first|apply Kd.R_alloc|apply Kd.R_drewN|apply Kd.R_drew));exact HO_10.out) (Kd.R_base ho0) hb);have n1_:=Aside0.mk (Kd.V_elder' (by (with_reducible repeat (first|apply Kd.V_alloc|apply Kd.V_drewN|apply Kd.V_drew));exact HO_11.out) (Kd.R_base ho0) hb);have n2_:=Aside0.mk (Kd.R_elder' (by (with_reducible repeat (first|apply Kd.R_alloc|apply Kd.R_drewN|apply Kd.R_drew));exact HO_12.out) (Kd.R_base ho0) hb);have n3_:=Aside0.mk (Kd.R_elder' (by (with_reducible repeat (first|apply Kd.R_alloc|apply Kd.R_drewN|apply Kd.R_drew));exact HO236.out) (Kd.R_base ho0) hb);have n4_:=Aside0.mk (Kd.R_lower (Kd.R_new' (Kd.R_new' (Kd.R_new' (Kd.R_newM (M:=fun k_=>(w.heap.size≤k_)) ho0 (below_size (by repeat (first|(with_reducible first|exact HB.out|apply below_alloc|apply pw_below_drewN|apply below_drew1)|exact HB.out))) (fun k_ h_=>h_)) (Kd.R_lt (by (with_reducible repeat (first|apply Kd.R_alloc|apply Kd.R_drewN|apply Kd.R_drew));exact HO_10.out))) (Kd.R_lt (by (with_reducible repeat (first|apply Kd.R_alloc|apply Kd.R_drewN|apply Kd.R_drew));exact HO_12.out))) (Kd.R_lt (by (with_reducible repeat (first|apply Kd.R_alloc|apply Kd.R_drewN|apply Kd.R_drew));exact HO236.out))) (below_size (by repeat (first|(with_reducible first|exact HB.out|apply below_alloc|apply pw_below_drewN|apply below_drew1)|exact HB.out))));have n5_:=Aside0.mk (below_step (by repeat (first|(with_reducible first|exact HB.out|apply below_alloc|apply pw_below_drewN|apply below_drew1)|exact HB.out)) hb);clear HO_10;clear HO_11;clear HO_12;clear HO236;clear HB;have HO_10:=n0_;have HO_11:=n1_;have HO_12:=n2_;have HO236:=n3_;have HO241:=n4_;have HB:=n5_;clear n0_ n1_ n2_ n3_ n4_ n5_;(try clear hb);(try clear hb2);(try clear hk);(try clear hi);(try clear ho0)))
                        go_roundg k1
                        case measure=>have:=HK1.out;omega
                        case rel=>exact ⟨(y238),(t234),(t239),(wrap64 (x13_1-1)),(by first|rfl|(simp;done)|(simp [*];done)),H',⟨by have:=HK1.out;omega⟩,⟨by (with_reducible repeat (first|apply Kd.R_alloc|apply Kd.R_drewN|apply Kd.R_drew));exact Kd.R_mono HO_10.out (fun _ hk=>⟨hk.1.1,hk.2⟩)⟩,⟨(by refine Kd.V_mono (Kd.R_V (by (with_reducible repeat (first|apply Kd.R_alloc|apply Kd.R_drewN|apply Kd.R_drew));exact HO236.out)) ?_;exact fun k_ hk=>by first|exact ⟨.inr hk.1.1,hk.2⟩|exact ⟨.inr hk.1,hk.2⟩|exact ⟨.inr hk.1.1.1,⟨hk.1.2,hk.2⟩⟩|exact ⟨⟨.inr hk.1.1.1,hk.1.2⟩,hk.2⟩|exact .inr hk.1.1)⟩,⟨by (with_reducible repeat (first|apply Kd.R_alloc|apply Kd.R_drewN|apply Kd.R_drew));exact Kd.R_mono HO241.out (fun _ hk=>⟨hk.1.1.1.1,hk.1.1.2⟩)⟩,⟨by repeat (first|(with_reducible first|exact HB.out|apply below_alloc|apply pw_below_drewN|apply below_drew1)|exact HB.out)⟩⟩
                      · rw [if_neg c41] at H
                        exact absurd H (by simp)
                    · rw [if_neg c39] at H
                      exact absurd H (by simp)
                  · rw [if_neg c38] at H
                    exact absurd H (by simp)
                · rw [if_neg c35] at H
                  have c35b0:decide (0≤t233)=false:=decide_eq_false c35
                  clear c35
                  replace H:=Option.bind_eq_some_iff.mp H
                  obtain ⟨t242,A520,H⟩:=H
                  replace H:(gimbalref90_NDivide.l0 k1 x10_1 x11_1 t242 (wrap64 (x13_1-1)))=some (r1,r2):=H
                  have A52:=Aside0.mk A520
                  clear A520
                  have H':=Aside0.mk H
                  clear H
                  obtain ⟨Ao53,co53,eo53⟩:=Kd.V_slice HO_11.out
                  subst eo53
                  obtain ⟨Ao54,co54,eo54⟩:=Kd.R_slice HO_12.out
                  subst eo54
                  go_wp2_with (first|((with_reducible refine gate_callee (f:=82) rfl ?_);refine goesL_ (some 56) rfl rfl Try.func82 (by kernel_rfl) rfl #[.slice Ao53 x11_1.length co53,.slice Ao54 x12_1.length co54] rfl (by (try simp only [List.map_toArray,List.map_cons,List.map_nil]);first|done|rfl|(simp only [List.length_drop,List.length_take];rfl)) ?_;(with_reducible refine (gimbalref90_NCmp.calls k1 _ _ x11_1 _ _ x12_1 t233 _ ?side1 ?side2 ?side3 ?side4 A34.out).mono ?_);(case side1=>repeat (first|exact (Kd.V_reads' HO_11.out).2.2|(with_reducible refine Kd.C_alloc ?_ _)|(with_reducible refine Kd.C_drewN ?_ _)|(with_reducible refine Kd.C_drew ?_)));(case side2=>exact (Kd.V_reads' HO_11.out).2.1);(case side3=>repeat (first|exact (Kd.R_reads' HO_12.out).2.2|(with_reducible refine Kd.C_alloc ?_ _)|(with_reducible refine Kd.C_drewN ?_ _)|(with_reducible refine Kd.C_drew ?_)));(case side4=>exact (Kd.R_reads' HO_12.out).2.1);rintro e w' ⟨rfl,⟨nd,rfl⟩⟩;refine ⟨_,rfl,?_⟩)|((with_reducible refine gate_callee (f:=133) rfl ?_);refine goesL_ (some 76) rfl rfl Try.func133 (by kernel_rfl) rfl #[.slice Ao54 x12_1.length co54,.int .i64 1] rfl (by (try simp only [List.map_toArray,List.map_cons,List.map_nil]);first|done|rfl|(simp only [List.length_drop,List.length_take];rfl)) ?_;(with_reducible refine (gimbalref90_Down2.calls k1 _ _ x12_1 1 t242 _ ?side1 ?side2 A52.out).mono ?_);(case side1=>repeat (first|exact (Kd.R_reads' HO_12.out).2.2|(with_reducible refine Kd.C_alloc ?_ _)|(with_reducible refine Kd.C_drewN ?_ _)|(with_reducible refine Kd.C_drew ?_)));(case side2=>exact (Kd.R_reads' HO_12.out).2.1);rintro e w55 ⟨v243,rfl,ho0,hb⟩;refine ⟨_,rfl,?_⟩;have n0_:=Aside0.mk (Kd.R_elder' (by (with_reducible repeat (first|apply Kd.R_alloc|apply Kd.R_drewN|apply Kd.R_drew));exact HO_10.out) (Kd.R_base ho0) hb);have n1_:=Aside0.mk (Kd.V_elder' (by (with_reducible repeat (first|apply Kd.V_alloc|apply Kd.V_drewN|apply Kd.V_drew));exact HO_11.out) (Kd.R_base ho0) hb);have n2_:=Aside0.mk (Kd.R_elder' (by (with_reducible repeat (first|apply Kd.R_alloc|apply Kd.R_drewN|apply Kd.R_drew));exact HO_12.out) (Kd.R_base ho0) hb);have n3_:=Aside0.mk (Kd.R_lower (Kd.R_new' (Kd.R_new' (Kd.R_newM (M:=fun k_=>(w.heap.size≤k_)) ho0 (below_size (by repeat (first|(with_reducible first|exact HB.out|apply below_alloc|apply pw_below_drewN|apply below_drew1)|exact HB.out))) (fun k_ h_=>h_)) (Kd.R_lt (by (with_reducible repeat (first|apply Kd.R_alloc|apply Kd.R_drewN|apply Kd.R_drew));exact HO_10.out))) (Kd.R_lt (by (with_reducible repeat (first|apply Kd.R_alloc|apply Kd.R_drewN|apply Kd.R_drew));exact HO_12.out))) (below_size (by repeat (first|(with_reducible first|exact HB.out|apply below_alloc|apply pw_below_drewN|apply below_drew1)|exact HB.out))));have n4_:=Aside0.mk (below_step (by repeat (first|(with_reducible first|exact HB.out|apply below_alloc|apply pw_below_drewN|apply below_drew1)|exact HB.out)) hb);clear HO_10;clear HO_11;clear HO_12;clear HB;have HO_10:=n0_;have HO_11:=n1_;have HO_12:=n2_;have HO244:=n3_;have HB:=n4_;clear n0_ n1_ n2_ n3_ n4_;(try clear hb);(try clear hb2);(try clear hk);(try clear hi);(try clear ho0)))
                  go_roundg k1
                  case measure=>have:=HK1.out;omega
                  case rel=>exact ⟨(x10_1),(x11_1),(t242),(wrap64 (x13_1-1)),(by first|rfl|(simp;done)|(simp [*];done)),H',⟨by have:=HK1.out;omega⟩,⟨by (with_reducible repeat (first|apply Kd.R_alloc|apply Kd.R_drewN|apply Kd.R_drew));exact Kd.R_mono HO_10.out (fun _ hk=>⟨hk.1.1,hk.2⟩)⟩,⟨by (with_reducible repeat (first|apply Kd.V_alloc|apply Kd.V_drewN|apply Kd.V_drew));exact Kd.V_mono HO_11.out (fun _ hk=>⟨hk.1.1,⟨hk.1.2.1,hk.2⟩⟩)⟩,⟨by (with_reducible repeat (first|apply Kd.R_alloc|apply Kd.R_drewN|apply Kd.R_drew));exact Kd.R_mono HO244.out (fun _ hk=>⟨hk.1.1.1,hk.1.2⟩)⟩,⟨by repeat (first|(with_reducible first|exact HB.out|apply below_alloc|apply pw_below_drewN|apply below_drew1)|exact HB.out)⟩⟩
              · rw [if_neg c33] at H
                have c33b0:decide (0≤x13_1)=false:=decide_eq_false c33
                clear c33
                replace H:=Option.bind_eq_some_iff.mp H
                obtain ⟨t230,A560,H⟩:=H
                replace H:(some (t230,x11_1))=some (r1,r2):=H
                have A56:=Aside0.mk A560
                clear A560
                simp only [Option.some.injEq,Prod.mk.injEq] at H
                obtain ⟨rfl,rfl⟩:=H
                obtain ⟨Ao57,co57,eo57⟩:=Kd.R_slice HO_10.out
                subst eo57
                go_wp2_with (first|((with_reducible refine gate_callee (f:=107) rfl ?_);refine goesL_ (some 78) rfl rfl Try.func107 (by kernel_rfl) rfl #[.slice Ao57 x10_1.length co57] rfl (by (try simp only [List.map_toArray,List.map_cons,List.map_nil]);first|done|rfl|(simp only [List.length_drop,List.length_take];rfl)) ?_;(with_reducible refine (gimbalref90_NTrim.calls k1 (fun k_=>some k_=(.slice Ao57 x10_1.length co57:Value).ownBlock) (.slice Ao57 x10_1.length co57) x10_1 t230 w _ ?side1 ?side2 A56.out).mono ?_);(case side1=>repeat (first|(with_reducible first|exact HB.out|apply below_alloc|apply pw_below_drewN|apply below_drew1)|exact HB.out));(case side2=>exact Kd.R_tight rfl HO_10.out);rintro e w58 ⟨v231,rfl,ho0,hb,hkp⟩;refine ⟨_,rfl,?_⟩;have n0_:=Aside0.mk (Kd.V_mono (ok':=fun k_=>(P0_ k_∨w.heap.size≤k_)∧some k_≠(u12:Value).ownBlock∧some k_≠(v231:Value).ownBlock) (Kd.V_keptB (HO_11.out) hkp (fun k_ hk_ hs_=>(hk_.2.1) hs_)) (fun k_ hk_=>⟨hk_.1.1,hk_.1.2.2,fun e_=>Or.elim (ho0.1 k_ e_.symm) (fun hs_=>hk_.2.1 hs_) (fun hn_=>Nat.not_le.2 hk_.2.2 hn_)⟩));have n1_:=Aside0.mk (Kd.R_mono (ok':=fun k_=>(w.heap.size≤k_)∧some k_≠(v231:Value).ownBlock) (Kd.R_keptB (HO_12.out) hkp (fun k_ hk_ hs_=>(hk_.2) hs_)) (fun k_ hk_=>⟨hk_.1.1,fun e_=>Or.elim (ho0.1 k_ e_.symm) (fun hs_=>hk_.2.1 hs_) (fun hn_=>Nat.not_le.2 hk_.2.2 hn_)⟩));have n2_:=Aside0.mk (Kd.R_mono (ok':=fun k_=>(w.heap.size≤k_)∧some k_≠(u12:Value).ownBlock) ho0 (fun k_ hk_=>⟨Or.elim hk_ (fun hs_=>(HO_10.out.1 k_ (hs_).symm).1) (fun hn_=>(Nat.le_trans (below_size (by repeat (first|(with_reducible first|exact HB.out|apply below_alloc|apply pw_below_drewN|apply below_drew1)|exact HB.out))) hn_)),Or.elim hk_ (fun hs_=>fun e_=>(((HO_12.out).1 k_ e_.symm).2) hs_) (fun hn_=>(Kd.fresh' (Kd.R_lt (by (with_reducible repeat (first|apply Kd.R_alloc|apply Kd.R_drewN|apply Kd.R_drew));exact HO_12.out)) k_ hn_))⟩));have n3_:=Aside0.mk (hb);clear HO_11;clear HO_12;clear HB;clear HO_10;have HO_11:=n0_;have HO_12:=n1_;have HO232:=n2_;have HB:=n3_;clear n0_ n1_ n2_ n3_;(try clear hb);(try clear hkp);(try clear ho0)))
                go_ret2
                exact ⟨_,_,by first|rfl|(simp [errW_none,errW_some]<;>rfl)|(simp only [← hji24];first|rfl|(simp [errW_none,errW_some]<;>rfl))|(simp [*,errW_none,errW_some]<;>rfl),by (with_reducible repeat (first|apply Kd.R_alloc|apply Kd.R_drewN|apply Kd.R_drew));exact Kd.R_mono HO232.out (fun _ hk=>hk.1),by (with_reducible repeat (first|apply Kd.V_alloc|apply Kd.V_drewN|apply Kd.V_drew));exact Kd.V_mono HO_11.out (fun _ hk=>⟨hk.1,hk.2.2⟩),by repeat (first|(with_reducible first|exact HB.out|apply below_alloc|apply pw_below_drewN|apply below_drew1)|exact HB.out)⟩
        · rw [if_neg c26] at H
          exact absurd H (by simp)
      · rw [if_neg c25] at H
        exact absurd H (by simp)
end Go.Proofs.Ytonelbidndjhdaa.QN90
end
section
namespace Go.Proofs.Ytonelbidndjhdaa.QN90
open RowKit YtonelbidndjhdaaW.PrintWords YtonelbidndjhdaaW.PrintLast YtonelbidndjhdaaW.PrintMore
attribute [local go_sem] max2_int min2_int max_two min_two max_three min_three max_four min_four   -- for this text's walks alone
set_option linter.unusedVariables false
set_option linter.unusedSimpArgs false
def gimbalref90_NGcd.l0:Nat→List Int→List Int→Option (List Int)
  | 0,_,_=>none
  | k+1,x0,x1=>if (x1.length:Int)>0 then ((gimbalref90_NDivide.f k x0 x1).bind fun bt245=>(gimbalref90_NGcd.l0 k x1 bt245.2)) else (some x0)
def gimbalref90_NGcd.f (k:Nat) (l0:List Int) (l1:List Int):Option (List Int):=gimbalref90_NGcd.l0 k l0 l1
theorem gimbalref90_NGcd.mono_l:∀ k,(∀ y0 y1,LeO (gimbalref90_NGcd.l0 k y0 y1) (gimbalref90_NGcd.l0 (k+1) y0 y1))
  | 0=>fun _ _ r h=>by simp [gimbalref90_NGcd.l0] at h
  | k + 1 => by
    have ih0:=gimbalref90_NGcd.mono_l k
    · intro y0 y1
      unfold gimbalref90_NGcd.l0
      repeat' first
      | (with_reducible exact ih0 _ _)
      | (with_reducible exact gimbalref90_NDivide.mono _ _ _)
      | (with_reducible exact LeO.refl _)
      | (with_reducible exact LeO.none _)
      | (with_reducible refine LeO.ite ?_ ?_)
      | (with_reducible refine LeO.bind ?_ (fun _=>?_))
      | exact ih0 _ _
      | exact gimbalref90_NDivide.mono _ _ _
      | exact LeO.none _
      | refine LeO.ite ?_ ?_
      | refine LeO.bind ?_ (fun _=>?_)
theorem gimbalref90_NGcd.mono:∀ a0 a1 k,LeO (gimbalref90_NGcd.f k a0 a1) (gimbalref90_NGcd.f (k+1) a0 a1):=by
  intro a0 a1 k
  have ih0:=gimbalref90_NGcd.mono_l k
  unfold gimbalref90_NGcd.f
  repeat' first
      | (with_reducible exact ih0 _ _)
      | (with_reducible exact gimbalref90_NDivide.mono _ _ _)
      | (with_reducible exact LeO.refl _)
      | (with_reducible exact LeO.none _)
      | (with_reducible refine LeO.ite ?_ ?_)
      | (with_reducible refine LeO.bind ?_ (fun _=>?_))
      | exact ih0 _ _
      | exact gimbalref90_NDivide.mono _ _ _
      | exact LeO.none _
      | refine LeO.ite ?_ ?_
      | refine LeO.bind ?_ (fun _=>?_)
set_option maxHeartbeats 8000000 in
set_option maxRecDepth 100000 in
theorem gimbalref90_NGcd.calls (k:Nat) (P0_:Nat→Prop) (A0:Option Addr) (c0:Nat) (l0:List Int) (P1_:Nat→Prop) (A1:Option Addr) (c1:Nat) (l1:List Int) (r:List Int) (w:World) (hs0:Kd.V (Kd.int .u64) 104 w w.heap.size (fun k_=>P0_ k_) (.slice A0 l0.length c0) l0) (hs1:Kd.V (Kd.int .u64) 104 w w.heap.size (fun k_=>P1_ k_) (.slice A1 l1.length c1) l1) (h:gimbalref90_NGcd.f k l0 l1=some r) :
    Calls Try.prog 113 #[.slice A0 l0.length c0,.slice A1 l1.length c1] w fun e w'=>∃ v0_:Value,e = .returned (v0_)∧Kd.V (Kd.int .u64) 104 w' w.heap.size (fun k_=>((P0_ k_∨P1_ k_)∨w.heap.size≤k_)) v0_ r∧Below w.heap.size w w':=by
  have HO0:=Aside0.mk (show Kd.V (Kd.int .u64) 104 w w.heap.size (fun k_=>((P0_ k_∨P1_ k_)∨w.heap.size≤k_)) (.slice A0 l0.length c0) l0 from Kd.V_mono hs0 (fun k_ hk => .inl (.inl hk)))
  have HO1:=Aside0.mk (show Kd.V (Kd.int .u64) 104 w w.heap.size (fun k_=>((P0_ k_∨P1_ k_)∨w.heap.size≤k_)) (.slice A1 l1.length c1) l1 from Kd.V_mono hs1 (fun k_ hk => .inl (.inr hk)))
  have HB:=Aside0.mk (Below.refl w.heap.size w)
  have H:(gimbalref90_NGcd.l0 k l0 l1)=some r:=h
  clear h
  have H':=Aside0.mk H
  clear H
  go_enter Try.func113,Try.ntmps113
  go_wp2
  go_loopg [0,1] k (fun kq v0 v1 w'=>∃ (x0_1:List Int) (x1_1:List Int),Aside0 (gimbalref90_NGcd.l0 kq x0_1 x1_1=some r)∧Aside0 (kq≤k)∧Aside0 (Kd.V (Kd.int .u64) 104 w' w.heap.size (fun k_=>((P0_ k_∨P1_ k_)∨w.heap.size≤k_)) v0 x0_1)∧Aside0 (Kd.V (Kd.int .u64) 104 w' w.heap.size (fun k_=>((P0_ k_∨P1_ k_)∨w.heap.size≤k_)) v1 x1_1)∧Aside0 (Below w.heap.size w w'))
  case atStart=>exact ⟨(l0),(l1),H',⟨Nat.le_refl _⟩,⟨by (with_reducible repeat (first|apply Kd.V_alloc|apply Kd.V_drewN|apply Kd.V_drew));exact HO0.out⟩,⟨by (with_reducible repeat (first|apply Kd.V_alloc|apply Kd.V_drewN|apply Kd.V_drew));exact HO1.out⟩,⟨by repeat (first|(with_reducible first|exact HB.out|apply below_alloc|apply pw_below_drewN|apply below_drew1)|exact HB.out)⟩⟩
  case round =>
    clear H'
    try clear c1
    try clear p2
    obtain ⟨x0_1,x1_1,HA,HK1,HO_0,HO_1,HB⟩:=hrel
    cases gk with
    | zero=>exact absurd HA.out (by simp [gimbalref90_NGcd.l0])
    | succ k1 =>
      have H:=HA.out
      clear HA
      simp only [gimbalref90_NGcd.l0] at H
      by_cases c3:(x1_1.length:Int)>0
      · rw [if_pos c3] at H
        have c3b0:decide (0<(x1_1.length:Int))=true:=decide_eq_true c3
        have c3b1:decide (0<x1_1.length)=true:=decide_eq_true (by omega)
        clear c3
        replace H:=Option.bind_eq_some_iff.mp H
        obtain ⟨⟨t245,t248⟩,A40,H⟩:=H
        replace H:(gimbalref90_NGcd.l0 k1 x1_1 t248)=some r:=H
        have A4:=Aside0.mk A40
        clear A40
        have H':=Aside0.mk H
        clear H
        obtain ⟨Ao5,co5,eo5⟩:=Kd.V_slice HO_1.out
        subst eo5
        obtain ⟨Ao6,co6,eo6⟩:=Kd.V_slice HO_0.out
        subst eo6
        go_wp2_with (first|((with_reducible refine gate_callee (f:=114) rfl ?_);refine goesL_ (some 13) rfl rfl Try.func114 (by kernel_rfl) rfl #[.slice Ao6 x0_1.length co6,.slice Ao5 x1_1.length co5] rfl (by (try simp only [List.map_toArray,List.map_cons,List.map_nil]);first|done|rfl|(simp only [List.length_drop,List.length_take];rfl)) ?_;(with_reducible refine (gimbalref90_NDivide.calls k1 (fun k_=>((P0_ k_∨P1_ k_)∨w.heap.size≤k_)) _ _ x0_1 _ _ x1_1 t245 t248 _ ?side1 ?side2 ?side3 A4.out).mono ?_);(case side1=>exact HO_0.out);(case side2=>repeat (first|exact (Kd.V_reads' HO_1.out).2.2|(with_reducible refine Kd.C_alloc ?_ _)|(with_reducible refine Kd.C_drewN ?_ _)|(with_reducible refine Kd.C_drew ?_)));(case side3=>exact (Kd.V_reads' HO_1.out).2.1);rintro e w7 ⟨v246,v249,rfl,ho0,ho1,hb⟩;refine ⟨_,rfl,?_⟩;have n0_:=Aside0.mk (Kd.V_elder' (by (with_reducible repeat (first|apply Kd.V_alloc|apply Kd.V_drewN|apply Kd.V_drew));exact HO_0.out) (Kd.R_base ho0) hb);have n1_:=Aside0.mk (Kd.V_elder' (by (with_reducible repeat (first|apply Kd.V_alloc|apply Kd.V_drewN|apply Kd.V_drew));exact HO_1.out) (Kd.R_base ho0) hb);have n2_:=Aside0.mk (Kd.R_lower (Kd.R_newM (M:=fun k_=>(w.heap.size≤k_)) (Kd.R_mono (ok':=fun k_=>True) ho0 (fun _ hk_=>trivial)) (below_size (by repeat (first|(with_reducible first|exact HB.out|apply below_alloc|apply pw_below_drewN|apply below_drew1)|exact HB.out))) (fun k_ h_=>h_)) (below_size (by repeat (first|(with_reducible first|exact HB.out|apply below_alloc|apply pw_below_drewN|apply below_drew1)|exact HB.out))));have n3_:=Aside0.mk (Kd.V_lower (Kd.V_mono (ok':=fun k_=>((P0_ k_∨P1_ k_)∨w.heap.size≤k_)∧some k_≠(v246:Value).ownBlock) ho1 (fun k_ hk_=>⟨Or.elim hk_.1 (fun hs_=>hs_) (fun hn_=>(.inr (Nat.le_trans (below_size (by repeat (first|(with_reducible first|exact HB.out|apply below_alloc|apply pw_below_drewN|apply below_drew1)|exact HB.out))) hn_))),hk_.2⟩)) (below_size (by repeat (first|(with_reducible first|exact HB.out|apply below_alloc|apply pw_below_drewN|apply below_drew1)|exact HB.out))));have n4_:=Aside0.mk (below_step (by repeat (first|(with_reducible first|exact HB.out|apply below_alloc|apply pw_below_drewN|apply below_drew1)|exact HB.out)) hb);clear HO_0;clear HO_1;clear HB;have HO_0:=n0_;have HO_1:=n1_;have HO247:=n2_;have HO250:=n3_;have HB:=n4_;clear n0_ n1_ n2_ n3_ n4_;(try clear hb);(try clear hb2);(try clear hk);(try clear hi);(try clear ho0);(try clear ho1)))
        go_roundg k1
        case measure=>have:=HK1.out;omega
        case rel=>exact ⟨(x1_1),(t248),H',⟨by have:=HK1.out;omega⟩,⟨by (with_reducible repeat (first|apply Kd.V_alloc|apply Kd.V_drewN|apply Kd.V_drew));exact Kd.V_mono HO_1.out (fun _ hk=>hk.1)⟩,⟨by (with_reducible repeat (first|apply Kd.V_alloc|apply Kd.V_drewN|apply Kd.V_drew));exact Kd.V_mono HO250.out (fun _ hk=>hk.1)⟩,⟨by repeat (first|(with_reducible first|exact HB.out|apply below_alloc|apply pw_below_drewN|apply below_drew1)|exact HB.out)⟩⟩
      · rw [if_neg c3] at H
        have c3b0:decide (0<(x1_1.length:Int))=false:=decide_eq_false c3
        have c3b1:decide (0<x1_1.length)=false:=decide_eq_false (by omega)
        clear c3
        obtain rfl:=Option.some.inj H
        obtain ⟨Ao8,co8,eo8⟩:=Kd.V_slice HO_1.out
        subst eo8
        go_wp2
        go_ret
        exact ⟨_,by first|rfl|(simp [errW_none,errW_some]<;>rfl)|(simp [*,errW_none,errW_some]<;>rfl),by (with_reducible repeat (first|apply Kd.V_alloc|apply Kd.V_drewN|apply Kd.V_drew));exact HO_0.out,by repeat (first|(with_reducible first|exact HB.out|apply below_alloc|apply pw_below_drewN|apply below_drew1)|exact HB.out)⟩
mutual
def gimbalref90_NPlus.l0:Nat→List Int→List Int→List Int→Int→Int→Option (List Int)
  | 0,_,_,_,_,_=>none
  | k+1,x5,x6,x7,x8,x9=>if x9<(x5.length:Int) then (gimbalref90_NPlus.j1 k x5 x6 x7 x8 x9 true) else (gimbalref90_NPlus.j1 k x5 x6 x7 x8 x9 (decide (x9<(x6.length:Int))))
def gimbalref90_NPlus.j1:Nat→List Int→List Int→List Int→Int→Int→Bool→Option (List Int)
  | 0,_,_,_,_,_,_=>none
  | k+1,x5,x6,x7,x8,x9,x23=>if x23=true then (if x9<(x5.length:Int) then (if 0≤x9 then (if x9<(x6.length:Int) then (if x7.length<35184372088832 then (gimbalref90_NPlus.l0 k x5 x6 (x7++[(IntKind.u64.wrap ((IntKind.u64.wrap (x8+(IntKind.u64.wrap (rd x5 x9))))+(IntKind.u64.wrap (rd x6 x9))))%4294967296]) ((IntKind.u64.wrap ((IntKind.u64.wrap (x8+(IntKind.u64.wrap (rd x5 x9))))+(IntKind.u64.wrap (rd x6 x9))))/4294967296) (wrap64 (x9+1))) else (none)) else (if x7.length<35184372088832 then (gimbalref90_NPlus.l0 k x5 x6 (x7++[(IntKind.u64.wrap (x8+(IntKind.u64.wrap (rd x5 x9))))%4294967296]) ((IntKind.u64.wrap (x8+(IntKind.u64.wrap (rd x5 x9))))/4294967296) (wrap64 (x9+1))) else (none))) else (none)) else (if x9<(x6.length:Int) then (if 0≤x9 then (if x7.length<35184372088832 then (gimbalref90_NPlus.l0 k x5 x6 (x7++[(IntKind.u64.wrap (x8+(IntKind.u64.wrap (rd x6 x9))))%4294967296]) ((IntKind.u64.wrap (x8+(IntKind.u64.wrap (rd x6 x9))))/4294967296) (wrap64 (x9+1))) else (none)) else (none)) else (if x7.length<35184372088832 then (gimbalref90_NPlus.l0 k x5 x6 (x7++[(x8)%4294967296]) (x8/4294967296) (wrap64 (x9+1))) else (none)))) else (if x7.length<35184372088832 then ((gimbalref90_cut.f k (x7++[(x8)%4294967296])).bind fun t260=>((gimbalref90_whole.f k t260).bind fun t263=>(some t263))) else (none))
end
def gimbalref90_NPlus.f (k:Nat) (l0:List Int) (l1:List Int):Option (List Int):=(gimbalref90_halves.f k l0).bind fun t251=>((gimbalref90_halves.f k l1).bind fun t254=>(gimbalref90_NPlus.l0 k t251 t254 ([]:List Int) 0 0))
theorem gimbalref90_NPlus.mono_l:∀ k,(∀ y0 y1 y2 y3 y4,LeO (gimbalref90_NPlus.l0 k y0 y1 y2 y3 y4) (gimbalref90_NPlus.l0 (k+1) y0 y1 y2 y3 y4))∧(∀ y0 y1 y2 y3 y4 y5,LeO (gimbalref90_NPlus.j1 k y0 y1 y2 y3 y4 y5) (gimbalref90_NPlus.j1 (k+1) y0 y1 y2 y3 y4 y5))
  | 0=>⟨fun _ _ _ _ _ r h=>by simp [gimbalref90_NPlus.l0] at h,fun _ _ _ _ _ _ r h=>by simp [gimbalref90_NPlus.j1] at h⟩
  | k + 1 => by
    obtain ⟨ih0,ih1⟩:=gimbalref90_NPlus.mono_l k
    refine ⟨?_,?_⟩
    · intro y0 y1 y2 y3 y4
      unfold gimbalref90_NPlus.l0
      repeat' first
      | (with_reducible exact ih0 _ _ _ _ _)
      | (with_reducible exact ih1 _ _ _ _ _ _)
      | (with_reducible exact gimbalref90_cut.mono _ _)
      | (with_reducible exact gimbalref90_halves.mono _ _)
      | (with_reducible exact gimbalref90_whole.mono _ _)
      | (with_reducible exact LeO.refl _)
      | (with_reducible exact LeO.none _)
      | (with_reducible refine LeO.ite ?_ ?_)
      | (with_reducible refine LeO.bind ?_ (fun _=>?_))
      | exact ih0 _ _ _ _ _
      | exact ih1 _ _ _ _ _ _
      | exact gimbalref90_cut.mono _ _
      | exact gimbalref90_halves.mono _ _
      | exact gimbalref90_whole.mono _ _
      | exact LeO.none _
      | refine LeO.ite ?_ ?_
      | refine LeO.bind ?_ (fun _=>?_)
    · intro y0 y1 y2 y3 y4 y5
      unfold gimbalref90_NPlus.j1
      repeat' first
      | (with_reducible exact ih0 _ _ _ _ _)
      | (with_reducible exact ih1 _ _ _ _ _ _)
      | (with_reducible exact gimbalref90_cut.mono _ _)
      | (with_reducible exact gimbalref90_halves.mono _ _)
      | (with_reducible exact gimbalref90_whole.mono _ _)
      | (with_reducible exact LeO.refl _)
      | (with_reducible exact LeO.none _)
      | (with_reducible refine LeO.ite ?_ ?_)
      | (with_reducible refine LeO.bind ?_ (fun _=>?_))
      | exact ih0 _ _ _ _ _
      | exact ih1 _ _ _ _ _ _
      | exact gimbalref90_cut.mono _ _
      | exact gimbalref90_halves.mono _ _
      | exact gimbalref90_whole.mono _ _
      | exact LeO.none _
      | refine LeO.ite ?_ ?_
      | refine LeO.bind ?_ (fun _=>?_)
theorem gimbalref90_NPlus.mono:∀ a0 a1 k,LeO (gimbalref90_NPlus.f k a0 a1) (gimbalref90_NPlus.f (k+1) a0 a1):=by
  intro a0 a1 k
  obtain ⟨ih0,ih1⟩:=gimbalref90_NPlus.mono_l k
  unfold gimbalref90_NPlus.f
  repeat' first
      | (with_reducible exact ih0 _ _ _ _ _)
      | (with_reducible exact ih1 _ _ _ _ _ _)
      | (with_reducible exact gimbalref90_cut.mono _ _)
      | (with_reducible exact gimbalref90_halves.mono _ _)
      | (with_reducible exact gimbalref90_whole.mono _ _)
      | (with_reducible exact LeO.refl _)
      | (with_reducible exact LeO.none _)
      | (with_reducible refine LeO.ite ?_ ?_)
      | (with_reducible refine LeO.bind ?_ (fun _=>?_))
      | exact ih0 _ _ _ _ _
      | exact ih1 _ _ _ _ _ _
      | exact gimbalref90_cut.mono _ _
      | exact gimbalref90_halves.mono _ _
      | exact gimbalref90_whole.mono _ _
      | exact LeO.none _
      | refine LeO.ite ?_ ?_
      | refine LeO.bind ?_ (fun _=>?_)
set_option maxHeartbeats 8000000 in
set_option maxRecDepth 100000 in
theorem gimbalref90_NPlus.calls (k:Nat) (A0:Option Addr) (c0:Nat) (l0:List Int) (A1:Option Addr) (c1:Nat) (l1:List Int) (r:List Int) (w:World) (hr0:Kd.C (Kd.int .u64) w A0 l0.length l0) (hc0:l0.length≤c0) (hr1:Kd.C (Kd.int .u64) w A1 l1.length l1) (hc1:l1.length≤c1) (h:gimbalref90_NPlus.f k l0 l1=some r) :
    Calls Try.prog 81 #[.slice A0 l0.length c0,.slice A1 l1.length c1] w fun e w'=>∃ v0_:Value,e = .returned (v0_)∧Kd.R (Kd.int .u64) 104 w' w.heap.size (fun _=>True) v0_ r∧Below w.heap.size w w':=by
  have HR0:=Aside0.mk hr0
  have HC0:=Aside0.mk hc0
  clear hr0 hc0
  have HR1:=Aside0.mk hr1
  have HC1:=Aside0.mk hc1
  clear hr1 hc1
  have HB:=Aside0.mk (Below.refl w.heap.size w)
  have H:((gimbalref90_halves.f k l0).bind fun t251=>((gimbalref90_halves.f k l1).bind fun t254=>(gimbalref90_NPlus.l0 k t251 t254 ([]:List Int) 0 0)))=some r:=h
  clear h
  replace H:=Option.bind_eq_some_iff.mp H
  obtain ⟨t251,A30,H⟩:=H
  replace H:((gimbalref90_halves.f k l1).bind fun t254=>(gimbalref90_NPlus.l0 k t251 t254 ([]:List Int) 0 0))=some r:=H
  have A3:=Aside0.mk A30
  clear A30
  replace H:=Option.bind_eq_some_iff.mp H
  obtain ⟨t254,A40,H⟩:=H
  replace H:(gimbalref90_NPlus.l0 k t251 t254 ([]:List Int) 0 0)=some r:=H
  have A4:=Aside0.mk A40
  clear A40
  have H':=Aside0.mk H
  clear H
  go_enter Try.func81,Try.ntmps81
  go_wp2_with (first|((with_reducible refine gate_callee (f:=108) rfl ?_);refine goesL_ (some 11) rfl rfl Try.func108 (by kernel_rfl) rfl #[.slice A0 l0.length c0] rfl (by (try simp only [List.map_toArray,List.map_cons,List.map_nil]);first|done|rfl|(simp only [List.length_drop,List.length_take];rfl)) ?_;(with_reducible refine (gimbalref90_halves.calls k _ _ l0 t251 _ ?side1 ?side2 A3.out).mono ?_);(case side1=>repeat (first|exact HR0.out|(with_reducible refine Kd.C_alloc ?_ _)|(with_reducible refine Kd.C_drewN ?_ _)|(with_reducible refine Kd.C_drew ?_)));(case side2=>exact HC0.out);rintro e w5 ⟨v252,rfl,ho0,hb⟩;refine ⟨_,rfl,?_⟩;have n0_:=Aside0.mk (Kd.R_lower ho0 (below_size (by repeat (first|(with_reducible first|exact HB.out|apply below_alloc|apply pw_below_drewN|apply below_drew1)|exact HB.out))));have n1_:=Aside0.mk (below_step (by repeat (first|(with_reducible first|exact HB.out|apply below_alloc|apply pw_below_drewN|apply below_drew1)|exact HB.out)) hb);clear HB;have HO253:=n0_;have HB:=n1_;clear n0_ n1_;(try clear hb);(try clear hb2);(try clear hk);(try clear hi);(try clear ho0))|((with_reducible refine gate_callee (f:=108) rfl ?_);refine goesL_ (some 13) rfl rfl Try.func108 (by kernel_rfl) rfl #[.slice A1 l1.length c1] rfl (by (try simp only [List.map_toArray,List.map_cons,List.map_nil]);first|done|rfl|(simp only [List.length_drop,List.length_take];rfl)) ?_;(with_reducible refine (gimbalref90_halves.calls k _ _ l1 t254 _ ?side1 ?side2 A4.out).mono ?_);(case side1=>repeat (first|exact (Kd.C_below HR1.out HB.out)|(with_reducible refine Kd.C_alloc ?_ _)|(with_reducible refine Kd.C_drewN ?_ _)|(with_reducible refine Kd.C_drew ?_)));(case side2=>exact HC1.out);rintro e w6 ⟨v255,rfl,ho0,hb⟩;refine ⟨_,rfl,?_⟩;have n0_:=Aside0.mk (Kd.R_elder' (by (with_reducible repeat (first|apply Kd.R_alloc|apply Kd.R_drewN|apply Kd.R_drew));exact HO253.out) (Kd.R_base ho0) hb);have n1_:=Aside0.mk (Kd.R_lower (Kd.R_new' ho0 (Kd.R_lt (by (with_reducible repeat (first|apply Kd.R_alloc|apply Kd.R_drewN|apply Kd.R_drew));exact HO253.out))) (below_size (by repeat (first|(with_reducible first|exact HB.out|apply below_alloc|apply pw_below_drewN|apply below_drew1)|exact HB.out))));have n2_:=Aside0.mk (below_step (by repeat (first|(with_reducible first|exact HB.out|apply below_alloc|apply pw_below_drewN|apply below_drew1)|exact HB.out)) hb);clear HO253;clear HB;have HO253:=n0_;have HO256:=n1_;have HB:=n2_;clear n0_ n1_ n2_;(try clear hb);(try clear hb2);(try clear hk);(try clear hi);(try clear ho0)))
  go_loopg [7,8,9] k (fun kq v7 v8 v9 w'=>∃ (x7_1:List Int) (x8_1:Int) (x9_1:Int),v8 = .int .u64 x8_1∧v9 = .int .i64 x9_1∧Aside0 (gimbalref90_NPlus.l0 kq t251 t254 x7_1 x8_1 x9_1=some r)∧Aside0 (kq≤k)∧Aside0 (Kd.R (Kd.int .u32) 145 w' w.heap.size (fun k_=>some k_≠(v255:Value).ownBlock∧some k_≠(v7:Value).ownBlock) v252 t251)∧Aside0 (Kd.R (Kd.int .u32) 145 w' w.heap.size (fun k_=>some k_≠(v252:Value).ownBlock∧some k_≠(v7:Value).ownBlock) v255 t254)∧Aside0 (Kd.R (Kd.int .u32) 145 w' w.heap.size (fun k_=>some k_≠(v252:Value).ownBlock∧some k_≠(v255:Value).ownBlock) v7 x7_1)∧Aside0 (Below w.heap.size w w'))
  case atStart=>exact ⟨(([]:List Int)),(0),(0),(by first|rfl|(simp;done)|(simp [*];done)),(by first|rfl|(simp;done)|(simp [*];done)),H',⟨Nat.le_refl _⟩,⟨by (with_reducible repeat (first|apply Kd.R_alloc|apply Kd.R_drewN|apply Kd.R_drew));exact Kd.R_mono HO253.out (fun _ hk=>⟨hk.2,(by simp [Value.ownBlock])⟩)⟩,⟨by (with_reducible repeat (first|apply Kd.R_alloc|apply Kd.R_drewN|apply Kd.R_drew));exact Kd.R_mono HO256.out (fun _ hk=>⟨hk.2,(by simp [Value.ownBlock])⟩)⟩,⟨by first|exact Kd.R_nil _ _ _ _ _|exact Kd.N_nil _ _ _ _ _|exact Kd.V_nil _ _ _ _ _|exact Kd.Q_nil _ _ _ _ _|exact Kd.S_nil _ _ _ _ _⟩,⟨by repeat (first|(with_reducible first|exact HB.out|apply below_alloc|apply pw_below_drewN|apply below_drew1)|exact HB.out)⟩⟩
  case round =>
    clear H'
    try clear c1
    try clear p2
    obtain ⟨x7_1,x8_1,x9_1,rfl,rfl,HA,HK1,HO_5,HO_6,HO_7,HB⟩:=hrel
    cases gk with
    | zero=>exact absurd HA.out (by simp [gimbalref90_NPlus.l0])
    | succ k1 =>
      have H:=HA.out
      clear HA
      simp only [gimbalref90_NPlus.l0] at H
      have HC7:=Aside0.mk H
      clear H
      go_upto_region 6 with (fail)
      go_cut [23] (fun v23 wc=>∃ (kq:Nat) (x23_6:Bool),v23 = .bool x23_6∧Aside0 (gimbalref90_NPlus.j1 kq t251 t254 x7_1 x8_1 x9_1 x23_6=some r)∧Aside0 (kq≤k1)∧Aside0 (Kd.R (Kd.int .u32) 145 wc w.heap.size (fun k_=>some k_≠(v255:Value).ownBlock∧some k_≠(u7:Value).ownBlock) v252 t251)∧Aside0 (Kd.R (Kd.int .u32) 145 wc w.heap.size (fun k_=>some k_≠(v252:Value).ownBlock∧some k_≠(u7:Value).ownBlock) v255 t254)∧Aside0 (Kd.R (Kd.int .u32) 145 wc w.heap.size (fun k_=>some k_≠(v252:Value).ownBlock∧some k_≠(v255:Value).ownBlock) u7 x7_1)∧Aside0 (Below w.heap.size w wc))
      case first =>
        have H:=HC7.out
        clear HC7
        by_cases c8:x9_1<(t251.length:Int)
        · rw [if_pos c8] at H
          have c8b0:decide (x9_1<(t251.length:Int))=true:=decide_eq_true c8
          clear c8
          (first|rw [c8b0]|(simp only [i64_w,i32_w];rw [c8b0])|skip)
          have H':=Aside0.mk H
          clear H
          obtain ⟨Ao9,co9,eo9⟩:=Kd.R_slice HO_5.out
          subst eo9
          go_wp2
          go_meet
          case rel=>exact ⟨_,(true),(by first|rfl|(simp;done)|(simp [*];done)),H',⟨by have:=HK1.out;first|omega|exact Nat.le_refl _⟩,⟨by (with_reducible repeat (first|apply Kd.R_alloc|apply Kd.R_drewN|apply Kd.R_drew));exact HO_5.out⟩,⟨by (with_reducible repeat (first|apply Kd.R_alloc|apply Kd.R_drewN|apply Kd.R_drew));exact HO_6.out⟩,⟨by (with_reducible repeat (first|apply Kd.R_alloc|apply Kd.R_drewN|apply Kd.R_drew));exact HO_7.out⟩,⟨by repeat (first|(with_reducible first|exact HB.out|apply below_alloc|apply pw_below_drewN|apply below_drew1)|exact HB.out)⟩⟩
        · rw [if_neg c8] at H
          have c8b0:decide (x9_1<(t251.length:Int))=false:=decide_eq_false c8
          clear c8
          (first|rw [c8b0]|(simp only [i64_w,i32_w];rw [c8b0])|skip)
          have H':=Aside0.mk H
          clear H
          obtain ⟨Ao10,co10,eo10⟩:=Kd.R_slice HO_5.out
          subst eo10
          obtain ⟨Ao11,co11,eo11⟩:=Kd.R_slice HO_6.out
          subst eo11
          go_wp2
          go_meet
          case rel=>exact ⟨_,(decide (x9_1<(t254.length:Int))),(by first|rfl|(simp;done)|(simp [*];done)),H',⟨by have:=HK1.out;first|omega|exact Nat.le_refl _⟩,⟨by (with_reducible repeat (first|apply Kd.R_alloc|apply Kd.R_drewN|apply Kd.R_drew));exact HO_5.out⟩,⟨by (with_reducible repeat (first|apply Kd.R_alloc|apply Kd.R_drewN|apply Kd.R_drew));exact HO_6.out⟩,⟨by (with_reducible repeat (first|apply Kd.R_alloc|apply Kd.R_drewN|apply Kd.R_drew));exact HO_7.out⟩,⟨by repeat (first|(with_reducible first|exact HB.out|apply below_alloc|apply pw_below_drewN|apply below_drew1)|exact HB.out)⟩⟩
      case rest =>
        clear HC7
        try clear c1
        try clear p2
        try clear c8
        try clear c8b0
        try clear c10
        try clear p2
        obtain ⟨kq,x23_6,rfl,HA,HJ6,HO_5,HO_6,HO_7,HB⟩:=hcut
        cases kq with
        | zero=>exact absurd HA.out (by simp [gimbalref90_NPlus.j1])
        | succ kj6 =>
          have H:=HA.out
          clear HA
          simp only [gimbalref90_NPlus.j1] at H
          by_cases c12:x23_6=true
          · subst c12
            have H1:(if x9_1<(t251.length:Int) then (if 0≤x9_1 then (if x9_1<(t254.length:Int) then (if x7_1.length<35184372088832 then (gimbalref90_NPlus.l0 kj6 t251 t254 (x7_1++[(IntKind.u64.wrap ((IntKind.u64.wrap (x8_1+(IntKind.u64.wrap (rd t251 x9_1))))+(IntKind.u64.wrap (rd t254 x9_1))))%4294967296]) ((IntKind.u64.wrap ((IntKind.u64.wrap (x8_1+(IntKind.u64.wrap (rd t251 x9_1))))+(IntKind.u64.wrap (rd t254 x9_1))))/4294967296) (wrap64 (x9_1+1))) else (none)) else (if x7_1.length<35184372088832 then (gimbalref90_NPlus.l0 kj6 t251 t254 (x7_1++[(IntKind.u64.wrap (x8_1+(IntKind.u64.wrap (rd t251 x9_1))))%4294967296]) ((IntKind.u64.wrap (x8_1+(IntKind.u64.wrap (rd t251 x9_1))))/4294967296) (wrap64 (x9_1+1))) else (none))) else (none)) else (if x9_1<(t254.length:Int) then (if 0≤x9_1 then (if x7_1.length<35184372088832 then (gimbalref90_NPlus.l0 kj6 t251 t254 (x7_1++[(IntKind.u64.wrap (x8_1+(IntKind.u64.wrap (rd t254 x9_1))))%4294967296]) ((IntKind.u64.wrap (x8_1+(IntKind.u64.wrap (rd t254 x9_1))))/4294967296) (wrap64 (x9_1+1))) else (none)) else (none)) else (if x7_1.length<35184372088832 then (gimbalref90_NPlus.l0 kj6 t251 t254 (x7_1++[(x8_1)%4294967296]) (x8_1/4294967296) (wrap64 (x9_1+1))) else (none))))=some r:=by rw [if_pos rfl] at H;exact H
            clear H
            have H:=H1
            clear H1
            by_cases c13:x9_1<(t251.length:Int)
            · rw [if_pos c13] at H
              have c13b0:decide (x9_1<(t251.length:Int))=true:=decide_eq_true c13
              clear c13
              by_cases c14:0≤x9_1
              · rw [if_pos c14] at H
                have c14b0:decide (0≤x9_1)=true:=decide_eq_true c14
                clear c14
                by_cases c15:x9_1<(t254.length:Int)
                · rw [if_pos c15] at H
                  have c15b0:decide (x9_1<(t254.length:Int))=true:=decide_eq_true c15
                  clear c15
                  by_cases c16:x7_1.length<35184372088832
                  · rw [if_pos c16] at H
                    have LMc16:=Aside0.mk c16
                    clear c16
                    obtain ⟨y268,hy268⟩:∃ y_:List Int,y_=(x7_1++[(IntKind.u64.wrap ((IntKind.u64.wrap (x8_1+(IntKind.u64.wrap (rd t251 x9_1))))+(IntKind.u64.wrap (rd t254 x9_1))))%4294967296]):=⟨_,rfl⟩
                    replace H:(gimbalref90_NPlus.l0 kj6 t251 t254 y268 ((IntKind.u64.wrap ((IntKind.u64.wrap (x8_1+(IntKind.u64.wrap (rd t251 x9_1))))+(IntKind.u64.wrap (rd t254 x9_1))))/4294967296) (wrap64 (x9_1+1)))=some r:=by first|(rw [hy268];with_reducible exact H)|(have H2_:=(Option.bind_some _ _).symm.trans H;rw [hy268];with_reducible exact H2_)|(have H2_:=(Option.bind_some _ _).symm.trans H;with_reducible exact H2_)|with_reducible exact H|(rw [hy268];exact H)|exact H
                    have Ny268:=Aside0.mk hy268
                    clear hy268
                    have H':=Aside0.mk H
                    clear H
                    obtain ⟨Ao17,co17,eo17⟩:=Kd.R_slice HO_5.out
                    subst eo17
                    have p266:0≤(x9_1:Int):=of_decide_eq_true (by first|(with_reducible assumption)|assumption)
                    have q266:x9_1<(t251.length:Int):=of_decide_eq_true (by first|(with_reducible assumption)|assumption)
                    obtain ⟨ad266,e266,hx266_0⟩:=Kd.at_int (Kd.R_reads' HO_5.out).2.2 x9_1 p266 q266
                    cases e266
                    replace p266:=eq_true p266
                    replace q266:=eq_true q266
                    obtain ⟨Ao18,co18,eo18⟩:=Kd.R_slice HO_6.out
                    subst eo18
                    have p267:0≤(x9_1:Int):=of_decide_eq_true (by first|(with_reducible assumption)|assumption)
                    have q267:x9_1<(t254.length:Int):=of_decide_eq_true (by first|(with_reducible assumption)|assumption)
                    obtain ⟨ad267,e267,hx267_0⟩:=Kd.at_int (Kd.R_reads' HO_6.out).2.2 x9_1 p267 q267
                    cases e267
                    replace p267:=eq_true p267
                    replace q267:=eq_true q267
                    go_wp2_with (first|((with_reducible refine gate_builtin (b := .append) (xs:=#[.tmp 48,.tmp 51]) rfl ?_);(try (refine gate_guard (by rfl) ?_;dsimp only));at_builtin;refine Kd.R_append (Kd.int .u32) (w0:=w) w.heap.size rfl (.tmp 48) (.tmp 51) 143 145 (.int .u32 0) 4 rfl Try.underlying143 info145 rfl (by decide) (by omega) u7 x7_1 ((IntKind.u64.wrap ((IntKind.u64.wrap (x8_1+(IntKind.u64.wrap (rd t251 x9_1))))+(IntKind.u64.wrap (rd t254 x9_1))))%4294967296) [.int .u32 ((IntKind.u64.wrap ((IntKind.u64.wrap (x8_1+(IntKind.u64.wrap (rd t251 x9_1))))+(IntKind.u64.wrap (rd t254 x9_1))))%4294967296)] (fun k_=>some k_≠(.slice (some ad266) t251.length co17:Value).ownBlock∧some k_≠(.slice (some ad267) t254.length co18:Value).ownBlock) (fun _=>False) rfl rfl ?aP (fun _ hk=>hk.elim) ?aF ?aO ?aB ?aS ?aL ?_;(case aP=>exact rfl);(case aB=>exact (by repeat (first|(with_reducible first|exact HB.out|apply below_alloc|apply pw_below_drewN|apply below_drew1)|exact HB.out)));(case aF=>exact (fun k_ hk=>⟨Kd.fresh' (Kd.R_lt (by (with_reducible repeat (first|apply Kd.R_alloc|apply Kd.R_drewN|apply Kd.R_drew));exact HO_5.out)) k_ hk,Kd.fresh' (Kd.R_lt (by (with_reducible repeat (first|apply Kd.R_alloc|apply Kd.R_drewN|apply Kd.R_drew));exact HO_6.out)) k_ hk⟩));(case aO=>exact (by (with_reducible repeat (first|apply Kd.R_alloc|apply Kd.R_drewN|apply Kd.R_drew));exact HO_7.out));(case aS=>exact (below_size (by repeat (first|(with_reducible first|exact HB.out|apply below_alloc|apply pw_below_drewN|apply below_drew1)|exact HB.out))));(case aL=>have:=LMc16.out;omega);intro v269 w19 ho hb hg hat;rw [← Ny268.out] at ho;have n0_:=Aside0.mk (Kd.R_after (ok:=(fun k_=>some k_≠(.slice (some ad267) t254.length co18:Value).ownBlock)) (by (with_reducible repeat (first|apply Kd.R_alloc|apply Kd.R_drewN|apply Kd.R_drew));exact HO_5.out) hg hat);have n1_:=Aside0.mk (Kd.R_after (ok:=(fun k_=>some k_≠(.slice (some ad266) t251.length co17:Value).ownBlock)) (by (with_reducible repeat (first|apply Kd.R_alloc|apply Kd.R_drewN|apply Kd.R_drew));exact HO_6.out) hg hat);have n2_:=Aside0.mk (hb);have n3_:=Aside0.mk (ho);clear HO_5;clear HO_6;clear HB;clear HO_7;have HO_5:=n0_;have HO_6:=n1_;have HB:=n2_;have HO270:=n3_;clear n0_ n1_ n2_ n3_;clear ho hb hg hat))
                    go_roundg kj6
                    case measure=>have:=HK1.out;have:=HJ6.out;omega
                    case rel=>exact ⟨(y268),((IntKind.u64.wrap ((IntKind.u64.wrap (x8_1+(IntKind.u64.wrap (rd t251 x9_1))))+(IntKind.u64.wrap (rd t254 x9_1))))/4294967296),(wrap64 (x9_1+1)),(by first|rfl|(simp;done)|(simp [*];done)),(by first|rfl|(simp;done)|(simp [*];done)),H',⟨by have:=HK1.out;have:=HJ6.out;omega⟩,⟨by (with_reducible repeat (first|apply Kd.R_alloc|apply Kd.R_drewN|apply Kd.R_drew));exact HO_5.out⟩,⟨by (with_reducible repeat (first|apply Kd.R_alloc|apply Kd.R_drewN|apply Kd.R_drew));exact HO_6.out⟩,⟨by (with_reducible repeat (first|apply Kd.R_alloc|apply Kd.R_drewN|apply Kd.R_drew));exact HO270.out⟩,⟨by repeat (first|(with_reducible first|exact HB.out|apply below_alloc|apply pw_below_drewN|apply below_drew1)|exact HB.out)⟩⟩
                  · rw [if_neg c16] at H
                    exact absurd H (by simp)
                · rw [if_neg c15] at H
                  have c15b0:decide (x9_1<(t254.length:Int))=false:=decide_eq_false c15
                  clear c15
                  by_cases c20:x7_1.length<35184372088832
                  · rw [if_pos c20] at H
                    have LMc20:=Aside0.mk c20
                    clear c20
                    obtain ⟨y271,hy271⟩:∃ y_:List Int,y_=(x7_1++[(IntKind.u64.wrap (x8_1+(IntKind.u64.wrap (rd t251 x9_1))))%4294967296]):=⟨_,rfl⟩
                    replace H:(gimbalref90_NPlus.l0 kj6 t251 t254 y271 ((IntKind.u64.wrap (x8_1+(IntKind.u64.wrap (rd t251 x9_1))))/4294967296) (wrap64 (x9_1+1)))=some r:=by first|(rw [hy271];with_reducible exact H)|(have H2_:=(Option.bind_some _ _).symm.trans H;rw [hy271];with_reducible exact H2_)|(have H2_:=(Option.bind_some _ _).symm.trans H;with_reducible exact H2_)|with_reducible exact H|(rw [hy271];exact H)|exact H
                    have Ny271:=Aside0.mk hy271
                    clear hy271
                    have H':=Aside0.mk H
                    clear H
                    obtain ⟨Ao21,co21,eo21⟩:=Kd.R_slice HO_5.out
                    subst eo21
                    have p266:0≤(x9_1:Int):=of_decide_eq_true (by first|(with_reducible assumption)|assumption)
                    have q266:x9_1<(t251.length:Int):=of_decide_eq_true (by first|(with_reducible assumption)|assumption)
                    obtain ⟨ad266,e266,hx266_0⟩:=Kd.at_int (Kd.R_reads' HO_5.out).2.2 x9_1 p266 q266
                    cases e266
                    replace p266:=eq_true p266
                    replace q266:=eq_true q266
                    obtain ⟨Ao22,co22,eo22⟩:=Kd.R_slice HO_6.out
                    subst eo22
                    go_wp2_with (first|((with_reducible refine gate_builtin (b := .append) (xs:=#[.tmp 48,.tmp 51]) rfl ?_);(try (refine gate_guard (by rfl) ?_;dsimp only));at_builtin;refine Kd.R_append (Kd.int .u32) (w0:=w) w.heap.size rfl (.tmp 48) (.tmp 51) 143 145 (.int .u32 0) 4 rfl Try.underlying143 info145 rfl (by decide) (by omega) u7 x7_1 ((IntKind.u64.wrap (x8_1+(IntKind.u64.wrap (rd t251 x9_1))))%4294967296) [.int .u32 ((IntKind.u64.wrap (x8_1+(IntKind.u64.wrap (rd t251 x9_1))))%4294967296)] (fun k_=>some k_≠(.slice (some ad266) t251.length co21:Value).ownBlock∧some k_≠(.slice Ao22 t254.length co22:Value).ownBlock) (fun _=>False) rfl rfl ?aP (fun _ hk=>hk.elim) ?aF ?aO ?aB ?aS ?aL ?_;(case aP=>exact rfl);(case aB=>exact (by repeat (first|(with_reducible first|exact HB.out|apply below_alloc|apply pw_below_drewN|apply below_drew1)|exact HB.out)));(case aF=>exact (fun k_ hk=>⟨Kd.fresh' (Kd.R_lt (by (with_reducible repeat (first|apply Kd.R_alloc|apply Kd.R_drewN|apply Kd.R_drew));exact HO_5.out)) k_ hk,Kd.fresh' (Kd.R_lt (by (with_reducible repeat (first|apply Kd.R_alloc|apply Kd.R_drewN|apply Kd.R_drew));exact HO_6.out)) k_ hk⟩));(case aO=>exact (by (with_reducible repeat (first|apply Kd.R_alloc|apply Kd.R_drewN|apply Kd.R_drew));exact HO_7.out));(case aS=>exact (below_size (by repeat (first|(with_reducible first|exact HB.out|apply below_alloc|apply pw_below_drewN|apply below_drew1)|exact HB.out))));(case aL=>have:=LMc20.out;omega);intro v272 w23 ho hb hg hat;rw [← Ny271.out] at ho;have n0_:=Aside0.mk (Kd.R_after (ok:=(fun k_=>some k_≠(.slice Ao22 t254.length co22:Value).ownBlock)) (by (with_reducible repeat (first|apply Kd.R_alloc|apply Kd.R_drewN|apply Kd.R_drew));exact HO_5.out) hg hat);have n1_:=Aside0.mk (Kd.R_after (ok:=(fun k_=>some k_≠(.slice (some ad266) t251.length co21:Value).ownBlock)) (by (with_reducible repeat (first|apply Kd.R_alloc|apply Kd.R_drewN|apply Kd.R_drew));exact HO_6.out) hg hat);have n2_:=Aside0.mk (hb);have n3_:=Aside0.mk (ho);clear HO_5;clear HO_6;clear HB;clear HO_7;have HO_5:=n0_;have HO_6:=n1_;have HB:=n2_;have HO273:=n3_;clear n0_ n1_ n2_ n3_;clear ho hb hg hat))
                    go_roundg kj6
                    case measure=>have:=HK1.out;have:=HJ6.out;omega
                    case rel=>exact ⟨(y271),((IntKind.u64.wrap (x8_1+(IntKind.u64.wrap (rd t251 x9_1))))/4294967296),(wrap64 (x9_1+1)),(by first|rfl|(simp;done)|(simp [*];done)),(by first|rfl|(simp;done)|(simp [*];done)),H',⟨by have:=HK1.out;have:=HJ6.out;omega⟩,⟨by (with_reducible repeat (first|apply Kd.R_alloc|apply Kd.R_drewN|apply Kd.R_drew));exact HO_5.out⟩,⟨by (with_reducible repeat (first|apply Kd.R_alloc|apply Kd.R_drewN|apply Kd.R_drew));exact HO_6.out⟩,⟨by (with_reducible repeat (first|apply Kd.R_alloc|apply Kd.R_drewN|apply Kd.R_drew));exact HO273.out⟩,⟨by repeat (first|(with_reducible first|exact HB.out|apply below_alloc|apply pw_below_drewN|apply below_drew1)|exact HB.out)⟩⟩
                  · rw [if_neg c20] at H
                    exact absurd H (by simp)
              · rw [if_neg c14] at H
                exact absurd H (by simp)
            · rw [if_neg c13] at H
              have c13b0:decide (x9_1<(t251.length:Int))=false:=decide_eq_false c13
              clear c13
              by_cases c24:x9_1<(t254.length:Int)
              · rw [if_pos c24] at H
                have c24b0:decide (x9_1<(t254.length:Int))=true:=decide_eq_true c24
                clear c24
                by_cases c25:0≤x9_1
                · rw [if_pos c25] at H
                  have c25b0:decide (0≤x9_1)=true:=decide_eq_true c25
                  clear c25
                  by_cases c26:x7_1.length<35184372088832
                  · rw [if_pos c26] at H
                    have LMc26:=Aside0.mk c26
                    clear c26
                    obtain ⟨y275,hy275⟩:∃ y_:List Int,y_=(x7_1++[(IntKind.u64.wrap (x8_1+(IntKind.u64.wrap (rd t254 x9_1))))%4294967296]):=⟨_,rfl⟩
                    replace H:(gimbalref90_NPlus.l0 kj6 t251 t254 y275 ((IntKind.u64.wrap (x8_1+(IntKind.u64.wrap (rd t254 x9_1))))/4294967296) (wrap64 (x9_1+1)))=some r:=by first|(rw [hy275];with_reducible exact H)|(have H2_:=(Option.bind_some _ _).symm.trans H;rw [hy275];with_reducible exact H2_)|(have H2_:=(Option.bind_some _ _).symm.trans H;with_reducible exact H2_)|with_reducible exact H|(rw [hy275];exact H)|exact H
                    have Ny275:=Aside0.mk hy275
                    clear hy275
                    have H':=Aside0.mk H
                    clear H
                    obtain ⟨Ao27,co27,eo27⟩:=Kd.R_slice HO_5.out
                    subst eo27
                    obtain ⟨Ao28,co28,eo28⟩:=Kd.R_slice HO_6.out
                    subst eo28
                    have p274:0≤(x9_1:Int):=of_decide_eq_true (by first|(with_reducible assumption)|assumption)
                    have q274:x9_1<(t254.length:Int):=of_decide_eq_true (by first|(with_reducible assumption)|assumption)
                    obtain ⟨ad274,e274,hx274_0⟩:=Kd.at_int (Kd.R_reads' HO_6.out).2.2 x9_1 p274 q274
                    cases e274
                    replace p274:=eq_true p274
                    replace q274:=eq_true q274
                    go_wp2_with (first|((with_reducible refine gate_builtin (b := .append) (xs:=#[.tmp 48,.tmp 51]) rfl ?_);(try (refine gate_guard (by rfl) ?_;dsimp only));at_builtin;refine Kd.R_append (Kd.int .u32) (w0:=w) w.heap.size rfl (.tmp 48) (.tmp 51) 143 145 (.int .u32 0) 4 rfl Try.underlying143 info145 rfl (by decide) (by omega) u7 x7_1 ((IntKind.u64.wrap (x8_1+(IntKind.u64.wrap (rd t254 x9_1))))%4294967296) [.int .u32 ((IntKind.u64.wrap (x8_1+(IntKind.u64.wrap (rd t254 x9_1))))%4294967296)] (fun k_=>some k_≠(.slice Ao27 t251.length co27:Value).ownBlock∧some k_≠(.slice (some ad274) t254.length co28:Value).ownBlock) (fun _=>False) rfl rfl ?aP (fun _ hk=>hk.elim) ?aF ?aO ?aB ?aS ?aL ?_;(case aP=>exact rfl);(case aB=>exact (by repeat (first|(with_reducible first|exact HB.out|apply below_alloc|apply pw_below_drewN|apply below_drew1)|exact HB.out)));(case aF=>exact (fun k_ hk=>⟨Kd.fresh' (Kd.R_lt (by (with_reducible repeat (first|apply Kd.R_alloc|apply Kd.R_drewN|apply Kd.R_drew));exact HO_5.out)) k_ hk,Kd.fresh' (Kd.R_lt (by (with_reducible repeat (first|apply Kd.R_alloc|apply Kd.R_drewN|apply Kd.R_drew));exact HO_6.out)) k_ hk⟩));(case aO=>exact (by (with_reducible repeat (first|apply Kd.R_alloc|apply Kd.R_drewN|apply Kd.R_drew));exact HO_7.out));(case aS=>exact (below_size (by repeat (first|(with_reducible first|exact HB.out|apply below_alloc|apply pw_below_drewN|apply below_drew1)|exact HB.out))));(case aL=>have:=LMc26.out;omega);intro v276 w29 ho hb hg hat;rw [← Ny275.out] at ho;have n0_:=Aside0.mk (Kd.R_after (ok:=(fun k_=>some k_≠(.slice (some ad274) t254.length co28:Value).ownBlock)) (by (with_reducible repeat (first|apply Kd.R_alloc|apply Kd.R_drewN|apply Kd.R_drew));exact HO_5.out) hg hat);have n1_:=Aside0.mk (Kd.R_after (ok:=(fun k_=>some k_≠(.slice Ao27 t251.length co27:Value).ownBlock)) (by (with_reducible repeat (first|apply Kd.R_alloc|apply Kd.R_drewN|apply Kd.R_drew));exact HO_6.out) hg hat);have n2_:=Aside0.mk (hb);have n3_:=Aside0.mk (ho);clear HO_5;clear HO_6;clear HB;clear HO_7;have HO_5:=n0_;have HO_6:=n1_;have HB:=n2_;have HO277:=n3_;clear n0_ n1_ n2_ n3_;clear ho hb hg hat))
                    go_roundg kj6
                    case measure=>have:=HK1.out;have:=HJ6.out;omega
                    case rel=>exact ⟨(y275),((IntKind.u64.wrap (x8_1+(IntKind.u64.wrap (rd t254 x9_1))))/4294967296),(wrap64 (x9_1+1)),(by first|rfl|(simp;done)|(simp [*];done)),(by first|rfl|(simp;done)|(simp [*];done)),H',⟨by have:=HK1.out;have:=HJ6.out;omega⟩,⟨by (with_reducible repeat (first|apply Kd.R_alloc|apply Kd.R_drewN|apply Kd.R_drew));exact HO_5.out⟩,⟨by (with_reducible repeat (first|apply Kd.R_alloc|apply Kd.R_drewN|apply Kd.R_drew));exact HO_6.out⟩,⟨by (with_reducible repeat (first|apply Kd.R_alloc|apply Kd.R_drewN|apply Kd.R_drew));exact HO277.out⟩,⟨by repeat (first|(with_reducible first|exact HB.out|apply below_alloc|apply pw_below_drewN|apply below_drew1)|exact HB.out)⟩⟩
                  · rw [if_neg c26] at H
                    exact absurd H (by simp)
                · rw [if_neg c25] at H
                  exact absurd H (by simp)
              · rw [if_neg c24] at H
                have c24b0:decide (x9_1<(t254.length:Int))=false:=decide_eq_false c24
                clear c24
                by_cases c30:x7_1.length<35184372088832
                · rw [if_pos c30] at H
                  have LMc30:=Aside0.mk c30
                  clear c30
                  obtain ⟨y278,hy278⟩:∃ y_:List Int,y_=(x7_1++[(x8_1)%4294967296]):=⟨_,rfl⟩
                  replace H:(gimbalref90_NPlus.l0 kj6 t251 t254 y278 (x8_1/4294967296) (wrap64 (x9_1+1)))=some r:=by first|(rw [hy278];with_reducible exact H)|(have H2_:=(Option.bind_some _ _).symm.trans H;rw [hy278];with_reducible exact H2_)|(have H2_:=(Option.bind_some _ _).symm.trans H;with_reducible exact H2_)|with_reducible exact H|(rw [hy278];exact H)|exact H
                  have Ny278:=Aside0.mk hy278
                  clear hy278
                  have H':=Aside0.mk H
                  clear H
                  obtain ⟨Ao31,co31,eo31⟩:=Kd.R_slice HO_5.out
                  subst eo31
                  obtain ⟨Ao32,co32,eo32⟩:=Kd.R_slice HO_6.out
                  subst eo32
                  go_wp2_with (first|((with_reducible refine gate_builtin (b := .append) (xs:=#[.tmp 48,.tmp 51]) rfl ?_);(try (refine gate_guard (by rfl) ?_;dsimp only));at_builtin;refine Kd.R_append (Kd.int .u32) (w0:=w) w.heap.size rfl (.tmp 48) (.tmp 51) 143 145 (.int .u32 0) 4 rfl Try.underlying143 info145 rfl (by decide) (by omega) u7 x7_1 ((x8_1)%4294967296) [.int .u32 ((x8_1)%4294967296)] (fun k_=>some k_≠(.slice Ao31 t251.length co31:Value).ownBlock∧some k_≠(.slice Ao32 t254.length co32:Value).ownBlock) (fun _=>False) rfl rfl ?aP (fun _ hk=>hk.elim) ?aF ?aO ?aB ?aS ?aL ?_;(case aP=>exact rfl);(case aB=>exact (by repeat (first|(with_reducible first|exact HB.out|apply below_alloc|apply pw_below_drewN|apply below_drew1)|exact HB.out)));(case aF=>exact (fun k_ hk=>⟨Kd.fresh' (Kd.R_lt (by (with_reducible repeat (first|apply Kd.R_alloc|apply Kd.R_drewN|apply Kd.R_drew));exact HO_5.out)) k_ hk,Kd.fresh' (Kd.R_lt (by (with_reducible repeat (first|apply Kd.R_alloc|apply Kd.R_drewN|apply Kd.R_drew));exact HO_6.out)) k_ hk⟩));(case aO=>exact (by (with_reducible repeat (first|apply Kd.R_alloc|apply Kd.R_drewN|apply Kd.R_drew));exact HO_7.out));(case aS=>exact (below_size (by repeat (first|(with_reducible first|exact HB.out|apply below_alloc|apply pw_below_drewN|apply below_drew1)|exact HB.out))));(case aL=>have:=LMc30.out;omega);intro v279 w33 ho hb hg hat;rw [← Ny278.out] at ho;have n0_:=Aside0.mk (Kd.R_after (ok:=(fun k_=>some k_≠(.slice Ao32 t254.length co32:Value).ownBlock)) (by (with_reducible repeat (first|apply Kd.R_alloc|apply Kd.R_drewN|apply Kd.R_drew));exact HO_5.out) hg hat);have n1_:=Aside0.mk (Kd.R_after (ok:=(fun k_=>some k_≠(.slice Ao31 t251.length co31:Value).ownBlock)) (by (with_reducible repeat (first|apply Kd.R_alloc|apply Kd.R_drewN|apply Kd.R_drew));exact HO_6.out) hg hat);have n2_:=Aside0.mk (hb);have n3_:=Aside0.mk (ho);clear HO_5;clear HO_6;clear HB;clear HO_7;have HO_5:=n0_;have HO_6:=n1_;have HB:=n2_;have HO280:=n3_;clear n0_ n1_ n2_ n3_;clear ho hb hg hat))
                  go_roundg kj6
                  case measure=>have:=HK1.out;have:=HJ6.out;omega
                  case rel=>exact ⟨(y278),(x8_1/4294967296),(wrap64 (x9_1+1)),(by first|rfl|(simp;done)|(simp [*];done)),(by first|rfl|(simp;done)|(simp [*];done)),H',⟨by have:=HK1.out;have:=HJ6.out;omega⟩,⟨by (with_reducible repeat (first|apply Kd.R_alloc|apply Kd.R_drewN|apply Kd.R_drew));exact HO_5.out⟩,⟨by (with_reducible repeat (first|apply Kd.R_alloc|apply Kd.R_drewN|apply Kd.R_drew));exact HO_6.out⟩,⟨by (with_reducible repeat (first|apply Kd.R_alloc|apply Kd.R_drewN|apply Kd.R_drew));exact HO280.out⟩,⟨by repeat (first|(with_reducible first|exact HB.out|apply below_alloc|apply pw_below_drewN|apply below_drew1)|exact HB.out)⟩⟩
                · rw [if_neg c30] at H
                  exact absurd H (by simp)
          · replace c12:=Bool.eq_false_iff.mpr c12
            subst c12
            have H1:(if x7_1.length<35184372088832 then ((gimbalref90_cut.f kj6 (x7_1++[(x8_1)%4294967296])).bind fun t260=>((gimbalref90_whole.f kj6 t260).bind fun t263=>(some t263))) else (none))=some r:=by rw [if_neg (show ¬ (false=true) by decide)] at H;exact H
            clear H
            have H:=H1
            clear H1
            by_cases c34:x7_1.length<35184372088832
            · rw [if_pos c34] at H
              have LMc34:=Aside0.mk c34
              clear c34
              obtain ⟨y257,hy257⟩:∃ y_:List Int,y_=(x7_1++[(x8_1)%4294967296]):=⟨_,rfl⟩
              replace H:((gimbalref90_cut.f kj6 y257).bind fun t260=>((gimbalref90_whole.f kj6 t260).bind fun t263=>(some t263)))=some r:=by first|(rw [hy257];with_reducible exact H)|(have H2_:=(Option.bind_some _ _).symm.trans H;rw [hy257];with_reducible exact H2_)|(have H2_:=(Option.bind_some _ _).symm.trans H;with_reducible exact H2_)|with_reducible exact H|(rw [hy257];exact H)|exact H
              have Ny257:=Aside0.mk hy257
              clear hy257
              replace H:=Option.bind_eq_some_iff.mp H
              obtain ⟨t260,A350,H⟩:=H
              replace H:((gimbalref90_whole.f kj6 t260).bind fun t263=>(some t263))=some r:=H
              have A35:=Aside0.mk A350
              clear A350
              replace H:=Option.bind_eq_some_iff.mp H
              obtain ⟨t263,A360,H⟩:=H
              replace H:(some t263)=some r:=H
              have A36:=Aside0.mk A360
              clear A360
              obtain rfl:=Option.some.inj H
              go_wp2_with (first|((with_reducible refine gate_builtin (b := .append) (xs:=#[.tmp 55,.tmp 58]) rfl ?_);(try (refine gate_guard (by rfl) ?_;dsimp only));at_builtin;refine Kd.R_append (Kd.int .u32) (w0:=w) w.heap.size rfl (.tmp 55) (.tmp 58) 143 145 (.int .u32 0) 4 rfl Try.underlying143 info145 rfl (by decide) (by omega) u7 x7_1 ((x8_1)%4294967296) [.int .u32 ((x8_1)%4294967296)] (fun k_=>some k_≠(v252:Value).ownBlock∧some k_≠(v255:Value).ownBlock) (fun _=>False) rfl rfl ?aP (fun _ hk=>hk.elim) ?aF ?aO ?aB ?aS ?aL ?_;(case aP=>exact rfl);(case aB=>exact (by repeat (first|(with_reducible first|exact HB.out|apply below_alloc|apply pw_below_drewN|apply below_drew1)|exact HB.out)));(case aF=>exact (fun k_ hk=>⟨Kd.fresh' (Kd.R_lt (by (with_reducible repeat (first|apply Kd.R_alloc|apply Kd.R_drewN|apply Kd.R_drew));exact HO_5.out)) k_ hk,Kd.fresh' (Kd.R_lt (by (with_reducible repeat (first|apply Kd.R_alloc|apply Kd.R_drewN|apply Kd.R_drew));exact HO_6.out)) k_ hk⟩));(case aO=>exact (by (with_reducible repeat (first|apply Kd.R_alloc|apply Kd.R_drewN|apply Kd.R_drew));exact HO_7.out));(case aS=>exact (below_size (by repeat (first|(with_reducible first|exact HB.out|apply below_alloc|apply pw_below_drewN|apply below_drew1)|exact HB.out))));(case aL=>have:=LMc34.out;omega);intro v258 w37 ho hb hg hat;rw [← Ny257.out] at ho;have n0_:=Aside0.mk (Kd.R_after (ok:=(fun k_=>some k_≠(v255:Value).ownBlock)) (by (with_reducible repeat (first|apply Kd.R_alloc|apply Kd.R_drewN|apply Kd.R_drew));exact HO_5.out) hg hat);have n1_:=Aside0.mk (Kd.R_after (ok:=(fun k_=>some k_≠(v252:Value).ownBlock)) (by (with_reducible repeat (first|apply Kd.R_alloc|apply Kd.R_drewN|apply Kd.R_drew));exact HO_6.out) hg hat);have n2_:=Aside0.mk (hb);have n3_:=Aside0.mk (ho);clear HO_5;clear HO_6;clear HB;clear HO_7;have HO_5:=n0_;have HO_6:=n1_;have HB:=n2_;have HO259:=n3_;clear n0_ n1_ n2_ n3_;clear ho hb hg hat;obtain ⟨Ao38,co38,eo38⟩:=Kd.R_slice HO259.out;subst eo38)|((with_reducible refine gate_callee (f:=110) rfl ?_);refine goesL_ (some 60) rfl rfl Try.func110 (by kernel_rfl) rfl #[.slice Ao38 y257.length co38] rfl (by (try simp only [List.map_toArray,List.map_cons,List.map_nil]);first|done|rfl|(simp only [List.length_drop,List.length_take];rfl)) ?_;(with_reducible refine (gimbalref90_cut.calls kj6 (fun k_=>some k_=(.slice Ao38 y257.length co38:Value).ownBlock) (.slice Ao38 y257.length co38) y257 t260 w _ ?side1 ?side2 A35.out).mono ?_);(case side1=>repeat (first|(with_reducible first|exact HB.out|apply below_alloc|apply pw_below_drewN|apply below_drew1)|exact HB.out));(case side2=>exact Kd.R_tight rfl HO259.out);rintro e w39 ⟨v261,rfl,ho0,hb,hkp⟩;refine ⟨_,rfl,?_⟩;have n0_:=Aside0.mk (Kd.R_mono (ok':=fun k_=>some k_≠(v255:Value).ownBlock∧some k_≠(v261:Value).ownBlock) (Kd.R_keptB (HO_5.out) hkp (fun k_ hk_ hs_=>(hk_.2) hs_)) (fun k_ hk_=>⟨hk_.1.1,fun e_=>Or.elim (ho0.1 k_ e_.symm) (fun hs_=>hk_.2.1 hs_) (fun hn_=>Nat.not_le.2 hk_.2.2 hn_)⟩));have n1_:=Aside0.mk (Kd.R_mono (ok':=fun k_=>some k_≠(v252:Value).ownBlock∧some k_≠(v261:Value).ownBlock) (Kd.R_keptB (HO_6.out) hkp (fun k_ hk_ hs_=>(hk_.2) hs_)) (fun k_ hk_=>⟨hk_.1.1,fun e_=>Or.elim (ho0.1 k_ e_.symm) (fun hs_=>hk_.2.1 hs_) (fun hn_=>Nat.not_le.2 hk_.2.2 hn_)⟩));have n2_:=Aside0.mk (Kd.R_mono (ok':=fun k_=>some k_≠(v252:Value).ownBlock∧some k_≠(v255:Value).ownBlock) ho0 (fun k_ hk_=>⟨Or.elim hk_ (fun hs_=>fun e_=>(((HO_5.out).1 k_ e_.symm).2) hs_) (fun hn_=>(Kd.fresh' (Kd.R_lt (by (with_reducible repeat (first|apply Kd.R_alloc|apply Kd.R_drewN|apply Kd.R_drew));exact HO_5.out)) k_ hn_)),Or.elim hk_ (fun hs_=>fun e_=>(((HO_6.out).1 k_ e_.symm).2) hs_) (fun hn_=>(Kd.fresh' (Kd.R_lt (by (with_reducible repeat (first|apply Kd.R_alloc|apply Kd.R_drewN|apply Kd.R_drew));exact HO_6.out)) k_ hn_))⟩));have n3_:=Aside0.mk (hb);clear HO_5;clear HO_6;clear HB;clear HO259;have HO_5:=n0_;have HO_6:=n1_;have HO262:=n2_;have HB:=n3_;clear n0_ n1_ n2_ n3_;(try clear hb);(try clear hkp);(try clear ho0);obtain ⟨Ao40,co40,eo40⟩:=Kd.R_slice HO262.out;subst eo40)|((with_reducible refine gate_callee (f:=109) rfl ?_);refine goesL_ (some 61) rfl rfl Try.func109 (by kernel_rfl) rfl #[.slice Ao40 t260.length co40] rfl (by (try simp only [List.map_toArray,List.map_cons,List.map_nil]);first|done|rfl|(simp only [List.length_drop,List.length_take];rfl)) ?_;(with_reducible refine (gimbalref90_whole.calls kj6 _ _ t260 t263 _ ?side1 ?side2 A36.out).mono ?_);(case side1=>repeat (first|exact (Kd.R_reads' HO262.out).2.2|(with_reducible refine Kd.C_alloc ?_ _)|(with_reducible refine Kd.C_drewN ?_ _)|(with_reducible refine Kd.C_drew ?_)));(case side2=>exact (Kd.R_reads' HO262.out).2.1);rintro e w41 ⟨v264,rfl,ho0,hb⟩;refine ⟨_,rfl,?_⟩;have n0_:=Aside0.mk (Kd.R_below (by (with_reducible repeat (first|apply Kd.R_alloc|apply Kd.R_drewN|apply Kd.R_drew));exact HO_5.out) hb);have n1_:=Aside0.mk (Kd.R_below (by (with_reducible repeat (first|apply Kd.R_alloc|apply Kd.R_drewN|apply Kd.R_drew));exact HO_6.out) hb);have n2_:=Aside0.mk (Kd.R_below (by (with_reducible repeat (first|apply Kd.R_alloc|apply Kd.R_drewN|apply Kd.R_drew));exact HO262.out) hb);have n3_:=Aside0.mk (Kd.R_lower ho0 (below_size (by repeat (first|(with_reducible first|exact HB.out|apply below_alloc|apply pw_below_drewN|apply below_drew1)|exact HB.out))));have n4_:=Aside0.mk (below_step (by repeat (first|(with_reducible first|exact HB.out|apply below_alloc|apply pw_below_drewN|apply below_drew1)|exact HB.out)) hb);clear HO_5;clear HO_6;clear HO262;clear HB;have HO_5:=n0_;have HO_6:=n1_;have HO262:=n2_;have HO265:=n3_;have HB:=n4_;clear n0_ n1_ n2_ n3_ n4_;(try clear hb);(try clear hb2);(try clear hk);(try clear hi);(try clear ho0)))
              go_ret
              exact ⟨_,by first|rfl|(simp [errW_none,errW_some]<;>rfl)|(simp [*,errW_none,errW_some]<;>rfl),by (with_reducible repeat (first|apply Kd.R_alloc|apply Kd.R_drewN|apply Kd.R_drew));exact HO265.out,by repeat (first|(with_reducible first|exact HB.out|apply below_alloc|apply pw_below_drewN|apply below_drew1)|exact HB.out)⟩
            · rw [if_neg c34] at H
              exact absurd H (by simp)
end Go.Proofs.Ytonelbidndjhdaa.QN90
end
section
namespace Go.Proofs.Ytonelbidndjhdaa.QN90
open RowKit YtonelbidndjhdaaW.PrintWords YtonelbidndjhdaaW.PrintLast YtonelbidndjhdaaW.PrintMore
attribute [local go_sem] max2_int min2_int max_two min_two max_three min_three max_four min_four   -- for this text's walks alone
set_option linter.unusedVariables false
set_option linter.unusedSimpArgs false
mutual
def gimbalref90_NTimes.l0:Nat→List Int→List Int→List Int→Int→Option (List Int)
  | 0,_,_,_,_=>none
  | k+1,x5,x6,x7,x8=>if x8<(x5.length:Int) then (gimbalref90_NTimes.l1 k x5 x6 x7 x8 0 0) else ((gimbalref90_cut.f k x7).bind fun t290=>((gimbalref90_whole.f k t290).bind fun t293=>(some t293)))
def gimbalref90_NTimes.l1:Nat→List Int→List Int→List Int→Int→Int→Int→Option (List Int)
  | 0,_,_,_,_,_,_=>none
  | k+1,x5,x6,x7,x8,x9,x10=>if x10<(x6.length:Int) then (if 0≤(wrap64 (x8+x10)) then (if (wrap64 (x8+x10))<(x7.length:Int) then (if 0≤x8 then (if x8<(x5.length:Int) then (if 0≤x10 then (gimbalref90_NTimes.l1 k x5 x6 (x7.set ((wrap64 (x8+x10)):Int).toNat ((IntKind.u64.wrap ((IntKind.u64.wrap (x9+(IntKind.u64.wrap (rd x7 (wrap64 (x8+x10))))))+(IntKind.u64.wrap ((IntKind.u64.wrap (rd x5 x8))*(IntKind.u64.wrap (rd x6 x10))))))%4294967296)) x8 ((IntKind.u64.wrap ((IntKind.u64.wrap (x9+(IntKind.u64.wrap (rd x7 (wrap64 (x8+x10))))))+(IntKind.u64.wrap ((IntKind.u64.wrap (rd x5 x8))*(IntKind.u64.wrap (rd x6 x10))))))/4294967296) (wrap64 (x10+1))) else (none)) else (none)) else (none)) else (none)) else (none)) else (if 0≤(wrap64 (x8+(x6.length:Int))) then (if (wrap64 (x8+(x6.length:Int)))<(x7.length:Int) then (gimbalref90_NTimes.l0 k x5 x6 (x7.set ((wrap64 (x8+(x6.length:Int))):Int).toNat ((x9)%4294967296)) (wrap64 (x8+1))) else (none)) else (none))
end
def gimbalref90_NTimes.f (k:Nat) (l0:List Int) (l1:List Int):Option (List Int):=(gimbalref90_halves.f k l0).bind fun t281=>((gimbalref90_halves.f k l1).bind fun t284=>(if 0≤(wrap64 ((t281.length:Int)+(t284.length:Int))) then (if (wrap64 ((t281.length:Int)+(t284.length:Int)):Int).toNat≤70368744177664 then (gimbalref90_NTimes.l0 k t281 t284 (List.replicate (wrap64 ((t281.length:Int)+(t284.length:Int)):Int).toNat 0) 0) else (none)) else (none)))
theorem gimbalref90_NTimes.mono_l:∀ k,(∀ y0 y1 y2 y3,LeO (gimbalref90_NTimes.l0 k y0 y1 y2 y3) (gimbalref90_NTimes.l0 (k+1) y0 y1 y2 y3))∧(∀ y0 y1 y2 y3 y4 y5,LeO (gimbalref90_NTimes.l1 k y0 y1 y2 y3 y4 y5) (gimbalref90_NTimes.l1 (k+1) y0 y1 y2 y3 y4 y5))
  | 0=>⟨fun _ _ _ _ r h=>by simp [gimbalref90_NTimes.l0] at h,fun _ _ _ _ _ _ r h=>by simp [gimbalref90_NTimes.l1] at h⟩
  | k + 1 => by
    obtain ⟨ih0,ih1⟩:=gimbalref90_NTimes.mono_l k
    refine ⟨?_,?_⟩
    · intro y0 y1 y2 y3
      unfold gimbalref90_NTimes.l0
      repeat' first
      | (with_reducible exact ih0 _ _ _ _)
      | (with_reducible exact ih1 _ _ _ _ _ _)
      | (with_reducible exact gimbalref90_cut.mono _ _)
      | (with_reducible exact gimbalref90_halves.mono _ _)
      | (with_reducible exact gimbalref90_whole.mono _ _)
      | (with_reducible exact LeO.refl _)
      | (with_reducible exact LeO.none _)
      | (with_reducible refine LeO.ite ?_ ?_)
      | (with_reducible refine LeO.bind ?_ (fun _=>?_))
      | exact ih0 _ _ _ _
      | exact ih1 _ _ _ _ _ _
      | exact gimbalref90_cut.mono _ _
      | exact gimbalref90_halves.mono _ _
      | exact gimbalref90_whole.mono _ _
      | exact LeO.none _
      | refine LeO.ite ?_ ?_
      | refine LeO.bind ?_ (fun _=>?_)
    · intro y0 y1 y2 y3 y4 y5
      unfold gimbalref90_NTimes.l1
      repeat' first
      | (with_reducible exact ih0 _ _ _ _)
      | (with_reducible exact ih1 _ _ _ _ _ _)
      | (with_reducible exact gimbalref90_cut.mono _ _)
      | (with_reducible exact gimbalref90_halves.mono _ _)
      | (with_reducible exact gimbalref90_whole.mono _ _)
      | (with_reducible exact LeO.refl _)
      | (with_reducible exact LeO.none _)
      | (with_reducible refine LeO.ite ?_ ?_)
      | (with_reducible refine LeO.bind ?_ (fun _=>?_))
      | exact ih0 _ _ _ _
      | exact ih1 _ _ _ _ _ _
      | exact gimbalref90_cut.mono _ _
      | exact gimbalref90_halves.mono _ _
      | exact gimbalref90_whole.mono _ _
      | exact LeO.none _
      | refine LeO.ite ?_ ?_
      | refine LeO.bind ?_ (fun _=>?_)
theorem gimbalref90_NTimes.mono:∀ a0 a1 k,LeO (gimbalref90_NTimes.f k a0 a1) (gimbalref90_NTimes.f (k+1) a0 a1):=by
  intro a0 a1 k
  obtain ⟨ih0,ih1⟩:=gimbalref90_NTimes.mono_l k
  unfold gimbalref90_NTimes.f
  repeat' first
      | (with_reducible exact ih0 _ _ _ _)
      | (with_reducible exact ih1 _ _ _ _ _ _)
      | (with_reducible exact gimbalref90_cut.mono _ _)
      | (with_reducible exact gimbalref90_halves.mono _ _)
      | (with_reducible exact gimbalref90_whole.mono _ _)
      | (with_reducible exact LeO.refl _)
      | (with_reducible exact LeO.none _)
      | (with_reducible refine LeO.ite ?_ ?_)
      | (with_reducible refine LeO.bind ?_ (fun _=>?_))
      | exact ih0 _ _ _ _
      | exact ih1 _ _ _ _ _ _
      | exact gimbalref90_cut.mono _ _
      | exact gimbalref90_halves.mono _ _
      | exact gimbalref90_whole.mono _ _
      | exact LeO.none _
      | refine LeO.ite ?_ ?_
      | refine LeO.bind ?_ (fun _=>?_)
set_option maxHeartbeats 8000000 in
set_option maxRecDepth 100000 in
theorem gimbalref90_NTimes.calls (k:Nat) (A0:Option Addr) (c0:Nat) (l0:List Int) (A1:Option Addr) (c1:Nat) (l1:List Int) (r:List Int) (w:World) (hr0:Kd.C (Kd.int .u64) w A0 l0.length l0) (hc0:l0.length≤c0) (hr1:Kd.C (Kd.int .u64) w A1 l1.length l1) (hc1:l1.length≤c1) (h:gimbalref90_NTimes.f k l0 l1=some r) :
    Calls Try.prog 84 #[.slice A0 l0.length c0,.slice A1 l1.length c1] w fun e w'=>∃ v0_:Value,e = .returned (v0_)∧Kd.R (Kd.int .u64) 104 w' w.heap.size (fun _=>True) v0_ r∧Below w.heap.size w w':=by
  have HR0:=Aside0.mk hr0
  have HC0:=Aside0.mk hc0
  clear hr0 hc0
  have HR1:=Aside0.mk hr1
  have HC1:=Aside0.mk hc1
  clear hr1 hc1
  have HB:=Aside0.mk (Below.refl w.heap.size w)
  have H:((gimbalref90_halves.f k l0).bind fun t281=>((gimbalref90_halves.f k l1).bind fun t284=>(if 0≤(wrap64 ((t281.length:Int)+(t284.length:Int))) then (if (wrap64 ((t281.length:Int)+(t284.length:Int)):Int).toNat≤70368744177664 then (gimbalref90_NTimes.l0 k t281 t284 (List.replicate (wrap64 ((t281.length:Int)+(t284.length:Int)):Int).toNat 0) 0) else (none)) else (none))))=some r:=h
  clear h
  replace H:=Option.bind_eq_some_iff.mp H
  obtain ⟨t281,A30,H⟩:=H
  replace H:((gimbalref90_halves.f k l1).bind fun t284=>(if 0≤(wrap64 ((t281.length:Int)+(t284.length:Int))) then (if (wrap64 ((t281.length:Int)+(t284.length:Int)):Int).toNat≤70368744177664 then (gimbalref90_NTimes.l0 k t281 t284 (List.replicate (wrap64 ((t281.length:Int)+(t284.length:Int)):Int).toNat 0) 0) else (none)) else (none)))=some r:=H
  have A3:=Aside0.mk A30
  clear A30
  replace H:=Option.bind_eq_some_iff.mp H
  obtain ⟨t284,A40,H⟩:=H
  replace H:(if 0≤(wrap64 ((t281.length:Int)+(t284.length:Int))) then (if (wrap64 ((t281.length:Int)+(t284.length:Int)):Int).toNat≤70368744177664 then (gimbalref90_NTimes.l0 k t281 t284 (List.replicate (wrap64 ((t281.length:Int)+(t284.length:Int)):Int).toNat 0) 0) else (none)) else (none))=some r:=H
  have A4:=Aside0.mk A40
  clear A40
  obtain ⟨ji5,hji5⟩:∃ j_:Int,(wrap64 ((t281.length:Int)+(t284.length:Int)))=j_:=⟨_,rfl⟩
  replace H:(if 0≤(ji5) then (if (ji5:Int).toNat≤70368744177664 then (gimbalref90_NTimes.l0 k t281 t284 (List.replicate (ji5:Int).toNat 0) 0) else (none)) else (none))=some r:=by first|(rw [hji5] at H;exact H)|(simp only [hji5] at H ⊢;exact H)
  (try rw [hji5] at A3)
  (try rw [hji5] at A4)
  have hji5w:(IntKind.i64.wrap ((t281.length:Int)+(t284.length:Int)))=ji5:=(i64_w _).trans hji5
  by_cases c6:0≤(ji5)
  · rw [if_pos c6] at H
    have c6b0:=eq_true c6
    have c6b1:decide (0≤(ji5))=true:=decide_eq_true c6
    clear c6
    by_cases c7:(ji5:Int).toNat≤70368744177664
    · rw [if_pos c7] at H
      have c7b0:=eq_true c7
      have c7b1:decide ((ji5:Int).toNat≤70368744177664)=true:=decide_eq_true c7
      clear c7
      obtain ⟨y287,hy287⟩:∃ y_:List Int,y_=(List.replicate (ji5:Int).toNat 0):=⟨_,rfl⟩
      replace H:(gimbalref90_NTimes.l0 k t281 t284 y287 0)=some r:=by first|(rw [hy287];with_reducible exact H)|(have H2_:=(Option.bind_some _ _).symm.trans H;rw [hy287];with_reducible exact H2_)|(have H2_:=(Option.bind_some _ _).symm.trans H;with_reducible exact H2_)|with_reducible exact H|(rw [hy287];exact H)|exact H
      have Ny287:=Aside0.mk hy287
      clear hy287
      have H':=Aside0.mk H
      clear H
      go_enter Try.func84,Try.ntmps84
      go_wp2_with (first|(go_at_call 108;(with_reducible refine (gimbalref90_halves.calls k _ _ l0 t281 _ ?side1 ?side2 A3.out).mono ?_);(case side1=>repeat (first|exact HR0.out|(with_reducible refine Kd.C_alloc ?_ _)|(with_reducible refine Kd.C_drewN ?_ _)|(with_reducible refine Kd.C_drew ?_)));(case side2=>exact HC0.out);rintro e w8 ⟨v282,rfl,ho0,hb⟩;have n0_:=Aside0.mk (Kd.R_lower ho0 (below_size (by repeat (first|(with_reducible first|exact HB.out|apply below_alloc|apply pw_below_drewN|apply below_drew1)|exact HB.out))));have n1_:=Aside0.mk (below_step (by repeat (first|(with_reducible first|exact HB.out|apply below_alloc|apply pw_below_drewN|apply below_drew1)|exact HB.out)) hb);clear HB;have HO283:=n0_;have HB:=n1_;clear n0_ n1_;(try clear hb);(try clear hb2);(try clear hk);(try clear hi);(try clear ho0))|(go_at_call 108;(with_reducible refine (gimbalref90_halves.calls k _ _ l1 t284 _ ?side1 ?side2 A4.out).mono ?_);(case side1=>repeat (first|exact (Kd.C_below HR1.out HB.out)|(with_reducible refine Kd.C_alloc ?_ _)|(with_reducible refine Kd.C_drewN ?_ _)|(with_reducible refine Kd.C_drew ?_)));(case side2=>exact HC1.out);rintro e w9 ⟨v285,rfl,ho0,hb⟩;have n0_:=Aside0.mk (Kd.R_elder' (by (with_reducible repeat (first|apply Kd.R_alloc|apply Kd.R_drewN|apply Kd.R_drew));exact HO283.out) (Kd.R_base ho0) hb);have n1_:=Aside0.mk (Kd.R_lower (Kd.R_new' ho0 (Kd.R_lt (by (with_reducible repeat (first|apply Kd.R_alloc|apply Kd.R_drewN|apply Kd.R_drew));exact HO283.out))) (below_size (by repeat (first|(with_reducible first|exact HB.out|apply below_alloc|apply pw_below_drewN|apply below_drew1)|exact HB.out))));have n2_:=Aside0.mk (below_step (by repeat (first|(with_reducible first|exact HB.out|apply below_alloc|apply pw_below_drewN|apply below_drew1)|exact HB.out)) hb);clear HO283;clear HB;have HO283:=n0_;have HO286:=n1_;have HB:=n2_;clear n0_ n1_ n2_;(try clear hb);(try clear hb2);(try clear hk);(try clear hi);(try clear ho0);obtain ⟨Ao10,co10,eo10⟩:=Kd.R_slice HO283.out;subst eo10;obtain ⟨Ao11,co11,eo11⟩:=Kd.R_slice HO286.out;subst eo11)|((with_reducible refine gate_dst (N:=20) rfl ?_);refine Kd.R_make (Kd.int .u32) _ 145 rfl (N:=20) rfl 143 _ _ rfl ji5 rfl rfl Try.underlying143 (.int .u32 0) 4 info145 rfl (by decide) (by omega) 0 (ok:=fun _=>True) (okp:=fun _=>True) rfl (fun _ hk=>hk) trivial (of_decide_eq_true (by first|(with_reducible assumption)|assumption)) (Nat.le_trans (Nat.mul_le_mul_right _ (of_decide_eq_true (by first|(with_reducible assumption)|assumption):ji5.toNat≤70368744177664)) (by omega)) (Below.refl _ _) (Nat.le_refl _) ?_;intro v288 w12 ho13 hb hg_ hnew_;clear hg_ hnew_;(first|rw [← Ny287.out] at ho13|(simp only [Int.reduceToNat] at ho13;rw [← Ny287.out] at ho13));have n0_:=Aside0.mk (Kd.R_elder' (by (with_reducible repeat (first|apply Kd.R_alloc|apply Kd.R_drewN|apply Kd.R_drew));exact HO283.out) (Kd.R_base ho13) hb);have n1_:=Aside0.mk (Kd.R_elder' (by (with_reducible repeat (first|apply Kd.R_alloc|apply Kd.R_drewN|apply Kd.R_drew));exact HO286.out) (Kd.R_base ho13) hb);have n2_:=Aside0.mk (Kd.R_lower (Kd.R_new' (Kd.R_new' ho13 (Kd.R_lt (by (with_reducible repeat (first|apply Kd.R_alloc|apply Kd.R_drewN|apply Kd.R_drew));exact HO283.out))) (Kd.R_lt (by (with_reducible repeat (first|apply Kd.R_alloc|apply Kd.R_drewN|apply Kd.R_drew));exact HO286.out))) (below_size (by repeat (first|(with_reducible first|exact HB.out|apply below_alloc|apply pw_below_drewN|apply below_drew1)|exact HB.out))));have n3_:=Aside0.mk (below_step (by repeat (first|(with_reducible first|exact HB.out|apply below_alloc|apply pw_below_drewN|apply below_drew1)|exact HB.out)) hb);clear HO283;clear HO286;clear HB;have HO283:=n0_;have HO286:=n1_;have HO289:=n2_;have HB:=n3_;clear n0_ n1_ n2_ n3_;clear hb ho13))
      repeat (go_quiet (first|(go_at_call 108;(with_reducible refine (gimbalref90_halves.calls k _ _ l0 t281 _ ?side1 ?side2 A3.out).mono ?_);(case side1=>repeat (first|exact HR0.out|(with_reducible refine Kd.C_alloc ?_ _)|(with_reducible refine Kd.C_drewN ?_ _)|(with_reducible refine Kd.C_drew ?_)));(case side2=>exact HC0.out);rintro e w8 ⟨v282,rfl,ho0,hb⟩;have n0_:=Aside0.mk (Kd.R_lower ho0 (below_size (by repeat (first|(with_reducible first|exact HB.out|apply below_alloc|apply pw_below_drewN|apply below_drew1)|exact HB.out))));have n1_:=Aside0.mk (below_step (by repeat (first|(with_reducible first|exact HB.out|apply below_alloc|apply pw_below_drewN|apply below_drew1)|exact HB.out)) hb);clear HB;have HO283:=n0_;have HB:=n1_;clear n0_ n1_;(try clear hb);(try clear hb2);(try clear hk);(try clear hi);(try clear ho0))|(go_at_call 108;(with_reducible refine (gimbalref90_halves.calls k _ _ l1 t284 _ ?side1 ?side2 A4.out).mono ?_);(case side1=>repeat (first|exact (Kd.C_below HR1.out HB.out)|(with_reducible refine Kd.C_alloc ?_ _)|(with_reducible refine Kd.C_drewN ?_ _)|(with_reducible refine Kd.C_drew ?_)));(case side2=>exact HC1.out);rintro e w9 ⟨v285,rfl,ho0,hb⟩;have n0_:=Aside0.mk (Kd.R_elder' (by (with_reducible repeat (first|apply Kd.R_alloc|apply Kd.R_drewN|apply Kd.R_drew));exact HO283.out) (Kd.R_base ho0) hb);have n1_:=Aside0.mk (Kd.R_lower (Kd.R_new' ho0 (Kd.R_lt (by (with_reducible repeat (first|apply Kd.R_alloc|apply Kd.R_drewN|apply Kd.R_drew));exact HO283.out))) (below_size (by repeat (first|(with_reducible first|exact HB.out|apply below_alloc|apply pw_below_drewN|apply below_drew1)|exact HB.out))));have n2_:=Aside0.mk (below_step (by repeat (first|(with_reducible first|exact HB.out|apply below_alloc|apply pw_below_drewN|apply below_drew1)|exact HB.out)) hb);clear HO283;clear HB;have HO283:=n0_;have HO286:=n1_;have HB:=n2_;clear n0_ n1_ n2_;(try clear hb);(try clear hb2);(try clear hk);(try clear hi);(try clear ho0);obtain ⟨Ao10,co10,eo10⟩:=Kd.R_slice HO283.out;subst eo10;obtain ⟨Ao11,co11,eo11⟩:=Kd.R_slice HO286.out;subst eo11)|((with_reducible refine gate_dst (N:=20) rfl ?_);refine Kd.R_make (Kd.int .u32) _ 145 rfl (N:=20) rfl 143 _ _ rfl ji5 rfl rfl Try.underlying143 (.int .u32 0) 4 info145 rfl (by decide) (by omega) 0 (ok:=fun _=>True) (okp:=fun _=>True) rfl (fun _ hk=>hk) trivial (of_decide_eq_true (by first|(with_reducible assumption)|assumption)) (Nat.le_trans (Nat.mul_le_mul_right _ (of_decide_eq_true (by first|(with_reducible assumption)|assumption):ji5.toNat≤70368744177664)) (by omega)) (Below.refl _ _) (Nat.le_refl _) ?_;intro v288 w12 ho13 hb hg_ hnew_;clear hg_ hnew_;(first|rw [← Ny287.out] at ho13|(simp only [Int.reduceToNat] at ho13;rw [← Ny287.out] at ho13));have n0_:=Aside0.mk (Kd.R_elder' (by (with_reducible repeat (first|apply Kd.R_alloc|apply Kd.R_drewN|apply Kd.R_drew));exact HO283.out) (Kd.R_base ho13) hb);have n1_:=Aside0.mk (Kd.R_elder' (by (with_reducible repeat (first|apply Kd.R_alloc|apply Kd.R_drewN|apply Kd.R_drew));exact HO286.out) (Kd.R_base ho13) hb);have n2_:=Aside0.mk (Kd.R_lower (Kd.R_new' (Kd.R_new' ho13 (Kd.R_lt (by (with_reducible repeat (first|apply Kd.R_alloc|apply Kd.R_drewN|apply Kd.R_drew));exact HO283.out))) (Kd.R_lt (by (with_reducible repeat (first|apply Kd.R_alloc|apply Kd.R_drewN|apply Kd.R_drew));exact HO286.out))) (below_size (by repeat (first|(with_reducible first|exact HB.out|apply below_alloc|apply pw_below_drewN|apply below_drew1)|exact HB.out))));have n3_:=Aside0.mk (below_step (by repeat (first|(with_reducible first|exact HB.out|apply below_alloc|apply pw_below_drewN|apply below_drew1)|exact HB.out)) hb);clear HO283;clear HO286;clear HB;have HO283:=n0_;have HO286:=n1_;have HO289:=n2_;have HB:=n3_;clear n0_ n1_ n2_ n3_;clear hb ho13));try go_wp2_with (first|(go_at_call 108;(with_reducible refine (gimbalref90_halves.calls k _ _ l0 t281 _ ?side1 ?side2 A3.out).mono ?_);(case side1=>repeat (first|exact HR0.out|(with_reducible refine Kd.C_alloc ?_ _)|(with_reducible refine Kd.C_drewN ?_ _)|(with_reducible refine Kd.C_drew ?_)));(case side2=>exact HC0.out);rintro e w8 ⟨v282,rfl,ho0,hb⟩;have n0_:=Aside0.mk (Kd.R_lower ho0 (below_size (by repeat (first|(with_reducible first|exact HB.out|apply below_alloc|apply pw_below_drewN|apply below_drew1)|exact HB.out))));have n1_:=Aside0.mk (below_step (by repeat (first|(with_reducible first|exact HB.out|apply below_alloc|apply pw_below_drewN|apply below_drew1)|exact HB.out)) hb);clear HB;have HO283:=n0_;have HB:=n1_;clear n0_ n1_;(try clear hb);(try clear hb2);(try clear hk);(try clear hi);(try clear ho0))|(go_at_call 108;(with_reducible refine (gimbalref90_halves.calls k _ _ l1 t284 _ ?side1 ?side2 A4.out).mono ?_);(case side1=>repeat (first|exact (Kd.C_below HR1.out HB.out)|(with_reducible refine Kd.C_alloc ?_ _)|(with_reducible refine Kd.C_drewN ?_ _)|(with_reducible refine Kd.C_drew ?_)));(case side2=>exact HC1.out);rintro e w9 ⟨v285,rfl,ho0,hb⟩;have n0_:=Aside0.mk (Kd.R_elder' (by (with_reducible repeat (first|apply Kd.R_alloc|apply Kd.R_drewN|apply Kd.R_drew));exact HO283.out) (Kd.R_base ho0) hb);have n1_:=Aside0.mk (Kd.R_lower (Kd.R_new' ho0 (Kd.R_lt (by (with_reducible repeat (first|apply Kd.R_alloc|apply Kd.R_drewN|apply Kd.R_drew));exact HO283.out))) (below_size (by repeat (first|(with_reducible first|exact HB.out|apply below_alloc|apply pw_below_drewN|apply below_drew1)|exact HB.out))));have n2_:=Aside0.mk (below_step (by repeat (first|(with_reducible first|exact HB.out|apply below_alloc|apply pw_below_drewN|apply below_drew1)|exact HB.out)) hb);clear HO283;clear HB;have HO283:=n0_;have HO286:=n1_;have HB:=n2_;clear n0_ n1_ n2_;(try clear hb);(try clear hb2);(try clear hk);(try clear hi);(try clear ho0);obtain ⟨Ao10,co10,eo10⟩:=Kd.R_slice HO283.out;subst eo10;obtain ⟨Ao11,co11,eo11⟩:=Kd.R_slice HO286.out;subst eo11)|((with_reducible refine gate_dst (N:=20) rfl ?_);refine Kd.R_make (Kd.int .u32) _ 145 rfl (N:=20) rfl 143 _ _ rfl ji5 rfl rfl Try.underlying143 (.int .u32 0) 4 info145 rfl (by decide) (by omega) 0 (ok:=fun _=>True) (okp:=fun _=>True) rfl (fun _ hk=>hk) trivial (of_decide_eq_true (by first|(with_reducible assumption)|assumption)) (Nat.le_trans (Nat.mul_le_mul_right _ (of_decide_eq_true (by first|(with_reducible assumption)|assumption):ji5.toNat≤70368744177664)) (by omega)) (Below.refl _ _) (Nat.le_refl _) ?_;intro v288 w12 ho13 hb hg_ hnew_;clear hg_ hnew_;(first|rw [← Ny287.out] at ho13|(simp only [Int.reduceToNat] at ho13;rw [← Ny287.out] at ho13));have n0_:=Aside0.mk (Kd.R_elder' (by (with_reducible repeat (first|apply Kd.R_alloc|apply Kd.R_drewN|apply Kd.R_drew));exact HO283.out) (Kd.R_base ho13) hb);have n1_:=Aside0.mk (Kd.R_elder' (by (with_reducible repeat (first|apply Kd.R_alloc|apply Kd.R_drewN|apply Kd.R_drew));exact HO286.out) (Kd.R_base ho13) hb);have n2_:=Aside0.mk (Kd.R_lower (Kd.R_new' (Kd.R_new' ho13 (Kd.R_lt (by (with_reducible repeat (first|apply Kd.R_alloc|apply Kd.R_drewN|apply Kd.R_drew));exact HO283.out))) (Kd.R_lt (by (with_reducible repeat (first|apply Kd.R_alloc|apply Kd.R_drewN|apply Kd.R_drew));exact HO286.out))) (below_size (by repeat (first|(with_reducible first|exact HB.out|apply below_alloc|apply pw_below_drewN|apply below_drew1)|exact HB.out))));have n3_:=Aside0.mk (below_step (by repeat (first|(with_reducible first|exact HB.out|apply below_alloc|apply pw_below_drewN|apply below_drew1)|exact HB.out)) hb);clear HO283;clear HO286;clear HB;have HO283:=n0_;have HO286:=n1_;have HO289:=n2_;have HB:=n3_;clear n0_ n1_ n2_ n3_;clear hb ho13)))
      go_loopg [8] k (fun kq v8 w'=>∃ (x7_1:List Int) (x8_1:Int),v8 = .int .i64 x8_1∧Aside0 (gimbalref90_NTimes.l0 kq t281 t284 x7_1 x8_1=some r)∧Aside0 (kq≤k)∧Aside0 (Kd.R (Kd.int .u32) 145 w' w.heap.size (fun k_=>some k_≠((.slice Ao11 t284.length co11):Value).ownBlock∧some k_≠(v288:Value).ownBlock) (.slice Ao10 t281.length co10) t281)∧Aside0 (Kd.R (Kd.int .u32) 145 w' w.heap.size (fun k_=>some k_≠((.slice Ao10 t281.length co10):Value).ownBlock∧some k_≠(v288:Value).ownBlock) (.slice Ao11 t284.length co11) t284)∧Aside0 (Kd.R (Kd.int .u32) 145 w' w.heap.size (fun k_=>some k_≠((.slice Ao10 t281.length co10):Value).ownBlock∧some k_≠((.slice Ao11 t284.length co11):Value).ownBlock) v288 x7_1)∧Aside0 (Below w.heap.size w w'))
      case atStart=>exact ⟨(y287),(0),(by first|rfl|(simp;done)|(simp [*];done)),H',⟨Nat.le_refl _⟩,⟨by (with_reducible repeat (first|apply Kd.R_alloc|apply Kd.R_drewN|apply Kd.R_drew));exact Kd.R_mono HO283.out (fun _ hk=>⟨hk.1.2,hk.2⟩)⟩,⟨by (with_reducible repeat (first|apply Kd.R_alloc|apply Kd.R_drewN|apply Kd.R_drew));exact Kd.R_mono HO286.out (fun _ hk=>⟨hk.1.2,hk.2⟩)⟩,⟨by (with_reducible repeat (first|apply Kd.R_alloc|apply Kd.R_drewN|apply Kd.R_drew));exact Kd.R_mono HO289.out (fun _ hk=>⟨hk.1.2,hk.2⟩)⟩,⟨by repeat (first|(with_reducible first|exact HB.out|apply below_alloc|apply pw_below_drewN|apply below_drew1)|exact HB.out)⟩⟩
      case round =>
        clear H'
        try clear c1
        try clear p2
        try clear c6
        try clear c6b0
        try clear c6b1
        try clear p6
        try clear c7
        try clear c7b0
        try clear c7b1
        try clear c8
        obtain ⟨x7_1,x8_1,rfl,HA,HK1,HO_5,HO_6,HO_7,HB⟩:=hrel
        cases gk with
        | zero=>exact absurd HA.out (by simp [gimbalref90_NTimes.l0])
        | succ k1 =>
          have H:=HA.out
          clear HA
          simp only [gimbalref90_NTimes.l0] at H
          by_cases c14:x8_1<(t281.length:Int)
          · rw [if_pos c14] at H
            have c14b0:decide (x8_1<(t281.length:Int))=true:=decide_eq_true c14
            clear c14
            have H':=Aside0.mk H
            clear H
            go_wp2
            repeat (go_quiet (fail);try go_wp2)
            go_loopg [9,10] k1 (fun kq v9 v10 w'=>∃ (x7_2:List Int) (x9_2:Int) (x10_2:Int),v9 = .int .u64 x9_2∧v10 = .int .i64 x10_2∧Aside0 (gimbalref90_NTimes.l1 kq t281 t284 x7_2 x8_1 x9_2 x10_2=some r)∧Aside0 (kq≤k1)∧Aside0 (Kd.R (Kd.int .u32) 145 w' w.heap.size (fun k_=>some k_≠((.slice Ao11 t284.length co11):Value).ownBlock∧some k_≠(v288:Value).ownBlock) (.slice Ao10 t281.length co10) t281)∧Aside0 (Kd.R (Kd.int .u32) 145 w' w.heap.size (fun k_=>some k_≠((.slice Ao10 t281.length co10):Value).ownBlock∧some k_≠(v288:Value).ownBlock) (.slice Ao11 t284.length co11) t284)∧Aside0 (Kd.R (Kd.int .u32) 145 w' w.heap.size (fun k_=>some k_≠((.slice Ao10 t281.length co10):Value).ownBlock∧some k_≠((.slice Ao11 t284.length co11):Value).ownBlock) v288 x7_2)∧Aside0 (Below w.heap.size w w'))
            case atStart=>exact ⟨(x7_1),(0),(0),(by first|rfl|(simp;done)|(simp [*];done)),(by first|rfl|(simp;done)|(simp [*];done)),H',⟨Nat.le_refl _⟩,⟨by (with_reducible repeat (first|apply Kd.R_alloc|apply Kd.R_drewN|apply Kd.R_drew));exact HO_5.out⟩,⟨by (with_reducible repeat (first|apply Kd.R_alloc|apply Kd.R_drewN|apply Kd.R_drew));exact HO_6.out⟩,⟨by (with_reducible repeat (first|apply Kd.R_alloc|apply Kd.R_drewN|apply Kd.R_drew));exact HO_7.out⟩,⟨by repeat (first|(with_reducible first|exact HB.out|apply below_alloc|apply pw_below_drewN|apply below_drew1)|exact HB.out)⟩⟩
            case round =>
              clear H'
              try clear c1
              try clear p2
              try clear c6
              try clear c6b0
              try clear c6b1
              try clear p6
              try clear c7
              try clear c7b0
              try clear c7b1
              try clear c8
              try clear c14
              try clear c14b0
              try clear p2
              try clear p6
              obtain ⟨x7_2,x9_2,x10_2,rfl,rfl,HA,HK2,HO_5,HO_6,HO_7,HB⟩:=hrel
              cases gk with
              | zero=>exact absurd HA.out (by simp [gimbalref90_NTimes.l1])
              | succ k2 =>
                have H:=HA.out
                clear HA
                simp only [gimbalref90_NTimes.l1] at H
                by_cases c15:x10_2<(t284.length:Int)
                · rw [if_pos c15] at H
                  have c15b0:decide (x10_2<(t284.length:Int))=true:=decide_eq_true c15
                  clear c15
                  obtain ⟨ji16,hji16⟩:∃ j_:Int,(wrap64 (x8_1+x10_2))=j_:=⟨_,rfl⟩
                  replace H:(if 0≤(ji16) then (if (ji16)<(x7_2.length:Int) then (if 0≤x8_1 then (if x8_1<(t281.length:Int) then (if 0≤x10_2 then (gimbalref90_NTimes.l1 k2 t281 t284 (x7_2.set ((ji16):Int).toNat ((IntKind.u64.wrap ((IntKind.u64.wrap (x9_2+(IntKind.u64.wrap (rd x7_2 (ji16)))))+(IntKind.u64.wrap ((IntKind.u64.wrap (rd t281 x8_1))*(IntKind.u64.wrap (rd t284 x10_2))))))%4294967296)) x8_1 ((IntKind.u64.wrap ((IntKind.u64.wrap (x9_2+(IntKind.u64.wrap (rd x7_2 (ji16)))))+(IntKind.u64.wrap ((IntKind.u64.wrap (rd t281 x8_1))*(IntKind.u64.wrap (rd t284 x10_2))))))/4294967296) (wrap64 (x10_2+1))) else (none)) else (none)) else (none)) else (none)) else (none))=some r:=by first|(rw [hji16] at H;exact H)|(simp only [hji16] at H ⊢;exact H)
                  have hji16w:(IntKind.i64.wrap (x8_1+x10_2))=ji16:=(i64_w _).trans hji16
                  by_cases c17:0≤(ji16)
                  · rw [if_pos c17] at H
                    have c17b0:decide (0≤(ji16))=true:=decide_eq_true c17
                    clear c17
                    by_cases c18:(ji16)<(x7_2.length:Int)
                    · rw [if_pos c18] at H
                      have c18b0:decide ((ji16)<(x7_2.length:Int))=true:=decide_eq_true c18
                      clear c18
                      by_cases c19:0≤x8_1
                      · rw [if_pos c19] at H
                        have c19b0:decide (0≤x8_1)=true:=decide_eq_true c19
                        clear c19
                        by_cases c20:x8_1<(t281.length:Int)
                        · rw [if_pos c20] at H
                          have c20b0:decide (x8_1<(t281.length:Int))=true:=decide_eq_true c20
                          clear c20
                          by_cases c21:0≤x10_2
                          · rw [if_pos c21] at H
                            have c21b0:decide (0≤x10_2)=true:=decide_eq_true c21
                            clear c21
                            obtain ⟨y299,hy299⟩:∃ y_:List Int,y_=(x7_2.set ((ji16):Int).toNat ((IntKind.u64.wrap ((IntKind.u64.wrap (x9_2+(IntKind.u64.wrap (rd x7_2 (ji16)))))+(IntKind.u64.wrap ((IntKind.u64.wrap (rd t281 x8_1))*(IntKind.u64.wrap (rd t284 x10_2))))))%4294967296)):=⟨_,rfl⟩
                            replace H:(gimbalref90_NTimes.l1 k2 t281 t284 y299 x8_1 ((IntKind.u64.wrap ((IntKind.u64.wrap (x9_2+(IntKind.u64.wrap (rd x7_2 (ji16)))))+(IntKind.u64.wrap ((IntKind.u64.wrap (rd t281 x8_1))*(IntKind.u64.wrap (rd t284 x10_2))))))/4294967296) (wrap64 (x10_2+1)))=some r:=by first|(rw [hy299];with_reducible exact H)|(have H2_:=(Option.bind_some _ _).symm.trans H;rw [hy299];with_reducible exact H2_)|(have H2_:=(Option.bind_some _ _).symm.trans H;with_reducible exact H2_)|with_reducible exact H|(rw [hy299];exact H)|exact H
                            have Ny299:=Aside0.mk hy299
                            clear hy299
                            have H':=Aside0.mk H
                            clear H
                            obtain ⟨Ao23,co23,eo23⟩:=Kd.R_slice HO_7.out
                            subst eo23
                            have p296:0≤((ji16):Int):=of_decide_eq_true (by first|(with_reducible assumption)|assumption)
                            have q296:(ji16)<(x7_2.length:Int):=of_decide_eq_true (by first|(with_reducible assumption)|assumption)
                            obtain ⟨ad296,e296,hx296_0⟩:=Kd.at_int (Kd.R_reads' HO_7.out).2.2 (ji16) p296 q296
                            cases e296
                            replace p296:=eq_true p296
                            replace q296:=eq_true q296
                            have p297:0≤(x8_1:Int):=of_decide_eq_true (by first|(with_reducible assumption)|assumption)
                            have q297:x8_1<(t281.length:Int):=of_decide_eq_true (by first|(with_reducible assumption)|assumption)
                            obtain ⟨ad297,e297,hx297_0⟩:=Kd.at_int (Kd.R_reads' HO_5.out).2.2 x8_1 p297 q297
                            cases e297
                            replace p297:=eq_true p297
                            replace q297:=eq_true q297
                            have p298:0≤(x10_2:Int):=of_decide_eq_true (by first|(with_reducible assumption)|assumption)
                            have q298:x10_2<(t284.length:Int):=of_decide_eq_true (by first|(with_reducible assumption)|assumption)
                            obtain ⟨ad298,e298,hx298_0⟩:=Kd.at_int (Kd.R_reads' HO_6.out).2.2 x10_2 p298 q298
                            cases e298
                            replace p298:=eq_true p298
                            replace q298:=eq_true q298
                            have p22:0≤((ji16):Int):=of_decide_eq_true (by first|(with_reducible assumption)|assumption)
                            have q22:((ji16):Int)<((x7_2.length:Int):Int):=of_decide_eq_true (by first|(with_reducible assumption)|assumption)
                            obtain ⟨go22,co22,eo22,gb22,gl22,cl22,HG22⟩:=Kd.R_form HO_7.out (by omega)
                            (first|cases eo22|(injection eo22 with ea_ en_ ec_;(first|subst ea_|(injection ea_ with ea_;subst ea_));subst ec_;clear en_))
                            have GB22:=Aside0.mk gb22
                            have GG22:=Aside0.mk HG22
                            clear gb22 gl22 HG22
                            (first|simp only [add_plain] at hx296_0|skip)
                            obtain ⟨hx22_0,hf22_0⟩:=Kd.R_celln 0 HO_7.out ((ji16):Int) p22 q22
                            replace p22:=eq_true p22
                            replace q22:=eq_true q22
                            have HP24:=Kd.R_putg HO_7.out ((ji16):Int) ((IntKind.u64.wrap ((IntKind.u64.wrap (x9_2+(IntKind.u64.wrap (rd x7_2 (ji16)))))+(IntKind.u64.wrap ((IntKind.u64.wrap (rd t281 x8_1))*(IntKind.u64.wrap (rd t284 x10_2))))))%4294967296)
                            go_wp2_with (first|((with_reducible refine gate_store (t:=145) (p:=60) rfl ?_);(try (rw [drewN_self wr];generalize hq_:World.drewN wr _=wr;have n0_:=Aside0.mk (Kd.R_at hq_ HO_5.out);have n1_:=Aside0.mk (Kd.R_at hq_ HO_6.out);have n2_:=Aside0.mk (Kd.R_at hq_ HO_7.out);have n3_:=Aside0.mk (below_at hq_ HB.out);clear hq_ HO_5 HO_6 HO_7 HB;have HO_5:=n0_;have HO_6:=n1_;have HO_7:=n2_;have HB:=n3_;clear n0_ n1_ n2_ n3_;(try (have HP24:=Kd.R_putg HO_7.out ((ji16):Int) ((IntKind.u64.wrap ((IntKind.u64.wrap (x9_2+(IntKind.u64.wrap (rd x7_2 (ji16)))))+(IntKind.u64.wrap ((IntKind.u64.wrap (rd t281 x8_1))*(IntKind.u64.wrap (rd t284 x10_2))))))%4294967296)))));refine store_event (t:=145) (p:=60) (v:=?vo_w25) (w1:=(wr.setCell ⟨go22,((ji16):Int).toNat,none⟩ (.int .u32 ((IntKind.u64.wrap ((IntKind.u64.wrap (x9_2+(IntKind.u64.wrap (rd x7_2 (ji16)))))+(IntKind.u64.wrap ((IntKind.u64.wrap (rd t281 x8_1))*(IntKind.u64.wrap (rd t284 x10_2))))))%4294967296)))) ?hg ?ho ?hn ?hr ?_;(case ho=>rfl);(case hg=>rfl);(case hn=>rfl);(case hr=>first|(go_simp;done)|(go_simp;rfl));intro w25 hw;have hg:wr.grownBy w25 (some go22):=(by rw [hw];exact HP24.2);have hp_:Kd.R (Kd.int .u32) 145 w25 w.heap.size (fun k_=>some k_≠(.slice (some ad297) t281.length co10:Value).ownBlock∧some k_≠(.slice (some ad298) t284.length co11:Value).ownBlock) (.slice (some ⟨go22,0,none⟩) x7_2.length co23) y299:=(by rw [hw,Ny299.out];exact HP24.1);clear HP24;have n0_:=Aside0.mk (Kd.R_after (v:=(.slice (some ⟨go22,0,none⟩) x7_2.length co23)) (v1:=(.slice (some ⟨go22,0,none⟩) x7_2.length co23)) (ok:=(fun k_=>some k_≠(.slice (some ad298) t284.length co11:Value).ownBlock)) (by (with_reducible repeat (first|apply Kd.R_alloc|apply Kd.R_drewN|apply Kd.R_drew));exact HO_5.out) hg (.inl rfl));have n1_:=Aside0.mk (Kd.R_after (v:=(.slice (some ⟨go22,0,none⟩) x7_2.length co23)) (v1:=(.slice (some ⟨go22,0,none⟩) x7_2.length co23)) (ok:=(fun k_=>some k_≠(.slice (some ad297) t281.length co10:Value).ownBlock)) (by (with_reducible repeat (first|apply Kd.R_alloc|apply Kd.R_drewN|apply Kd.R_drew));exact HO_6.out) hg (.inl rfl));have n2_:=Aside0.mk (hp_);have n3_:=Aside0.mk ((by rw [hw];exact below_set (HB.out) GB22.out:Below w.heap.size w w25));clear HO_5;clear HO_6;clear HO_7;clear HB;have HO_5:=n0_;have HO_6:=n1_;have HO_7:=n2_;have HB:=n3_;clear n0_ n1_ n2_ n3_;clear hg hw hp_))
                            repeat (go_quiet (first|((with_reducible refine gate_store (t:=145) (p:=60) rfl ?_);(try (rw [drewN_self wr];generalize hq_:World.drewN wr _=wr;have n0_:=Aside0.mk (Kd.R_at hq_ HO_5.out);have n1_:=Aside0.mk (Kd.R_at hq_ HO_6.out);have n2_:=Aside0.mk (Kd.R_at hq_ HO_7.out);have n3_:=Aside0.mk (below_at hq_ HB.out);clear hq_ HO_5 HO_6 HO_7 HB;have HO_5:=n0_;have HO_6:=n1_;have HO_7:=n2_;have HB:=n3_;clear n0_ n1_ n2_ n3_;(try (have HP24:=Kd.R_putg HO_7.out ((ji16):Int) ((IntKind.u64.wrap ((IntKind.u64.wrap (x9_2+(IntKind.u64.wrap (rd x7_2 (ji16)))))+(IntKind.u64.wrap ((IntKind.u64.wrap (rd t281 x8_1))*(IntKind.u64.wrap (rd t284 x10_2))))))%4294967296)))));refine store_event (t:=145) (p:=60) (v:=?vo_w25) (w1:=(wr.setCell ⟨go22,((ji16):Int).toNat,none⟩ (.int .u32 ((IntKind.u64.wrap ((IntKind.u64.wrap (x9_2+(IntKind.u64.wrap (rd x7_2 (ji16)))))+(IntKind.u64.wrap ((IntKind.u64.wrap (rd t281 x8_1))*(IntKind.u64.wrap (rd t284 x10_2))))))%4294967296)))) ?hg ?ho ?hn ?hr ?_;(case ho=>rfl);(case hg=>rfl);(case hn=>rfl);(case hr=>first|(go_simp;done)|(go_simp;rfl));intro w25 hw;have hg:wr.grownBy w25 (some go22):=(by rw [hw];exact HP24.2);have hp_:Kd.R (Kd.int .u32) 145 w25 w.heap.size (fun k_=>some k_≠(.slice (some ad297) t281.length co10:Value).ownBlock∧some k_≠(.slice (some ad298) t284.length co11:Value).ownBlock) (.slice (some ⟨go22,0,none⟩) x7_2.length co23) y299:=(by rw [hw,Ny299.out];exact HP24.1);clear HP24;have n0_:=Aside0.mk (Kd.R_after (v:=(.slice (some ⟨go22,0,none⟩) x7_2.length co23)) (v1:=(.slice (some ⟨go22,0,none⟩) x7_2.length co23)) (ok:=(fun k_=>some k_≠(.slice (some ad298) t284.length co11:Value).ownBlock)) (by (with_reducible repeat (first|apply Kd.R_alloc|apply Kd.R_drewN|apply Kd.R_drew));exact HO_5.out) hg (.inl rfl));have n1_:=Aside0.mk (Kd.R_after (v:=(.slice (some ⟨go22,0,none⟩) x7_2.length co23)) (v1:=(.slice (some ⟨go22,0,none⟩) x7_2.length co23)) (ok:=(fun k_=>some k_≠(.slice (some ad297) t281.length co10:Value).ownBlock)) (by (with_reducible repeat (first|apply Kd.R_alloc|apply Kd.R_drewN|apply Kd.R_drew));exact HO_6.out) hg (.inl rfl));have n2_:=Aside0.mk (hp_);have n3_:=Aside0.mk ((by rw [hw];exact below_set (HB.out) GB22.out:Below w.heap.size w w25));clear HO_5;clear HO_6;clear HO_7;clear HB;have HO_5:=n0_;have HO_6:=n1_;have HO_7:=n2_;have HB:=n3_;clear n0_ n1_ n2_ n3_;clear hg hw hp_));try go_wp2_with (first|((with_reducible refine gate_store (t:=145) (p:=60) rfl ?_);(try (rw [drewN_self wr];generalize hq_:World.drewN wr _=wr;have n0_:=Aside0.mk (Kd.R_at hq_ HO_5.out);have n1_:=Aside0.mk (Kd.R_at hq_ HO_6.out);have n2_:=Aside0.mk (Kd.R_at hq_ HO_7.out);have n3_:=Aside0.mk (below_at hq_ HB.out);clear hq_ HO_5 HO_6 HO_7 HB;have HO_5:=n0_;have HO_6:=n1_;have HO_7:=n2_;have HB:=n3_;clear n0_ n1_ n2_ n3_;(try (have HP24:=Kd.R_putg HO_7.out ((ji16):Int) ((IntKind.u64.wrap ((IntKind.u64.wrap (x9_2+(IntKind.u64.wrap (rd x7_2 (ji16)))))+(IntKind.u64.wrap ((IntKind.u64.wrap (rd t281 x8_1))*(IntKind.u64.wrap (rd t284 x10_2))))))%4294967296)))));refine store_event (t:=145) (p:=60) (v:=?vo_w25) (w1:=(wr.setCell ⟨go22,((ji16):Int).toNat,none⟩ (.int .u32 ((IntKind.u64.wrap ((IntKind.u64.wrap (x9_2+(IntKind.u64.wrap (rd x7_2 (ji16)))))+(IntKind.u64.wrap ((IntKind.u64.wrap (rd t281 x8_1))*(IntKind.u64.wrap (rd t284 x10_2))))))%4294967296)))) ?hg ?ho ?hn ?hr ?_;(case ho=>rfl);(case hg=>rfl);(case hn=>rfl);(case hr=>first|(go_simp;done)|(go_simp;rfl));intro w25 hw;have hg:wr.grownBy w25 (some go22):=(by rw [hw];exact HP24.2);have hp_:Kd.R (Kd.int .u32) 145 w25 w.heap.size (fun k_=>some k_≠(.slice (some ad297) t281.length co10:Value).ownBlock∧some k_≠(.slice (some ad298) t284.length co11:Value).ownBlock) (.slice (some ⟨go22,0,none⟩) x7_2.length co23) y299:=(by rw [hw,Ny299.out];exact HP24.1);clear HP24;have n0_:=Aside0.mk (Kd.R_after (v:=(.slice (some ⟨go22,0,none⟩) x7_2.length co23)) (v1:=(.slice (some ⟨go22,0,none⟩) x7_2.length co23)) (ok:=(fun k_=>some k_≠(.slice (some ad298) t284.length co11:Value).ownBlock)) (by (with_reducible repeat (first|apply Kd.R_alloc|apply Kd.R_drewN|apply Kd.R_drew));exact HO_5.out) hg (.inl rfl));have n1_:=Aside0.mk (Kd.R_after (v:=(.slice (some ⟨go22,0,none⟩) x7_2.length co23)) (v1:=(.slice (some ⟨go22,0,none⟩) x7_2.length co23)) (ok:=(fun k_=>some k_≠(.slice (some ad297) t281.length co10:Value).ownBlock)) (by (with_reducible repeat (first|apply Kd.R_alloc|apply Kd.R_drewN|apply Kd.R_drew));exact HO_6.out) hg (.inl rfl));have n2_:=Aside0.mk (hp_);have n3_:=Aside0.mk ((by rw [hw];exact below_set (HB.out) GB22.out:Below w.heap.size w w25));clear HO_5;clear HO_6;clear HO_7;clear HB;have HO_5:=n0_;have HO_6:=n1_;have HO_7:=n2_;have HB:=n3_;clear n0_ n1_ n2_ n3_;clear hg hw hp_)))
                            have HOD0:Kd.R (Kd.int .u32) 145 (wr.drewN nq) w.heap.size (fun k_=>some k_≠(.slice (some ad297) t281.length co10:Value).ownBlock∧some k_≠(.slice (some ad298) t284.length co11:Value).ownBlock) (.slice (some ⟨go22,0,none⟩) x7_2.length co23) x7_2:=by (with_reducible repeat (first|apply Kd.R_alloc|apply Kd.R_drewN|apply Kd.R_drew));exact HO_7.out
                            have HOD:=Kd.R_putg HOD0 ((ji16):Int) ((IntKind.u64.wrap ((IntKind.u64.wrap (x9_2+(IntKind.u64.wrap (rd x7_2 (ji16)))))+(IntKind.u64.wrap ((IntKind.u64.wrap (rd t281 x8_1))*(IntKind.u64.wrap (rd t284 x10_2))))))%4294967296)
                            go_roundg k2
                            case measure=>have:=HK1.out;have:=HK2.out;omega
                            case rel=>exact ⟨(y299),((IntKind.u64.wrap ((IntKind.u64.wrap (x9_2+(IntKind.u64.wrap (rd x7_2 (ji16)))))+(IntKind.u64.wrap ((IntKind.u64.wrap (rd t281 x8_1))*(IntKind.u64.wrap (rd t284 x10_2))))))/4294967296),(wrap64 (x10_2+1)),(by first|rfl|(simp;done)|(simp only [← hji16]<;>(first|rfl|simp))|(simp [*];done)),(by first|rfl|(simp;done)|(simp [*];done)),H',⟨by have:=HK1.out;have:=HK2.out;omega⟩,⟨by refine Kd.R_after (W:=wr.drewN nq) (v:=(.slice (some ⟨go22,0,none⟩) x7_2.length co23)) (v1:=(.slice (some ⟨go22,0,none⟩) x7_2.length co23)) (ok:=(fun k_=>some k_≠(.slice (some ad298) t284.length co11:Value).ownBlock)) ?_ HOD.2 (.inl rfl);(with_reducible repeat (first|apply Kd.R_alloc|apply Kd.R_drewN|apply Kd.R_drew));exact HO_5.out⟩,⟨by refine Kd.R_after (W:=wr.drewN nq) (v:=(.slice (some ⟨go22,0,none⟩) x7_2.length co23)) (v1:=(.slice (some ⟨go22,0,none⟩) x7_2.length co23)) (ok:=(fun k_=>some k_≠(.slice (some ad297) t281.length co10:Value).ownBlock)) ?_ HOD.2 (.inl rfl);(with_reducible repeat (first|apply Kd.R_alloc|apply Kd.R_drewN|apply Kd.R_drew));exact HO_6.out⟩,⟨by rw [Ny299.out];exact HOD.1⟩,⟨below_set (pw_below_drewN HB.out nq) GB22.out⟩⟩
                          · rw [if_neg c21] at H
                            exact absurd H (by simp)
                        · rw [if_neg c20] at H
                          exact absurd H (by simp)
                      · rw [if_neg c19] at H
                        exact absurd H (by simp)
                    · rw [if_neg c18] at H
                      exact absurd H (by simp)
                  · rw [if_neg c17] at H
                    exact absurd H (by simp)
                · rw [if_neg c15] at H
                  have c15b0:decide (x10_2<(t284.length:Int))=false:=decide_eq_false c15
                  clear c15
                  obtain ⟨ji26,hji26⟩:∃ j_:Int,(wrap64 (x8_1+(t284.length:Int)))=j_:=⟨_,rfl⟩
                  replace H:(if 0≤(ji26) then (if (ji26)<(x7_2.length:Int) then (gimbalref90_NTimes.l0 k2 t281 t284 (x7_2.set ((ji26):Int).toNat ((x9_2)%4294967296)) (wrap64 (x8_1+1))) else (none)) else (none))=some r:=by first|(rw [hji26] at H;exact H)|(simp only [hji26] at H ⊢;exact H)
                  have hji26w:(IntKind.i64.wrap (x8_1+(t284.length:Int)))=ji26:=(i64_w _).trans hji26
                  by_cases c27:0≤(ji26)
                  · rw [if_pos c27] at H
                    have c27b0:decide (0≤(ji26))=true:=decide_eq_true c27
                    clear c27
                    by_cases c28:(ji26)<(x7_2.length:Int)
                    · rw [if_pos c28] at H
                      have c28b0:decide ((ji26)<(x7_2.length:Int))=true:=decide_eq_true c28
                      clear c28
                      obtain ⟨y300,hy300⟩:∃ y_:List Int,y_=(x7_2.set ((ji26):Int).toNat ((x9_2)%4294967296)):=⟨_,rfl⟩
                      replace H:(gimbalref90_NTimes.l0 k2 t281 t284 y300 (wrap64 (x8_1+1)))=some r:=by first|(rw [hy300];with_reducible exact H)|(have H2_:=(Option.bind_some _ _).symm.trans H;rw [hy300];with_reducible exact H2_)|(have H2_:=(Option.bind_some _ _).symm.trans H;with_reducible exact H2_)|with_reducible exact H|(rw [hy300];exact H)|exact H
                      have Ny300:=Aside0.mk hy300
                      clear hy300
                      have H':=Aside0.mk H
                      clear H
                      have p29:0≤((ji26):Int):=of_decide_eq_true (by first|(with_reducible assumption)|assumption)
                      have q29:((ji26):Int)<((x7_2.length:Int):Int):=of_decide_eq_true (by first|(with_reducible assumption)|assumption)
                      obtain ⟨go29,co29,eo29,gb29,gl29,cl29,HG29⟩:=Kd.R_form HO_7.out (by omega)
                      (first|cases eo29|(injection eo29 with ea_ en_ ec_;(first|subst ea_|(injection ea_ with ea_;subst ea_));subst ec_;clear en_))
                      have GB29:=Aside0.mk gb29
                      have GG29:=Aside0.mk HG29
                      clear gb29 gl29 HG29
                      obtain ⟨hx29_0,hf29_0⟩:=Kd.R_celln 0 HO_7.out ((ji26):Int) p29 q29
                      replace p29:=eq_true p29
                      replace q29:=eq_true q29
                      have HP30:=Kd.R_putg HO_7.out ((ji26):Int) ((x9_2)%4294967296)
                      go_wp2_with (first|((with_reducible refine gate_store (t:=145) (p:=70) rfl ?_);(try (rw [drewN_self wr];generalize hq_:World.drewN wr _=wr;have n0_:=Aside0.mk (Kd.R_at hq_ HO_5.out);have n1_:=Aside0.mk (Kd.R_at hq_ HO_6.out);have n2_:=Aside0.mk (Kd.R_at hq_ HO_7.out);have n3_:=Aside0.mk (below_at hq_ HB.out);clear hq_ HO_5 HO_6 HO_7 HB;have HO_5:=n0_;have HO_6:=n1_;have HO_7:=n2_;have HB:=n3_;clear n0_ n1_ n2_ n3_;(try (have HP30:=Kd.R_putg HO_7.out ((ji26):Int) ((x9_2)%4294967296)))));refine store_event (t:=145) (p:=70) (v:=?vo_w31) (w1:=(wr.setCell ⟨go29,((ji26):Int).toNat,none⟩ (.int .u32 ((x9_2)%4294967296)))) ?hg ?ho ?hn ?hr ?_;(case ho=>rfl);(case hg=>rfl);(case hn=>rfl);(case hr=>first|(go_simp;done)|(go_simp;rfl));intro w31 hw;have hg:wr.grownBy w31 (some go29):=(by rw [hw];exact HP30.2);have hp_:Kd.R (Kd.int .u32) 145 w31 w.heap.size (fun k_=>some k_≠(.slice Ao10 t281.length co10:Value).ownBlock∧some k_≠(.slice Ao11 t284.length co11:Value).ownBlock) (.slice (some ⟨go29,0,none⟩) x7_2.length co29) y300:=(by rw [hw,Ny300.out];exact HP30.1);clear HP30;have n0_:=Aside0.mk (Kd.R_after (v:=(.slice (some ⟨go29,0,none⟩) x7_2.length co29)) (v1:=(.slice (some ⟨go29,0,none⟩) x7_2.length co29)) (ok:=(fun k_=>some k_≠(.slice Ao11 t284.length co11:Value).ownBlock)) (by (with_reducible repeat (first|apply Kd.R_alloc|apply Kd.R_drewN|apply Kd.R_drew));exact HO_5.out) hg (.inl rfl));have n1_:=Aside0.mk (Kd.R_after (v:=(.slice (some ⟨go29,0,none⟩) x7_2.length co29)) (v1:=(.slice (some ⟨go29,0,none⟩) x7_2.length co29)) (ok:=(fun k_=>some k_≠(.slice Ao10 t281.length co10:Value).ownBlock)) (by (with_reducible repeat (first|apply Kd.R_alloc|apply Kd.R_drewN|apply Kd.R_drew));exact HO_6.out) hg (.inl rfl));have n2_:=Aside0.mk (hp_);have n3_:=Aside0.mk ((by rw [hw];exact below_set (HB.out) GB29.out:Below w.heap.size w w31));clear HO_5;clear HO_6;clear HO_7;clear HB;have HO_5:=n0_;have HO_6:=n1_;have HO_7:=n2_;have HB:=n3_;clear n0_ n1_ n2_ n3_;clear hg hw hp_))
                      repeat (go_quiet (first|((with_reducible refine gate_store (t:=145) (p:=70) rfl ?_);(try (rw [drewN_self wr];generalize hq_:World.drewN wr _=wr;have n0_:=Aside0.mk (Kd.R_at hq_ HO_5.out);have n1_:=Aside0.mk (Kd.R_at hq_ HO_6.out);have n2_:=Aside0.mk (Kd.R_at hq_ HO_7.out);have n3_:=Aside0.mk (below_at hq_ HB.out);clear hq_ HO_5 HO_6 HO_7 HB;have HO_5:=n0_;have HO_6:=n1_;have HO_7:=n2_;have HB:=n3_;clear n0_ n1_ n2_ n3_;(try (have HP30:=Kd.R_putg HO_7.out ((ji26):Int) ((x9_2)%4294967296)))));refine store_event (t:=145) (p:=70) (v:=?vo_w31) (w1:=(wr.setCell ⟨go29,((ji26):Int).toNat,none⟩ (.int .u32 ((x9_2)%4294967296)))) ?hg ?ho ?hn ?hr ?_;(case ho=>rfl);(case hg=>rfl);(case hn=>rfl);(case hr=>first|(go_simp;done)|(go_simp;rfl));intro w31 hw;have hg:wr.grownBy w31 (some go29):=(by rw [hw];exact HP30.2);have hp_:Kd.R (Kd.int .u32) 145 w31 w.heap.size (fun k_=>some k_≠(.slice Ao10 t281.length co10:Value).ownBlock∧some k_≠(.slice Ao11 t284.length co11:Value).ownBlock) (.slice (some ⟨go29,0,none⟩) x7_2.length co29) y300:=(by rw [hw,Ny300.out];exact HP30.1);clear HP30;have n0_:=Aside0.mk (Kd.R_after (v:=(.slice (some ⟨go29,0,none⟩) x7_2.length co29)) (v1:=(.slice (some ⟨go29,0,none⟩) x7_2.length co29)) (ok:=(fun k_=>some k_≠(.slice Ao11 t284.length co11:Value).ownBlock)) (by (with_reducible repeat (first|apply Kd.R_alloc|apply Kd.R_drewN|apply Kd.R_drew));exact HO_5.out) hg (.inl rfl));have n1_:=Aside0.mk (Kd.R_after (v:=(.slice (some ⟨go29,0,none⟩) x7_2.length co29)) (v1:=(.slice (some ⟨go29,0,none⟩) x7_2.length co29)) (ok:=(fun k_=>some k_≠(.slice Ao10 t281.length co10:Value).ownBlock)) (by (with_reducible repeat (first|apply Kd.R_alloc|apply Kd.R_drewN|apply Kd.R_drew));exact HO_6.out) hg (.inl rfl));have n2_:=Aside0.mk (hp_);have n3_:=Aside0.mk ((by rw [hw];exact below_set (HB.out) GB29.out:Below w.heap.size w w31));clear HO_5;clear HO_6;clear HO_7;clear HB;have HO_5:=n0_;have HO_6:=n1_;have HO_7:=n2_;have HB:=n3_;clear n0_ n1_ n2_ n3_;clear hg hw hp_));try go_wp2_with (first|((with_reducible refine gate_store (t:=145) (p:=70) rfl ?_);(try (rw [drewN_self wr];generalize hq_:World.drewN wr _=wr;have n0_:=Aside0.mk (Kd.R_at hq_ HO_5.out);have n1_:=Aside0.mk (Kd.R_at hq_ HO_6.out);have n2_:=Aside0.mk (Kd.R_at hq_ HO_7.out);have n3_:=Aside0.mk (below_at hq_ HB.out);clear hq_ HO_5 HO_6 HO_7 HB;have HO_5:=n0_;have HO_6:=n1_;have HO_7:=n2_;have HB:=n3_;clear n0_ n1_ n2_ n3_;(try (have HP30:=Kd.R_putg HO_7.out ((ji26):Int) ((x9_2)%4294967296)))));refine store_event (t:=145) (p:=70) (v:=?vo_w31) (w1:=(wr.setCell ⟨go29,((ji26):Int).toNat,none⟩ (.int .u32 ((x9_2)%4294967296)))) ?hg ?ho ?hn ?hr ?_;(case ho=>rfl);(case hg=>rfl);(case hn=>rfl);(case hr=>first|(go_simp;done)|(go_simp;rfl));intro w31 hw;have hg:wr.grownBy w31 (some go29):=(by rw [hw];exact HP30.2);have hp_:Kd.R (Kd.int .u32) 145 w31 w.heap.size (fun k_=>some k_≠(.slice Ao10 t281.length co10:Value).ownBlock∧some k_≠(.slice Ao11 t284.length co11:Value).ownBlock) (.slice (some ⟨go29,0,none⟩) x7_2.length co29) y300:=(by rw [hw,Ny300.out];exact HP30.1);clear HP30;have n0_:=Aside0.mk (Kd.R_after (v:=(.slice (some ⟨go29,0,none⟩) x7_2.length co29)) (v1:=(.slice (some ⟨go29,0,none⟩) x7_2.length co29)) (ok:=(fun k_=>some k_≠(.slice Ao11 t284.length co11:Value).ownBlock)) (by (with_reducible repeat (first|apply Kd.R_alloc|apply Kd.R_drewN|apply Kd.R_drew));exact HO_5.out) hg (.inl rfl));have n1_:=Aside0.mk (Kd.R_after (v:=(.slice (some ⟨go29,0,none⟩) x7_2.length co29)) (v1:=(.slice (some ⟨go29,0,none⟩) x7_2.length co29)) (ok:=(fun k_=>some k_≠(.slice Ao10 t281.length co10:Value).ownBlock)) (by (with_reducible repeat (first|apply Kd.R_alloc|apply Kd.R_drewN|apply Kd.R_drew));exact HO_6.out) hg (.inl rfl));have n2_:=Aside0.mk (hp_);have n3_:=Aside0.mk ((by rw [hw];exact below_set (HB.out) GB29.out:Below w.heap.size w w31));clear HO_5;clear HO_6;clear HO_7;clear HB;have HO_5:=n0_;have HO_6:=n1_;have HO_7:=n2_;have HB:=n3_;clear n0_ n1_ n2_ n3_;clear hg hw hp_)))
                      go_roundg k2
                      case measure=>have:=HK1.out;have:=HK2.out;omega
                      case rel=>exact ⟨(y300),(wrap64 (x8_1+1)),(by first|rfl|(simp;done)|(simp [*];done)),H',⟨by have:=HK1.out;have:=HK2.out;omega⟩,⟨by (with_reducible repeat (first|apply Kd.R_alloc|apply Kd.R_drewN|apply Kd.R_drew));exact HO_5.out⟩,⟨by (with_reducible repeat (first|apply Kd.R_alloc|apply Kd.R_drewN|apply Kd.R_drew));exact HO_6.out⟩,⟨by (with_reducible repeat (first|apply Kd.R_alloc|apply Kd.R_drewN|apply Kd.R_drew));exact HO_7.out⟩,⟨by repeat (first|(with_reducible first|exact HB.out|apply below_alloc|apply pw_below_drewN|apply below_drew1)|exact HB.out)⟩⟩
                    · rw [if_neg c28] at H
                      exact absurd H (by simp)
                  · rw [if_neg c27] at H
                    exact absurd H (by simp)
          · rw [if_neg c14] at H
            have c14b0:decide (x8_1<(t281.length:Int))=false:=decide_eq_false c14
            clear c14
            replace H:=Option.bind_eq_some_iff.mp H
            obtain ⟨t290,A320,H⟩:=H
            replace H:((gimbalref90_whole.f k1 t290).bind fun t293=>(some t293))=some r:=H
            have A32:=Aside0.mk A320
            clear A320
            replace H:=Option.bind_eq_some_iff.mp H
            obtain ⟨t293,A330,H⟩:=H
            replace H:(some t293)=some r:=H
            have A33:=Aside0.mk A330
            clear A330
            obtain rfl:=Option.some.inj H
            obtain ⟨Ao34,co34,eo34⟩:=Kd.R_slice HO_7.out
            subst eo34
            go_wp2_with (first|(go_at_call 110;(with_reducible refine (gimbalref90_cut.calls k1 (fun k_=>some k_=(.slice Ao34 x7_1.length co34:Value).ownBlock) (.slice Ao34 x7_1.length co34) x7_1 t290 w _ ?side1 ?side2 A32.out).mono ?_);(case side1=>repeat (first|(with_reducible first|exact HB.out|apply below_alloc|apply pw_below_drewN|apply below_drew1)|exact HB.out));(case side2=>exact Kd.R_tight rfl HO_7.out);rintro e w35 ⟨v291,rfl,ho0,hb,hkp⟩;have n0_:=Aside0.mk (Kd.R_mono (ok':=fun k_=>some k_≠(.slice Ao11 t284.length co11:Value).ownBlock∧some k_≠(v291:Value).ownBlock) (Kd.R_keptB (HO_5.out) hkp (fun k_ hk_ hs_=>(hk_.2) hs_)) (fun k_ hk_=>⟨hk_.1.1,fun e_=>Or.elim (ho0.1 k_ e_.symm) (fun hs_=>hk_.2.1 hs_) (fun hn_=>Nat.not_le.2 hk_.2.2 hn_)⟩));have n1_:=Aside0.mk (Kd.R_mono (ok':=fun k_=>some k_≠(.slice Ao10 t281.length co10:Value).ownBlock∧some k_≠(v291:Value).ownBlock) (Kd.R_keptB (HO_6.out) hkp (fun k_ hk_ hs_=>(hk_.2) hs_)) (fun k_ hk_=>⟨hk_.1.1,fun e_=>Or.elim (ho0.1 k_ e_.symm) (fun hs_=>hk_.2.1 hs_) (fun hn_=>Nat.not_le.2 hk_.2.2 hn_)⟩));have n2_:=Aside0.mk (Kd.R_mono (ok':=fun k_=>some k_≠(.slice Ao10 t281.length co10:Value).ownBlock∧some k_≠(.slice Ao11 t284.length co11:Value).ownBlock) ho0 (fun k_ hk_=>⟨Or.elim hk_ (fun hs_=>fun e_=>(((HO_5.out).1 k_ e_.symm).2) hs_) (fun hn_=>(Kd.fresh' (Kd.R_lt (by (with_reducible repeat (first|apply Kd.R_alloc|apply Kd.R_drewN|apply Kd.R_drew));exact HO_5.out)) k_ hn_)),Or.elim hk_ (fun hs_=>fun e_=>(((HO_6.out).1 k_ e_.symm).2) hs_) (fun hn_=>(Kd.fresh' (Kd.R_lt (by (with_reducible repeat (first|apply Kd.R_alloc|apply Kd.R_drewN|apply Kd.R_drew));exact HO_6.out)) k_ hn_))⟩));have n3_:=Aside0.mk (hb);clear HO_5;clear HO_6;clear HB;clear HO_7;have HO_5:=n0_;have HO_6:=n1_;have HO292:=n2_;have HB:=n3_;clear n0_ n1_ n2_ n3_;(try clear hb);(try clear hkp);(try clear ho0);obtain ⟨Ao36,co36,eo36⟩:=Kd.R_slice HO292.out;subst eo36)|(go_at_call 109;(with_reducible refine (gimbalref90_whole.calls k1 _ _ t290 t293 _ ?side1 ?side2 A33.out).mono ?_);(case side1=>repeat (first|exact (Kd.R_reads' HO292.out).2.2|(with_reducible refine Kd.C_alloc ?_ _)|(with_reducible refine Kd.C_drewN ?_ _)|(with_reducible refine Kd.C_drew ?_)));(case side2=>exact (Kd.R_reads' HO292.out).2.1);rintro e w37 ⟨v294,rfl,ho0,hb⟩;have n0_:=Aside0.mk (Kd.R_below (by (with_reducible repeat (first|apply Kd.R_alloc|apply Kd.R_drewN|apply Kd.R_drew));exact HO_5.out) hb);have n1_:=Aside0.mk (Kd.R_below (by (with_reducible repeat (first|apply Kd.R_alloc|apply Kd.R_drewN|apply Kd.R_drew));exact HO_6.out) hb);have n2_:=Aside0.mk (Kd.R_below (by (with_reducible repeat (first|apply Kd.R_alloc|apply Kd.R_drewN|apply Kd.R_drew));exact HO292.out) hb);have n3_:=Aside0.mk (Kd.R_lower ho0 (below_size (by repeat (first|(with_reducible first|exact HB.out|apply below_alloc|apply pw_below_drewN|apply below_drew1)|exact HB.out))));have n4_:=Aside0.mk (below_step (by repeat (first|(with_reducible first|exact HB.out|apply below_alloc|apply pw_below_drewN|apply below_drew1)|exact HB.out)) hb);clear HO_5;clear HO_6;clear HO292;clear HB;have HO_5:=n0_;have HO_6:=n1_;have HO292:=n2_;have HO295:=n3_;have HB:=n4_;clear n0_ n1_ n2_ n3_ n4_;(try clear hb);(try clear hb2);(try clear hk);(try clear hi);(try clear ho0)))
            repeat (go_quiet (first|(go_at_call 110;(with_reducible refine (gimbalref90_cut.calls k1 (fun k_=>some k_=(.slice Ao34 x7_1.length co34:Value).ownBlock) (.slice Ao34 x7_1.length co34) x7_1 t290 w _ ?side1 ?side2 A32.out).mono ?_);(case side1=>repeat (first|(with_reducible first|exact HB.out|apply below_alloc|apply pw_below_drewN|apply below_drew1)|exact HB.out));(case side2=>exact Kd.R_tight rfl HO_7.out);rintro e w35 ⟨v291,rfl,ho0,hb,hkp⟩;have n0_:=Aside0.mk (Kd.R_mono (ok':=fun k_=>some k_≠(.slice Ao11 t284.length co11:Value).ownBlock∧some k_≠(v291:Value).ownBlock) (Kd.R_keptB (HO_5.out) hkp (fun k_ hk_ hs_=>(hk_.2) hs_)) (fun k_ hk_=>⟨hk_.1.1,fun e_=>Or.elim (ho0.1 k_ e_.symm) (fun hs_=>hk_.2.1 hs_) (fun hn_=>Nat.not_le.2 hk_.2.2 hn_)⟩));have n1_:=Aside0.mk (Kd.R_mono (ok':=fun k_=>some k_≠(.slice Ao10 t281.length co10:Value).ownBlock∧some k_≠(v291:Value).ownBlock) (Kd.R_keptB (HO_6.out) hkp (fun k_ hk_ hs_=>(hk_.2) hs_)) (fun k_ hk_=>⟨hk_.1.1,fun e_=>Or.elim (ho0.1 k_ e_.symm) (fun hs_=>hk_.2.1 hs_) (fun hn_=>Nat.not_le.2 hk_.2.2 hn_)⟩));have n2_:=Aside0.mk (Kd.R_mono (ok':=fun k_=>some k_≠(.slice Ao10 t281.length co10:Value).ownBlock∧some k_≠(.slice Ao11 t284.length co11:Value).ownBlock) ho0 (fun k_ hk_=>⟨Or.elim hk_ (fun hs_=>fun e_=>(((HO_5.out).1 k_ e_.symm).2) hs_) (fun hn_=>(Kd.fresh' (Kd.R_lt (by (with_reducible repeat (first|apply Kd.R_alloc|apply Kd.R_drewN|apply Kd.R_drew));exact HO_5.out)) k_ hn_)),Or.elim hk_ (fun hs_=>fun e_=>(((HO_6.out).1 k_ e_.symm).2) hs_) (fun hn_=>(Kd.fresh' (Kd.R_lt (by (with_reducible repeat (first|apply Kd.R_alloc|apply Kd.R_drewN|apply Kd.R_drew));exact HO_6.out)) k_ hn_))⟩));have n3_:=Aside0.mk (hb);clear HO_5;clear HO_6;clear HB;clear HO_7;have HO_5:=n0_;have HO_6:=n1_;have HO292:=n2_;have HB:=n3_;clear n0_ n1_ n2_ n3_;(try clear hb);(try clear hkp);(try clear ho0);obtain ⟨Ao36,co36,eo36⟩:=Kd.R_slice HO292.out;subst eo36)|(go_at_call 109;(with_reducible refine (gimbalref90_whole.calls k1 _ _ t290 t293 _ ?side1 ?side2 A33.out).mono ?_);(case side1=>repeat (first|exact (Kd.R_reads' HO292.out).2.2|(with_reducible refine Kd.C_alloc ?_ _)|(with_reducible refine Kd.C_drewN ?_ _)|(with_reducible refine Kd.C_drew ?_)));(case side2=>exact (Kd.R_reads' HO292.out).2.1);rintro e w37 ⟨v294,rfl,ho0,hb⟩;have n0_:=Aside0.mk (Kd.R_below (by (with_reducible repeat (first|apply Kd.R_alloc|apply Kd.R_drewN|apply Kd.R_drew));exact HO_5.out) hb);have n1_:=Aside0.mk (Kd.R_below (by (with_reducible repeat (first|apply Kd.R_alloc|apply Kd.R_drewN|apply Kd.R_drew));exact HO_6.out) hb);have n2_:=Aside0.mk (Kd.R_below (by (with_reducible repeat (first|apply Kd.R_alloc|apply Kd.R_drewN|apply Kd.R_drew));exact HO292.out) hb);have n3_:=Aside0.mk (Kd.R_lower ho0 (below_size (by repeat (first|(with_reducible first|exact HB.out|apply below_alloc|apply pw_below_drewN|apply below_drew1)|exact HB.out))));have n4_:=Aside0.mk (below_step (by repeat (first|(with_reducible first|exact HB.out|apply below_alloc|apply pw_below_drewN|apply below_drew1)|exact HB.out)) hb);clear HO_5;clear HO_6;clear HO292;clear HB;have HO_5:=n0_;have HO_6:=n1_;have HO292:=n2_;have HO295:=n3_;have HB:=n4_;clear n0_ n1_ n2_ n3_ n4_;(try clear hb);(try clear hb2);(try clear hk);(try clear hi);(try clear ho0)));try go_wp2_with (first|(go_at_call 110;(with_reducible refine (gimbalref90_cut.calls k1 (fun k_=>some k_=(.slice Ao34 x7_1.length co34:Value).ownBlock) (.slice Ao34 x7_1.length co34) x7_1 t290 w _ ?side1 ?side2 A32.out).mono ?_);(case side1=>repeat (first|(with_reducible first|exact HB.out|apply below_alloc|apply pw_below_drewN|apply below_drew1)|exact HB.out));(case side2=>exact Kd.R_tight rfl HO_7.out);rintro e w35 ⟨v291,rfl,ho0,hb,hkp⟩;have n0_:=Aside0.mk (Kd.R_mono (ok':=fun k_=>some k_≠(.slice Ao11 t284.length co11:Value).ownBlock∧some k_≠(v291:Value).ownBlock) (Kd.R_keptB (HO_5.out) hkp (fun k_ hk_ hs_=>(hk_.2) hs_)) (fun k_ hk_=>⟨hk_.1.1,fun e_=>Or.elim (ho0.1 k_ e_.symm) (fun hs_=>hk_.2.1 hs_) (fun hn_=>Nat.not_le.2 hk_.2.2 hn_)⟩));have n1_:=Aside0.mk (Kd.R_mono (ok':=fun k_=>some k_≠(.slice Ao10 t281.length co10:Value).ownBlock∧some k_≠(v291:Value).ownBlock) (Kd.R_keptB (HO_6.out) hkp (fun k_ hk_ hs_=>(hk_.2) hs_)) (fun k_ hk_=>⟨hk_.1.1,fun e_=>Or.elim (ho0.1 k_ e_.symm) (fun hs_=>hk_.2.1 hs_) (fun hn_=>Nat.not_le.2 hk_.2.2 hn_)⟩));have n2_:=Aside0.mk (Kd.R_mono (ok':=fun k_=>some k_≠(.slice Ao10 t281.length co10:Value).ownBlock∧some k_≠(.slice Ao11 t284.length co11:Value).ownBlock) ho0 (fun k_ hk_=>⟨Or.elim hk_ (fun hs_=>fun e_=>(((HO_5.out).1 k_ e_.symm).2) hs_) (fun hn_=>(Kd.fresh' (Kd.R_lt (by (with_reducible repeat (first|apply Kd.R_alloc|apply Kd.R_drewN|apply Kd.R_drew));exact HO_5.out)) k_ hn_)),Or.elim hk_ (fun hs_=>fun e_=>(((HO_6.out).1 k_ e_.symm).2) hs_) (fun hn_=>(Kd.fresh' (Kd.R_lt (by (with_reducible repeat (first|apply Kd.R_alloc|apply Kd.R_drewN|apply Kd.R_drew));exact HO_6.out)) k_ hn_))⟩));have n3_:=Aside0.mk (hb);clear HO_5;clear HO_6;clear HB;clear HO_7;have HO_5:=n0_;have HO_6:=n1_;have HO292:=n2_;have HB:=n3_;clear n0_ n1_ n2_ n3_;(try clear hb);(try clear hkp);(try clear ho0);obtain ⟨Ao36,co36,eo36⟩:=Kd.R_slice HO292.out;subst eo36)|(go_at_call 109;(with_reducible refine (gimbalref90_whole.calls k1 _ _ t290 t293 _ ?side1 ?side2 A33.out).mono ?_);(case side1=>repeat (first|exact (Kd.R_reads' HO292.out).2.2|(with_reducible refine Kd.C_alloc ?_ _)|(with_reducible refine Kd.C_drewN ?_ _)|(with_reducible refine Kd.C_drew ?_)));(case side2=>exact (Kd.R_reads' HO292.out).2.1);rintro e w37 ⟨v294,rfl,ho0,hb⟩;have n0_:=Aside0.mk (Kd.R_below (by (with_reducible repeat (first|apply Kd.R_alloc|apply Kd.R_drewN|apply Kd.R_drew));exact HO_5.out) hb);have n1_:=Aside0.mk (Kd.R_below (by (with_reducible repeat (first|apply Kd.R_alloc|apply Kd.R_drewN|apply Kd.R_drew));exact HO_6.out) hb);have n2_:=Aside0.mk (Kd.R_below (by (with_reducible repeat (first|apply Kd.R_alloc|apply Kd.R_drewN|apply Kd.R_drew));exact HO292.out) hb);have n3_:=Aside0.mk (Kd.R_lower ho0 (below_size (by repeat (first|(with_reducible first|exact HB.out|apply below_alloc|apply pw_below_drewN|apply below_drew1)|exact HB.out))));have n4_:=Aside0.mk (below_step (by repeat (first|(with_reducible first|exact HB.out|apply below_alloc|apply pw_below_drewN|apply below_drew1)|exact HB.out)) hb);clear HO_5;clear HO_6;clear HO292;clear HB;have HO_5:=n0_;have HO_6:=n1_;have HO292:=n2_;have HO295:=n3_;have HB:=n4_;clear n0_ n1_ n2_ n3_ n4_;(try clear hb);(try clear hb2);(try clear hk);(try clear hi);(try clear ho0))))
            go_ret
            exact ⟨_,by first|rfl|(simp [errW_none,errW_some]<;>rfl)|(simp only [← hji5];first|rfl|(simp [errW_none,errW_some]<;>rfl))|(simp [*,errW_none,errW_some]<;>rfl),by (with_reducible repeat (first|apply Kd.R_alloc|apply Kd.R_drewN|apply Kd.R_drew));exact HO295.out,by repeat (first|(with_reducible first|exact HB.out|apply below_alloc|apply pw_below_drewN|apply below_drew1)|exact HB.out)⟩
    · rw [if_neg c7] at H
      exact absurd H (by simp)
  · rw [if_neg c6] at H
    exact absurd H (by simp)
end Go.Proofs.Ytonelbidndjhdaa.QN90
end
section
set_option linter.unusedVariables false
namespace Go.Proofs.YtonelbidndjhdaaW.Dig32
open RowKit YtonelbidndjhdaaW.PrintWords YtonelbidndjhdaaW.PrintMore YtonelbidndjhdaaW.Aid YtonelbidndjhdaaW.Big Ytonelbidndjhdaa.Limbs
def digs (n:Nat):List Int:=if h:n=0 then [] else ((n%4294967296:Nat):Int)::digs (n/4294967296)
termination_by n
decreasing_by omega
def v32:List Int→Nat
  | []=>0
  | x::r=>x.toNat+4294967296*v32 r
theorem digs_zero:digs 0=[]:=by rw [digs];simp
theorem digs_pos {n:Nat} (h:n≠0):digs n=((n%4294967296:Nat):Int)::digs (n/4294967296):=by rw [digs];simp [h]
theorem v32_digs (n:Nat):v32 (digs n)=n:=by
  induction n using Nat.strongRecOn with
  | _ n ih =>
    by_cases h:n=0
    · subst h;rw [digs_zero];rfl
    · rw [digs_pos h,v32,ih _ (by omega)]
      omega
def D32 (l:List Int):Prop:=∀ x∈l,0≤x∧x<4294967296
def C32 (l:List Int):Prop:=D32 l∧(∀ h:l≠[],l.getLast h≠0)
theorem digs_dig (n:Nat):D32 (digs n):=by
  induction n using Nat.strongRecOn with
  | _ n ih =>
    by_cases h:n=0
    · subst h;rw [digs_zero];intro x hx;simp at hx
    · rw [digs_pos h]
      intro x hx
      rcases List.mem_cons.1 hx with rfl|hx
      · omega
      · exact ih _ (by omega) x hx
theorem digs_ne {n:Nat}:digs n=[]↔n=0:=by
  constructor
  · intro h
    have:=v32_digs n
    rw [h] at this
    exact this.symm
  · rintro rfl;exact digs_zero
theorem C32.digs {l:List Int} (h:C32 l):l=digs (v32 l):=by
  induction l with
  | nil=>rw [v32,digs_zero]
  | cons x r ih =>
    have hx:=h.1 x (by simp)
    have hr:C32 r:=⟨fun y hy=>h.1 y (List.mem_cons_of_mem _ hy),fun hne=>by have:=h.2 (by simp);rw [List.getLast_cons hne] at this;exact this⟩
    have hv:v32 (x::r)≠0:=by
      intro e
      simp only [v32] at e
      cases r with
      | nil=>have:=h.2 (by simp);simp at this;omega
      | cons y r' =>
        have:Dig32.digs (v32 (y::r'))=[]:=digs_ne.2 (by omega)
        rw [← ih hr] at this
        simp at this
    rw [digs_pos hv]
    have e1:v32 (x::r)%4294967296=x.toNat:=by simp only [v32];omega
    have e2:v32 (x::r)/4294967296=v32 r:=by simp only [v32];omega
    rw [e1,e2,← ih hr]
    congr 1
    omega
theorem digs_len {n k:Nat} (h:n<4294967296 ^ k):(digs n).length≤k:=by
  induction k generalizing n with
  | zero => have : n = 0 := by simpa using h
            subst this;simp [digs_zero]
  | succ k ih =>
    by_cases hn:n=0
    · subst hn;simp [digs_zero]
    · rw [digs_pos hn,List.length_cons]
      have:n/4294967296<4294967296 ^ k:=by
        rw [Nat.div_lt_iff_lt_mul (by omega)]
        rw [Nat.pow_succ] at h
        exact h
      have:=ih this
      omega
theorem lt_digs (n:Nat):n<4294967296 ^ (digs n).length:=by
  induction n using Nat.strongRecOn with
  | _ n ih =>
    by_cases h:n=0
    · subst h;simp [digs_zero]
    · rw [digs_pos h,List.length_cons,Nat.pow_succ]
      have:=ih (n/4294967296) (by omega)
      rw [Nat.div_lt_iff_lt_mul (by omega)] at this
      exact this
theorem v32_append (a b:List Int):v32 (a++b)=v32 a+4294967296 ^ a.length*v32 b:=by
  induction a with
  | nil=>simp [v32]
  | cons x a ih =>
    simp only [List.cons_append,v32,ih,List.length_cons,Nat.pow_succ,Nat.mul_add]
    rw [Nat.mul_comm (4294967296 ^ a.length) 4294967296,Nat.mul_assoc,Nat.add_assoc]
theorem v32_zeros (n:Nat):v32 (List.replicate n 0)=0:=by
  induction n with
  | zero=>rfl
  | succ n ih=>simp [List.replicate_succ,v32,ih]
theorem D32.take {l:List Int} (h:D32 l) (n:Nat):D32 (l.take n):=fun x hx=>h x (List.mem_of_mem_take hx)
theorem D32.drop {l:List Int} (h:D32 l) (n:Nat):D32 (l.drop n):=fun x hx=>h x (List.mem_of_mem_drop hx)
theorem D32.append {a b:List Int} (h:D32 a) (h':D32 b):D32 (a++b):=fun x hx=>(List.mem_append.1 hx).elim (h x) (h' x)
theorem D32.set {l:List Int} (h:D32 l) (i:Nat) {v:Int} (h0:0≤v) (h1:v<4294967296):D32 (l.set i v):=fun x hx=>by
  rcases List.mem_or_eq_of_mem_set hx with hx|rfl
  · exact h x hx
  · exact ⟨h0,h1⟩
theorem D32.zeros (n:Nat):D32 (List.replicate n 0):=fun x hx=>by
  have:=List.eq_of_mem_replicate hx
  omega
theorem D32.rd {l:List Int} (h:D32 l) {i:Int} (h0:0≤i) (h1:i<(l.length:Int)):0≤rd l i∧rd l i<4294967296:=h _ (rd_mem h0 h1)
theorem v32_take_succ {l:List Int} {i:Nat} (h:i<l.length):v32 (l.take (i+1))=v32 (l.take i)+4294967296 ^ i*(rd l i).toNat:=by
  rw [take_succ_rd h,v32_append]
  simp [v32,Nat.min_eq_left (Nat.le_of_lt h)]
theorem v32_lt {l:List Int} (h:D32 l):v32 l<4294967296 ^ l.length:=by
  induction l with
  | nil=>simp [v32]
  | cons x l ih =>
    have hx:=h x (by simp)
    have:=ih (fun y hy=>h y (List.mem_cons_of_mem _ hy))
    rw [List.length_cons,Nat.pow_succ,v32]
    have:4294967296*(v32 l+1)≤4294967296 ^ l.length*4294967296:=by rw [Nat.mul_comm];exact Nat.mul_le_mul_right _ (by omega)
    omega
theorem v32_set_take {l:List Int} {i:Nat} {v:Int} (h:i<l.length):v32 ((l.set i v).take (i+1))=v32 (l.take i)+4294967296 ^ i*v.toNat:=by
  rw [set_take v h,v32_append]
  simp [v32,Nat.min_eq_left (Nat.le_of_lt h)]
theorem digs_of_take {l:List Int} (h:D32 l) {n:Nat} (hn:n≤l.length) (hz:∀ i,n≤i→i<l.length→rd l (i:Int)=0) (ht:0<n→rd l ((n-1:Nat):Int)≠0):l.take n=digs (v32 l):=by
  have e:l=l.take n++List.replicate (l.length-n) 0:=by
    refine List.ext_getElem (by simp;omega) (fun j h1 h2=>?_)
    by_cases hj:j<n
    · rw [List.getElem_append_left (by simp;omega)]
      simp
    · rw [List.getElem_append_right (by simp;omega),List.getElem_replicate,← rd_nat h1]
      exact hz j (by omega) h1
  have hv:v32 l=v32 (l.take n):=by
    have:=congrArg v32 e
    rw [v32_append,v32_zeros] at this
    simpa using this
  rw [hv]
  refine C32.digs ⟨h.take n,fun hne=>?_⟩
  have hn0:0<n:=by
    rcases Nat.eq_zero_or_pos n with r|r
    · subst r;simp at hne
    · exact r
  have:=ht hn0
  rw [rd_nat (by omega)] at this
  rw [List.getLast_eq_getElem]
  simp only [List.length_take,Nat.min_eq_left hn,List.getElem_take]
  exact this
def MulInv32 (a b:List Int) (i:Nat) (cs:List Int):Prop :=
  cs.length=a.length+b.length∧D32 cs∧(∀ j:Nat,i+b.length≤j→rd cs j=0)∧v32 (cs.take (i+b.length))=v32 (a.take i)*v32 b
def RowInv32 (b cs0:List Int) (i:Nat) (x:Int) (k:Nat) (cy:Int) (cs:List Int):Prop :=
  cs.length=cs0.length∧D32 cs∧0≤cy∧cy<4294967296∧(∀ j:Nat,i+k≤j→rd cs j=rd cs0 j) ∧
    v32 (cs.take (i+k))+4294967296 ^ (i+k)*cy.toNat=v32 (cs0.take (i+k))+4294967296 ^ i*(x.toNat*v32 (b.take k))
theorem MulInv32.start (a b:List Int):MulInv32 a b 0 (List.replicate (a.length+b.length) 0):=by
  refine ⟨by simp,D32.zeros _,fun j _=>rd_zeros,?_⟩
  rw [List.take_replicate,v32_zeros]
  simp [v32]
theorem RowInv32.start {a b cs:List Int} {i:Nat} (h:MulInv32 a b i cs) (x:Int):RowInv32 b cs i x 0 0 cs:=by
  refine ⟨rfl,h.2.1,by omega,by omega,fun _ _=>rfl,?_⟩
  simp [v32]
theorem RowInv32.step {b cs0 cs:List Int} {i k:Nat} {x cy y z s cy':Int} (h:RowInv32 b cs0 i x k cy cs) (hk:k<b.length) (hl:i+k<cs0.length) (hx0:0≤x) (hy:rd b k=y) (hy0:0≤y) (hz:rd cs0 ((i+k:Nat):Int)=z) (hz0:0≤z) (hs0:0≤s) (hs1:s<4294967296) (hc0:0≤cy') (hc1:cy'<4294967296)
    (e:s+4294967296*cy'=z+x*y+cy):RowInv32 b cs0 i x (k+1) cy' (cs.set (i+k) s):=by
  obtain ⟨h1,h2,h3,h4,h5,h6⟩:=h
  refine ⟨by simpa using h1,h2.set _ hs0 hs1,hc0,hc1,fun j hj=>?_,?_⟩
  · rw [rd_set_ne _ (by omega)];exact h5 j (by omega)
  · rw [show i+(k+1)=i+k+1 by omega,v32_set_take (by omega),v32_take_succ hk,v32_take_succ hl,hy,hz]
    have e':s.toNat+4294967296*cy'.toNat=z.toNat+x.toNat*y.toNat+cy.toNat:=by
      have hp:((x.toNat*y.toNat:Nat):Int)=x*y:=by rw [Int.natCast_mul,Int.toNat_of_nonneg hx0,Int.toNat_of_nonneg hy0]
      omega
    have t:=congrArg (4294967296 ^ (i+k)*·) e'
    simp only [Nat.mul_add] at t
    have q1:4294967296 ^ (i+k+1)*cy'.toNat=4294967296 ^ (i+k)*(4294967296*cy'.toNat):=by rw [Nat.pow_succ,Nat.mul_assoc]
    have q2:4294967296 ^ i*(x.toNat*(4294967296 ^ k*y.toNat))=4294967296 ^ (i+k)*(x.toNat*y.toNat):=by
      rw [Nat.pow_add];ac_rfl
    rw [Nat.mul_add x.toNat,Nat.mul_add,q1,q2]
    omega
theorem MulInv32.step {a b cs0 cs:List Int} {i:Nat} {x cy:Int} (h:MulInv32 a b i cs0) (hi:i<a.length) (hx:rd a i=x) (hr:RowInv32 b cs0 i x b.length cy cs):MulInv32 a b (i+1) (cs.set (i+b.length) cy):=by
  obtain ⟨h1,h2,h3,h4⟩:=h
  obtain ⟨r1,r2,r3,r4,r5,r6⟩:=hr
  refine ⟨by rw [List.length_set];omega,r2.set _ r3 r4,fun j hj=>?_,?_⟩
  · rw [rd_set_ne _ (by omega),r5 j (by omega)];exact h3 j (by omega)
  · rw [show i+1+b.length=i+b.length+1 by omega,v32_set_take (by omega),r6,h4,v32_take_succ hi,hx,List.take_length,Nat.add_mul]
    ac_rfl
theorem MulInv32.done {a b cs:List Int} (h:MulInv32 a b a.length cs):D32 cs∧v32 cs=v32 a*v32 b:=by
  obtain ⟨h1,h2,h3,h4⟩:=h
  rw [List.take_of_length_le (by omega),List.take_length] at h4
  exact ⟨h2,h4⟩
end Go.Proofs.YtonelbidndjhdaaW.Dig32
end
section
set_option linter.unusedVariables false
set_option linter.unusedSimpArgs false
namespace Go.Proofs.Ytonelbidndjhdaa.R90
open Go RowKit Ytonelbidndjhdaa.QN90 YtonelbidndjhdaaW.PrintWords YtonelbidndjhdaaW.PrintMore YtonelbidndjhdaaW.PrintLast YtonelbidndjhdaaW.Aid YtonelbidndjhdaaW.Big YtonelbidndjhdaaW.Dig32 Ytonelbidndjhdaa.Limbs
theorem ifT {α:Type} {c:Prop} [Decidable c] {g f:Nat→Option α} {r:α} (h:c) (e:Ev g r):Ev (fun k=>if c then g k else f k) r:=by
  simp only [h,if_true];exact e
theorem ifF {α:Type} {c:Prop} [Decidable c] {g f:Nat→Option α} {r:α} (h:¬ c) (e:Ev f r):Ev (fun k=>if c then g k else f k) r:=by
  simp only [h,if_false];exact e
theorem cut_l0 {l:List Int} (h:D32 l) (hn:l.length<4611686018427387904):∀ i:Nat,i≤l.length→(∀ j,i≤j→j<l.length→rd l (j:Int)=0)→Ev (fun k=>gimbalref90_cut.l0 k l (i:Int)) (digs (v32 l)):=by
  intro i
  induction i with
  | zero =>
    intro _ hz
    refine Ev.shift ?_
    simp only [gimbalref90_cut.l0]
    repeat (first|refine ifT (by omega) ?_|refine ifF (by omega) ?_)
    refine Ev.pure fun _=>?_
    rw [← digs_of_take h (Nat.zero_le _) hz (fun h0=>absurd h0 (by omega))]
    rfl
  | succ i ih =>
    intro hi hz
    refine Ev.shift ?_
    have w:wrap64 (((i+1:Nat):Int)-1)=(i:Int):=by rw [wrap64_id (by omega) (by omega)];omega
    simp only [gimbalref90_cut.l0,w]
    repeat (first|refine ifT (by omega) ?_|refine ifF (by omega) ?_)
    by_cases h0:rd l (i:Int)=0
    · simp only [h0,if_true]
      refine ih (by omega) (fun j h1 h2=>?_)
      by_cases e:j=i
      · subst e;exact h0
      · exact hz j (by omega) h2
    · simp only [h0,if_false]
      repeat (first|refine ifT (by omega) ?_|refine ifF (by omega) ?_)
      refine Ev.pure fun _=>?_
      rw [← digs_of_take h hi hz (fun _=>by simpa using h0),Int.toNat_natCast]
theorem cut_ev {l:List Int} (h:D32 l) (hn:l.length<4611686018427387904):Ev (fun k=>gimbalref90_cut.f k l) (digs (v32 l)) :=
  cut_l0 h hn l.length (Nat.le_refl _) (fun j h1 h2=>by omega)
theorem trim_l0 {l:List Int} (h:Dig l) (hn:l.length<4611686018427387904):∀ i:Nat,i≤l.length→(∀ j,i≤j→j<l.length→rd l (j:Int)=0)→Ev (fun k=>gimbalref90_NTrim.l0 k l (i:Int)) (limbs (val l)):=by
  intro i
  induction i with
  | zero =>
    intro _ hz
    refine Ev.shift ?_
    simp only [gimbalref90_NTrim.l0]
    repeat (first|refine ifT (by omega) ?_|refine ifF (by omega) ?_)
    refine Ev.pure fun _=>?_
    rw [← limbs_of_take h (Nat.zero_le _) hz (fun h0=>absurd h0 (by omega))]
    rfl
  | succ i ih =>
    intro hi hz
    refine Ev.shift ?_
    have w:wrap64 (((i+1:Nat):Int)-1)=(i:Int):=by rw [wrap64_id (by omega) (by omega)];omega
    simp only [gimbalref90_NTrim.l0,w]
    repeat (first|refine ifT (by omega) ?_|refine ifF (by omega) ?_)
    by_cases h0:rd l (i:Int)=0
    · simp only [h0,if_true]
      refine ih (by omega) (fun j h1 h2=>?_)
      by_cases e:j=i
      · subst e;exact h0
      · exact hz j (by omega) h2
    · simp only [h0,if_false]
      repeat (first|refine ifT (by omega) ?_|refine ifF (by omega) ?_)
      refine Ev.pure fun _=>?_
      rw [← limbs_of_take h hi hz (fun _=>by simpa using h0),Int.toNat_natCast]
theorem trim_ev {l:List Int} (h:Dig l) (hn:l.length<4611686018427387904):Ev (fun k=>gimbalref90_NTrim.f k l) (limbs (val l)) :=
  trim_l0 h hn l.length (Nat.le_refl _) (fun j h1 h2=>by omega)
theorem of_ev {x:Int} (h0:0≤x) (h1:x<18446744073709551616):Ev (fun k=>gimbalref90_NOf.f k x) (limbs x.toNat):=by
  unfold gimbalref90_NOf.f
  refine Ev.to (Ev.bind (trim_ev (l:=[x]) (fun y hy=>by rw [List.mem_singleton] at hy;subst hy;exact ⟨h0,h1⟩) (by simp)) (Ev.pure fun _=>rfl)) ?_
  simp [val]
theorem pow32 (i:Nat):(4294967296:Nat) ^ (2*i)=18446744073709551616 ^ i:=by rw [Nat.pow_mul]
theorem halves_l0 {l:List Int} (h:Dig l) (hn:l.length<1000000):∀ (d i:Nat) (acc:List Int),l.length-i≤d→i≤l.length→acc.length=2*i→D32 acc→v32 acc=val (l.take i)→Ev (fun k=>gimbalref90_halves.l0 k l acc (i:Int)) (digs (val l)):=by
  intro d
  induction d with
  | zero =>
    intro i acc h1 h2 h3 h4 h5
    have:i=l.length:=by omega
    subst this
    refine Ev.shift ?_
    simp only [gimbalref90_halves.l0]
    repeat (first|refine ifT (by omega) ?_|refine ifF (by omega) ?_)
    refine Ev.to (Ev.bind (cut_ev h4 (by omega)) (Ev.pure fun _=>rfl)) ?_
    rw [h5,List.take_length]
  | succ d ih =>
    intro i acc h1 h2 h3 h4 h5
    by_cases hi:i<l.length
    · refine Ev.shift ?_
      have w:wrap64 ((i:Int)+1)=((i+1:Nat):Int):=by rw [wrap64_id (by omega) (by omega)];omega
      simp only [gimbalref90_halves.l0,w,Option.bind_some]
      repeat (first|refine ifT (by omega) ?_|refine ifF (by omega) ?_)
      obtain ⟨g0,g1⟩:=h.rd (i:=(i:Int)) (by omega) (by omega)
      have e:rd l (i:Int)/4294967296%4294967296=rd l (i:Int)/4294967296:=by omega
      refine ifT (show (acc.length+[rd l (i:Int)%4294967296,rd l (i:Int)/4294967296%4294967296].length<35184372088832) by simp only [List.length_cons,List.length_nil];omega) ?_
      refine ih (i+1) _ (by omega) (by omega) (by simp [h3];omega) (h4.append (fun x hx=>?_)) ?_
      · rcases List.mem_cons.1 hx with rfl|hx
        · omega
        · rw [List.mem_singleton] at hx;subst hx;omega
      · rw [v32_append,h3,pow32,h5,val_take_succ hi]
        congr 1
        congr 1
        simp only [v32,e]
        omega
    · exact ih i acc (by omega) h2 h3 h4 h5
theorem halves_ev {l:List Int} (h:Dig l) (hn:l.length<1000000):Ev (fun k=>gimbalref90_halves.f k l) (digs (val l)) :=
  halves_l0 h hn l.length 0 [] (by omega) (by omega) rfl (fun x hx=>by simp at hx) rfl
theorem or32 {a b:Int} (ha:0≤a) (ha1:a<4294967296) (hb:0≤b) (hb1:b<4294967296):Go.bits .or .u64 (IntKind.u64.wrap a) (IntKind.u64.wrap (IntKind.u64.wrap b*4294967296))=a+b*4294967296:=by
  rw [u64_id ha (by omega),u64_id hb (by omega),u64_id (by omega) (by omega),bits_comm_or]
  have:=Long.or_shift 32 (by omega) (a:=b) (b:=a) hb (by show b*4294967296<_;omega) ha (by show a<4294967296;omega)
  rw [show (b*4294967296:Int)=b*2 ^ 32 from rfl,this]
  show b*4294967296+a=a+b*4294967296
  omega
theorem whole_l0 {l:List Int} (h:D32 l) (hn:l.length<1000000):∀ (d i:Nat) (acc:List Int),l.length-2*i≤d→2*i≤l.length+1→acc.length=i→Dig acc→val acc=v32 (l.take (2*i))→Ev (fun k=>gimbalref90_whole.l0 k l acc ((2*i:Nat):Int)) (limbs (v32 l)):=by
  have fin:∀ (i:Nat) (acc:List Int),¬ 2*i<l.length→acc.length<1000000→Dig acc→val acc=v32 (l.take (2*i))→Ev (fun k=>gimbalref90_whole.l0 k l acc ((2*i:Nat):Int)) (limbs (v32 l)):=by
    intro i acc h1 h2 h3 h4
    refine Ev.shift ?_
    simp only [gimbalref90_whole.l0]
    repeat (first|refine ifT (by omega) ?_|refine ifF (by omega) ?_)
    refine Ev.to (Ev.bind (trim_ev h3 (by omega)) (Ev.pure fun _=>rfl)) ?_
    rw [h4,List.take_of_length_le (by omega)]
  intro d
  induction d with
  | zero =>
    intro i acc h1 hb h2 h3 h4
    exact fin i acc (by omega) (by omega) h3 h4
  | succ d ih =>
    intro i acc h1 hb h2 h3 h4
    by_cases hi:2*i<l.length
    · refine Ev.shift ?_
      have w1:wrap64 (((2*i:Nat):Int)+1)=((2*i+1:Nat):Int):=by rw [wrap64_id (by omega) (by omega)];omega
      have w2:wrap64 (((2*i:Nat):Int)+2)=((2*(i+1):Nat):Int):=by rw [wrap64_id (by omega) (by omega)];omega
      obtain ⟨a0,a1⟩:=h.rd (i:=((2*i:Nat):Int)) (by omega) (by omega)
      simp only [gimbalref90_whole.l0,w1,w2]
      repeat (first|refine ifT (by omega) ?_|refine ifF (by omega) ?_)
      by_cases hj:2*i+1<l.length
      · obtain ⟨b0,b1⟩:=h.rd (i:=((2*i+1:Nat):Int)) (by omega) (by omega)
        repeat (first|refine ifT (by omega) ?_|refine ifF (by omega) ?_)
        rw [or32 a0 a1 b0 b1]
        refine ih (i+1) _ (by omega) (by omega) (by simp [h2]) (h3.append (fun x hx=>by rw [List.mem_singleton] at hx;subst hx;omega)) ?_
        rw [val_append,h2,h4,show 2*(i+1)=2*i+1+1 by omega,v32_take_succ hj,v32_take_succ hi,Nat.pow_succ,pow32]
        simp only [val]
        generalize rd l ((2*i:Nat):Int)=a at *
        generalize rd l ((2*i+1:Nat):Int)=b at *
        rw [show (a+b*4294967296).toNat=a.toNat+4294967296*b.toNat by omega,Nat.mul_zero,Nat.add_zero,Nat.mul_add,Nat.mul_assoc,Nat.add_assoc]
      · repeat (first|refine ifT (by omega) ?_|refine ifF (by omega) ?_)
        rw [u64_id a0 (by omega)]
        refine ih (i+1) _ (by omega) (by omega) (by simp [h2]) (h3.append (fun x hx=>by rw [List.mem_singleton] at hx;subst hx;omega)) ?_
        rw [val_append,h2,h4,List.take_of_length_le (show l.length≤2*(i+1) by omega)]
        have e:l=l.take (2*i+1):=(List.take_of_length_le (by omega)).symm
        conv=>rhs;rw [e]
        rw [v32_take_succ hi,pow32]
        simp only [val]
        rw [Nat.mul_zero,Nat.add_zero]
    · exact fin i acc hi (by omega) h3 h4
theorem whole_ev {l:List Int} (h:D32 l) (hn:l.length<1000000):Ev (fun k=>gimbalref90_whole.f k l) (limbs (v32 l)) :=
  whole_l0 h hn l.length 0 [] (by omega) (by omega) rfl (fun x hx=>by simp at hx) rfl
theorem rd_over {l:List Int} {i:Nat} (h:l.length≤i):rd l (i:Int)=0:=by
  unfold rd
  rw [List.getD_eq_getElem?_getD,Int.toNat_natCast,List.getElem?_eq_none h]
  rfl
theorem v32_take_any {l:List Int} (i:Nat):v32 (l.take (i+1))=v32 (l.take i)+4294967296 ^ i*(rd l (i:Int)).toNat:=by
  by_cases h:i<l.length
  · exact v32_take_succ h
  · rw [List.take_of_length_le (by omega),List.take_of_length_le (by omega),rd_over (by omega)]
    simp
theorem rd_any {l:List Int} (h:D32 l) (i:Nat):0≤rd l (i:Int)∧rd l (i:Int)<4294967296:=by
  by_cases hi:i<l.length
  · exact h.rd (by omega) (by omega)
  · rw [rd_over (by omega)];omega
structure PInv (x y:List Int) (i:Nat) (acc:List Int) (c:Int):Prop where
  len:acc.length=i
  dig:D32 acc
  c0:0≤c
  c1:c≤1
  eq:v32 acc+4294967296 ^ i*c.toNat=v32 (x.take i)+v32 (y.take i)
theorem PInv.step {x y acc:List Int} {i:Nat} {c t:Int} (hx:D32 x) (hy:D32 y) (h:PInv x y i acc c) (ht:t=c+rd x (i:Int)+rd y (i:Int)):PInv x y (i+1) (acc++[t%4294967296]) (t/4294967296):=by
  obtain ⟨a0,a1⟩:=rd_any hx i
  obtain ⟨b0,b1⟩:=rd_any hy i
  obtain ⟨h1,h2,h3,h4,h5⟩:=h
  refine ⟨by simp [h1],h2.append (fun z hz=>by rw [List.mem_singleton] at hz;subst hz;omega),by omega,by omega,?_⟩
  rw [v32_append,h1,v32_take_any,v32_take_any,Nat.pow_succ]
  simp only [v32]
  rw [Nat.mul_zero,Nat.add_zero,Nat.mul_assoc,Nat.add_assoc,← Nat.mul_add,show (t%4294967296).toNat+4294967296*(t/4294967296).toNat=c.toNat+(rd x (i:Int)).toNat+(rd y (i:Int)).toNat by omega,Nat.mul_add,Nat.mul_add]
  omega
theorem plus_l0 {x y:List Int} (hx:D32 x) (hy:D32 y) (nx:x.length<900000) (ny:y.length<900000):∀ (d i:Nat) (acc:List Int) (c:Int),(x.length-i)+(y.length-i)≤d→i≤900000→PInv x y i acc c→Ev (fun k=>gimbalref90_NPlus.l0 k x y acc c (i:Int)) (limbs (v32 x+v32 y)):=by
  have fin:∀ (i:Nat) (acc:List Int) (c:Int),x.length≤i→y.length≤i→i≤900000→PInv x y i acc c→Ev (fun k=>gimbalref90_NPlus.l0 k x y acc c (i:Int)) (limbs (v32 x+v32 y)):=by
    intro i acc c h1 h2 h3 h
    have e0:decide ((i:Int)<(y.length:Int))=false:=decide_eq_false (by omega)
    refine Ev.shift ?_
    simp only [gimbalref90_NPlus.l0,e0]
    refine ifF (by omega) ?_
    refine Ev.shift ?_
    simp only [gimbalref90_NPlus.j1,Bool.false_eq_true,if_false]
    have hl:=h.len
    refine ifT (by omega) ?_
    have hd:D32 (acc++[c%4294967296]):=h.dig.append (fun z hz=>by rw [List.mem_singleton] at hz;subst hz;omega)
    refine Ev.bind (cut_ev hd (by simp;omega)) ?_
    refine Ev.to (Ev.bind (whole_ev (digs_dig _) ?_) (Ev.pure fun _=>rfl)) ?_
    · have:=digs_len (v32_lt hd)
      simp at this
      omega
    · rw [v32_digs,v32_append,h.len]
      simp only [v32]
      have:=h.eq
      rw [List.take_of_length_le h1,List.take_of_length_le h2] at this
      rw [← this,Nat.mul_zero,Nat.add_zero,show (c%4294967296).toNat=c.toNat by have:=h.c0;have:=h.c1;omega]
  intro d
  induction d with
  | zero=>intro i acc c h1 h2 h;exact fin i acc c (by omega) (by omega) h2 h
  | succ d ih =>
    intro i acc c h1 h2 h
    by_cases hi:i<x.length∨i<y.length
    · have hl:=h.len
      have w:wrap64 ((i:Int)+1)=((i+1:Nat):Int):=by rw [wrap64_id (by omega) (by omega)];omega
      obtain ⟨a0,a1⟩:=rd_any hx i
      obtain ⟨b0,b1⟩:=rd_any hy i
      have c0:=h.c0
      have c1:=h.c1
      have ua:IntKind.u64.wrap (rd x (i:Int))=rd x (i:Int):=u64_id a0 (by omega)
      have ub:IntKind.u64.wrap (rd y (i:Int))=rd y (i:Int):=u64_id b0 (by omega)
      have u1:IntKind.u64.wrap (c+rd x (i:Int))=c+rd x (i:Int):=u64_id (by omega) (by omega)
      have u2:IntKind.u64.wrap (c+rd y (i:Int))=c+rd y (i:Int):=u64_id (by omega) (by omega)
      have u3:IntKind.u64.wrap (c+rd x (i:Int)+rd y (i:Int))=c+rd x (i:Int)+rd y (i:Int):=u64_id (by omega) (by omega)
      have next:∀ t,t=c+rd x (i:Int)+rd y (i:Int)→Ev (fun k=>gimbalref90_NPlus.l0 k x y (acc++[t%4294967296]) (t/4294967296) ((i+1:Nat):Int)) (limbs (v32 x+v32 y)):=fun t ht=>ih (i+1) _ _ (by omega) (by omega) (h.step hx hy ht)
      have go:Ev (fun k=>gimbalref90_NPlus.j1 k x y acc c (i:Int) true) (limbs (v32 x+v32 y)):=by
        refine Ev.shift ?_
        simp only [gimbalref90_NPlus.j1,if_true,ua,ub,u1,u2,u3,w]
        by_cases hxi:i<x.length
        · by_cases hyi:i<y.length
          · repeat (first|refine ifT (by omega) ?_|refine ifF (by omega) ?_)
            exact next _ rfl
          · repeat (first|refine ifT (by omega) ?_|refine ifF (by omega) ?_)
            exact next _ (by rw [rd_over (l:=y) (by omega)];omega)
        · repeat (first|refine ifT (by omega) ?_|refine ifF (by omega) ?_)
          exact next _ (by rw [rd_over (l:=x) (by omega)];omega)
      refine Ev.shift ?_
      simp only [gimbalref90_NPlus.l0]
      by_cases hxi:i<x.length
      · exact ifT (by omega) go
      · rw [show decide ((i:Int)<(y.length:Int))=true from decide_eq_true (by omega)]
        exact ifF (by omega) go
    · exact fin i acc c (by omega) (by omega) h2 h
theorem digs_limbs_len (n:Nat):(digs n).length≤2*(limbs n).length:=by
  refine digs_len ?_
  rw [pow32]
  exact lt_limbs n
theorem plus_ev {a b:Nat} (ha:(limbs a).length≤400000) (hb:(limbs b).length≤400000):Ev (fun k=>gimbalref90_NPlus.f k (limbs a) (limbs b)) (limbs (a+b)):=by
  unfold gimbalref90_NPlus.f
  have h1:=halves_ev (limbs_dig a) (by omega)
  have h2:=halves_ev (limbs_dig b) (by omega)
  rw [val_limbs] at h1 h2
  refine Ev.bind h1 (Ev.bind h2 ?_)
  have la:=digs_limbs_len a
  have lb:=digs_limbs_len b
  have:=plus_l0 (digs_dig a) (digs_dig b) (by omega) (by omega) _ 0 [] 0 (Nat.le_refl _) (by omega) ⟨rfl,fun x hx=>by simp at hx,by omega,by omega,rfl⟩
  rw [v32_digs,v32_digs] at this
  exact this
structure LInv (x y:List Int) (i:Nat) (acc:List Int) (c:Int):Prop where
  len:acc.length=i
  dig:D32 acc
  c0 : -1≤c
  c1:c≤0
  eq:(v32 acc:Int)+4294967296 ^ i*c=(v32 (x.take i):Int)-(v32 (y.take i):Int)
theorem LInv.step {x y acc:List Int} {i:Nat} {c t:Int} (hx:D32 x) (hy:D32 y) (h:LInv x y i acc c) (ht:t=c+rd x (i:Int)-rd y (i:Int)):LInv x y (i+1) (acc++[t%4294967296]) (t/4294967296):=by
  obtain ⟨a0,a1⟩:=rd_any hx i
  obtain ⟨b0,b1⟩:=rd_any hy i
  obtain ⟨h1,h2,h3,h4,h5⟩:=h
  refine ⟨by simp [h1],h2.append (fun z hz=>by rw [List.mem_singleton] at hz;subst hz;omega),by omega,by omega,?_⟩
  rw [v32_append,h1,v32_take_any,v32_take_any]
  simp only [v32,Int.natCast_add,Int.natCast_mul,Int.natCast_pow,Nat.mul_zero,Nat.add_zero,Int.toNat_of_nonneg a0,Int.toNat_of_nonneg b0,Int.toNat_of_nonneg (show 0≤t%4294967296 by omega),Int.pow_succ,Int.mul_assoc]
  have e:(4294967296:Int)*(t/4294967296)=t-t%4294967296:=by omega
  rw [show ((4294967296:Nat):Int)=4294967296 from rfl,e,Int.mul_sub,ht]
  have e2:(4294967296:Int) ^ i*(c+rd x (i:Int)-rd y (i:Int))=4294967296 ^ i*c+4294967296 ^ i*rd x (i:Int)-4294967296 ^ i*rd y (i:Int):=by rw [Int.mul_sub,Int.mul_add]
  rw [e2]
  generalize (4294967296:Int) ^ i*((c+rd x (i:Int)-rd y (i:Int))%4294967296)=p at *
  omega
theorem less_l0 {x y:List Int} (hx:D32 x) (hy:D32 y) (nx:x.length<900000) (hxy:y.length≤x.length) (hle:v32 y≤v32 x):∀ (d i:Nat) (acc:List Int) (c:Int),x.length-i≤d→i≤x.length→LInv x y i acc c→Ev (fun k=>gimbalref90_NLess.l0 k x y acc c (i:Int)) (limbs (v32 x-v32 y)):=by
  have fin:∀ (acc:List Int) (c:Int),LInv x y x.length acc c→Ev (fun k=>gimbalref90_NLess.l0 k x y acc c (x.length:Int)) (limbs (v32 x-v32 y)):=by
    intro acc c h
    refine Ev.shift ?_
    simp only [gimbalref90_NLess.l0]
    refine ifF (by omega) ?_
    have hl:=h.len
    refine Ev.bind (cut_ev h.dig (by omega)) ?_
    have hd:=v32_lt h.dig
    refine Ev.to (Ev.bind (whole_ev (digs_dig _) ?_) (Ev.pure fun _=>rfl)) ?_
    · have:=digs_len hd
      omega
    · rw [v32_digs]
      have e:=h.eq
      rw [List.take_of_length_le (Nat.le_refl _),List.take_of_length_le hxy] at e
      have c0:c=0:=by
        have h0:=h.c0
        have h1:=h.c1
        by_cases hc:c = -1
        · exfalso
          rw [hc] at e
          rw [hl] at hd
          have hd':(v32 acc:Int)<4294967296 ^ x.length:=by have h2:=Int.ofNat_lt.2 hd;rw [Int.natCast_pow] at h2;exact h2
          omega
        · omega
      rw [c0] at e
      congr 1
      omega
  intro d
  induction d with
  | zero =>
    intro i acc c h1 h2 h
    have:i=x.length:=by omega
    subst this
    exact fin acc c h
  | succ d ih =>
    intro i acc c h1 h2 h
    by_cases hi:i<x.length
    · have hl:=h.len
      have w:wrap64 ((i:Int)+1)=((i+1:Nat):Int):=by rw [wrap64_id (by omega) (by omega)];omega
      obtain ⟨a0,a1⟩:=rd_any hx i
      obtain ⟨b0,b1⟩:=rd_any hy i
      have c0:=h.c0
      have c1:=h.c1
      have ua:wrap64 (rd x (i:Int))=rd x (i:Int):=wrap64_id (by omega) (by omega)
      have ub:wrap64 (rd y (i:Int))=rd y (i:Int):=wrap64_id (by omega) (by omega)
      have u1:wrap64 (c+rd x (i:Int))=c+rd x (i:Int):=wrap64_id (by omega) (by omega)
      have u3:wrap64 (c+rd x (i:Int)-rd y (i:Int))=c+rd x (i:Int)-rd y (i:Int):=wrap64_id (by omega) (by omega)
      have um:∀ t:Int,IntKind.u64.wrap t%4294967296=t%4294967296:=fun t=>by rw [u64_wrap];omega
      have next:∀ t,t=c+rd x (i:Int)-rd y (i:Int)→Ev (fun k=>gimbalref90_NLess.l0 k x y (acc++[t%4294967296]) (t/4294967296) ((i+1:Nat):Int)) (limbs (v32 x-v32 y)):=fun t ht=>ih (i+1) _ _ (by omega) (by omega) (h.step hx hy ht)
      refine Ev.shift ?_
      simp only [gimbalref90_NLess.l0,ua,ub,u1,u3,um,w]
      by_cases hyi:i<y.length
      · repeat (first|refine ifT (by omega) ?_|refine ifF (by omega) ?_)
        exact next _ rfl
      · repeat (first|refine ifT (by omega) ?_|refine ifF (by omega) ?_)
        exact next _ (by rw [rd_over (l:=y) (by omega)];omega)
    · have:i=x.length:=by omega
      subst this
      exact fin acc c h
theorem digs_mono {a b:Nat} (h:b≤a):(digs b).length≤(digs a).length:=digs_len (Nat.lt_of_le_of_lt h (lt_digs a))
theorem less_ev {a b:Nat} (ha:(limbs a).length≤400000) (hb:b≤a):Ev (fun k=>gimbalref90_NLess.f k (limbs a) (limbs b)) (limbs (a-b)):=by
  unfold gimbalref90_NLess.f
  have lb:(limbs b).length≤(limbs a).length:=limbs_len (Nat.lt_of_le_of_lt hb (lt_limbs a))
  have h1:=halves_ev (limbs_dig a) (by omega)
  have h2:=halves_ev (limbs_dig b) (by omega)
  rw [val_limbs] at h1 h2
  refine Ev.bind h1 (Ev.bind h2 ?_)
  have la:=digs_limbs_len a
  have:=less_l0 (digs_dig a) (digs_dig b) (by omega) (digs_mono hb) (by rw [v32_digs,v32_digs];exact hb) _ 0 [] 0 (Nat.le_refl _) (by omega) ⟨rfl,fun x hx=>by simp at hx,by omega,by omega,by simp [v32]⟩
  rw [v32_digs,v32_digs] at this
  exact this
def cmpN (a b:Nat):Int:=if a<b then -1 else if b<a then 1 else 0
theorem cmp_l0 {l l':List Int} (h:Dig l) (h':Dig l') (hn:l.length<1000000) (hl:l.length=l'.length):∀ i:Nat,i≤l.length→l.drop i=l'.drop i→Ev (fun k=>gimbalref90_NCmp.l0 k l l' ((i:Int)-1)) (cmpN (val l) (val l')):=by
  intro i
  induction i with
  | zero =>
    intro _ he
    refine Ev.shift ?_
    simp only [gimbalref90_NCmp.l0]
    refine ifF (by omega) ?_
    refine Ev.pure fun _=>?_
    have e:l=l':=by simpa using he
    subst e
    unfold cmpN
    rw [if_neg (Nat.lt_irrefl _),if_neg (Nat.lt_irrefl _)]
  | succ i ih =>
    intro hi he
    refine Ev.shift ?_
    have w:wrap64 ((i:Int)-1)=(i:Int)-1:=wrap64_id (by omega) (by omega)
    have e1:((i+1:Nat):Int)-1=(i:Int):=by omega
    simp only [gimbalref90_NCmp.l0,e1,w]
    repeat (first|refine ifT (by omega) ?_|refine ifF (by omega) ?_)
    by_cases h1:rd l (i:Int)<rd l' (i:Int)
    · refine ifT h1 (Ev.pure fun _=>?_)
      have:=cmp_at h h' (i:=i) (by omega) (by omega) he h1
      unfold cmpN
      rw [if_pos this]
    · refine ifF h1 ?_
      by_cases h2:rd l (i:Int)>rd l' (i:Int)
      · refine ifT h2 (Ev.pure fun _=>?_)
        have:=cmp_at h' h (i:=i) (by omega) (by omega) he.symm h2
        unfold cmpN
        rw [if_neg (by omega),if_pos this]
      · refine ifF h2 (ih (by omega) ?_)
        have ea:l.drop i=rd l (i:Int)::l.drop (i+1):=by rw [rd_nat (by omega)];exact List.drop_eq_getElem_cons (by omega)
        have eb:l'.drop i=rd l' (i:Int)::l'.drop (i+1):=by rw [rd_nat (by omega)];exact List.drop_eq_getElem_cons (by omega)
        rw [ea,eb,he,show rd l (i:Int)=rd l' (i:Int) by omega]
theorem cmp_ev {a b:Nat} (ha:(limbs a).length<1000000) (hb:(limbs b).length<1000000):Ev (fun k=>gimbalref90_NCmp.f k (limbs a) (limbs b)) (cmpN a b):=by
  unfold gimbalref90_NCmp.f
  by_cases hl:(limbs a).length=(limbs b).length
  · refine ifT (by omega) ?_
    rw [wrap64_id (by omega) (by omega)]
    have:=cmp_l0 (limbs_dig a) (limbs_dig b) ha hl _ (Nat.le_refl _) (by rw [List.drop_of_length_le (Nat.le_refl _),List.drop_of_length_le (by omega)])
    rw [val_limbs,val_limbs] at this
    exact this
  · refine ifF (by omega) ?_
    have mono:∀ {a b:Nat},b≤a→(limbs b).length≤(limbs a).length:=fun h=>limbs_len (Nat.lt_of_le_of_lt h (lt_limbs _))
    by_cases h1:(limbs a).length<(limbs b).length
    · refine ifT (by omega) (Ev.pure fun _=>?_)
      unfold cmpN
      have:a<b:=by
        by_cases hc:a<b
        · exact hc
        · have:=mono (a:=a) (b:=b) (by omega);omega
      rw [if_pos this]
    · refine ifF (by omega) (Ev.pure fun _=>?_)
      unfold cmpN
      have:b<a:=by
        by_cases hc:b<a
        · exact hc
        · have:=mono (a:=b) (b:=a) (by omega);omega
      rw [if_neg (by omega),if_pos this]
def bitsN (n:Nat):Nat:=if h:n=0 then 0 else bitsN (n/2)+1
termination_by n
decreasing_by omega
theorem bits_zero:bitsN 0=0:=by rw [bitsN];rfl
theorem bits_pos {n:Nat} (h:n≠0):bitsN n=bitsN (n/2)+1:=by rw [bitsN];simp [h]
theorem bits_up (k:Nat):∀ n,2 ^ k≤n→bitsN n=k+bitsN (n/2 ^ k):=by
  induction k with
  | zero=>intro n _;simp
  | succ k ih =>
    intro n h
    have h2:2 ^ k≤n/2:=by rw [Nat.le_div_iff_mul_le (by omega),← Nat.pow_succ];exact h
    have hp:=Nat.two_pow_pos (k+1)
    rw [bits_pos (by omega),ih _ h2,Nat.div_div_eq_div_mul,show 2*2 ^ k=2 ^ (k+1) by rw [Nat.pow_succ,Nat.mul_comm]]
    omega
theorem bits_lt (n:Nat):n<2 ^ bitsN n:=by
  induction n using Nat.strongRecOn with
  | _ n ih =>
    by_cases h:n=0
    · subst h;rw [bits_zero];decide
    · have:=ih (n/2) (by omega)
      rw [bits_pos h,Nat.pow_succ]
      omega
theorem bits_le {n k:Nat} (h:n<2 ^ k):bitsN n≤k:=by
  induction k generalizing n with
  | zero => have : n = 0 := by omega
            subst this;rw [bits_zero];omega
  | succ k ih =>
    by_cases h0:n=0
    · subst h0;rw [bits_zero];omega
    · have:=ih (n:=n/2) (by rw [Nat.pow_succ] at h;omega)
      rw [bits_pos h0]
      omega
theorem len_l0:∀ (d x:Nat) (n:Int),x<2 ^ d→0≤n→n+d<9223372036854775807→Ev (fun k=>gimbalref90_NLen.l0 k n (x:Int)) (n+bitsN x):=by
  intro d
  induction d with
  | zero =>
    intro x n hx h0 h1
    have:x=0:=by omega
    subst this
    refine Ev.shift ?_
    simp only [gimbalref90_NLen.l0]
    refine Ev.pure fun _=>?_
    rw [bits_zero];simp
  | succ d ih =>
    intro x n hx h0 h1
    refine Ev.shift ?_
    simp only [gimbalref90_NLen.l0]
    by_cases hz:x=0
    · refine ifT (by omega) (Ev.pure fun _=>?_)
      subst hz;rw [bits_zero];simp
    · refine ifF (by omega) ?_
      rw [wrap64_id (by omega) (by omega)]
      refine Ev.to (ih (x/2) (n+1) (by rw [Nat.pow_succ] at hx;omega) (by omega) (by omega)) ?_
      rw [bits_pos hz]
      omega
theorem bits_limbs:∀ {n:Nat},n≠0→0<(limbs n).length∧bitsN n=64*((limbs n).length-1)+bitsN (rd (limbs n) (((limbs n).length:Int)-1)).toNat:=by
  intro n
  induction n using Nat.strongRecOn with
  | _ n ih =>
    intro h
    rw [limbs_pos h]
    by_cases hq:n/18446744073709551616=0
    · rw [hq,limbs_zero]
      refine ⟨by simp,?_⟩
      have e:n%18446744073709551616=n:=by omega
      rw [e]
      show bitsN n=64*0+bitsN ((n:Int)).toNat
      rw [Int.toNat_natCast];omega
    · obtain ⟨h1,h2⟩:=ih _ (by omega) hq
      refine ⟨by simp,?_⟩
      rw [bits_up 64 n (by show 18446744073709551616≤n;omega),show (2:Nat) ^ 64=18446744073709551616 from rfl,h2]
      simp only [List.length_cons]
      have e:rd (((n%18446744073709551616:Nat):Int)::limbs (n/18446744073709551616)) ((((limbs (n/18446744073709551616)).length+1:Nat):Int)-1)=rd (limbs (n/18446744073709551616)) (((limbs (n/18446744073709551616)).length:Int)-1):=by
        generalize limbs (n/18446744073709551616)=r at *
        obtain ⟨j,hj⟩:∃ j,r.length=j+1:=⟨r.length-1,by omega⟩
        rw [hj,show (((j+1+1:Nat):Int)-1)=((j+1:Nat):Int) by omega,show (((j+1:Nat):Int)-1)=((j:Nat):Int) by omega]
        unfold rd
        simp
      rw [e]
      omega
theorem nlen_ev {n:Nat} (hn:(limbs n).length<1000000):Ev (fun k=>gimbalref90_NLen.f k (limbs n)) (bitsN n:Int):=by
  unfold gimbalref90_NLen.f
  by_cases h:n=0
  · subst h
    rw [limbs_zero]
    refine ifT rfl (Ev.pure fun _=>?_)
    rw [bits_zero];rfl
  · obtain ⟨h1,h2⟩:=bits_limbs h
    refine ifF (by omega) ?_
    have w:wrap64 (((limbs n).length:Int)-1)=((limbs n).length:Int)-1:=wrap64_id (by omega) (by omega)
    have w2:wrap64 (64*(((limbs n).length:Int)-1))=64*(((limbs n).length:Int)-1):=wrap64_id (by omega) (by omega)
    obtain ⟨g0,g1⟩:=(limbs_dig n).rd (i:=((limbs n).length:Int)-1) (by omega) (by omega)
    rw [w,w2]
    refine ifT (by omega) (ifT (by omega) ?_)
    have:=len_l0 64 (rd (limbs n) (((limbs n).length:Int)-1)).toNat (64*(((limbs n).length:Int)-1)) (by show _<18446744073709551616;omega) (by omega) (by omega)
    rw [Int.toNat_of_nonneg g0] at this
    refine Ev.to this ?_
    rw [h2]
    omega
theorem v32_drop {l:List Int} {i:Nat} (h:i<l.length):v32 (l.drop i)=(rd l (i:Int)).toNat+4294967296*v32 (l.drop (i+1)):=by
  rw [List.drop_eq_getElem_cons h,v32,rd_nat h]
theorem short_l0 {x:List Int} {d:Int} (hx:D32 x) (hn:x.length<900000) (d0:0<d) (d1:d<4294967296):∀ (i:Nat) (q:List Int) (r:Int),i≤x.length→q.length=x.length→D32 q→0≤r→r<d→v32 (x.drop i)=v32 (q.drop i)*d.toNat+r.toNat →
    Ev (fun k=>gimbalref90_short.l0 k x d q r ((i:Int)-1)) (digs (v32 x/d.toNat),((v32 x%d.toNat:Nat):Int)):=by
  intro i
  induction i with
  | zero =>
    intro q r _ hq dq r0 r1 e
    refine Ev.shift ?_
    simp only [gimbalref90_short.l0]
    refine ifF (by omega) ?_
    refine Ev.to (Ev.bind (cut_ev dq (by omega)) (Ev.pure fun _=>rfl)) ?_
    rw [List.drop_zero,List.drop_zero] at e
    have hr:r.toNat<d.toNat:=by omega
    have e1:v32 x/d.toNat=v32 q:=by rw [e,Nat.mul_comm,Nat.mul_add_div (by omega),Nat.div_eq_of_lt hr,Nat.add_zero]
    have e2:v32 x%d.toNat=r.toNat:=by rw [e,Nat.mul_comm,Nat.mul_add_mod,Nat.mod_eq_of_lt hr]
    rw [e1,e2,Int.toNat_of_nonneg r0,Int.emod_eq_of_lt r0 (by omega)]
  | succ i ih =>
    intro q r hi hq dq r0 r1 e
    refine Ev.shift ?_
    have w:wrap64 ((i:Int)-1)=(i:Int)-1:=wrap64_id (by omega) (by omega)
    have e1:((i+1:Nat):Int)-1=(i:Int):=by omega
    obtain ⟨a0,a1⟩:=hx.rd (i:=(i:Int)) (by omega) (by omega)
    have ud:IntKind.u64.wrap d=d:=u64_id (by omega) (by omega)
    have uo:Go.bits .or .u64 (IntKind.u64.wrap (r*4294967296)) (IntKind.u64.wrap (rd x (i:Int)))=r*4294967296+rd x (i:Int):=by
      rw [u64_id (by omega) (by omega),u64_id a0 (by omega)]
      exact Long.or_shift 32 (by omega) r0 (by show r*4294967296<_;omega) a0 (by show _<(4294967296:Int);omega)
    simp only [gimbalref90_short.l0,e1,w,ud,uo]
    repeat (first|refine ifT (by omega) ?_|refine ifF (by omega) ?_)
    have ht:0≤r*4294967296+rd x (i:Int):=by omega
    generalize hT:r*4294967296+rd x (i:Int)=t at *
    have hq0:0≤t/d:=Int.ediv_nonneg ht (by omega)
    have hq1:t/d<4294967296:=Int.ediv_lt_of_lt_mul d0 (by
      have:=Int.mul_le_mul_of_nonneg_right (show r+1≤d by omega) (show (0:Int)≤4294967296 by decide)
      omega)
    have hm0:=Int.emod_nonneg t (show d≠0 by omega)
    have hm1:=Int.emod_lt_of_pos t d0
    have hdm:=Int.emod_add_mul_ediv t d
    rw [Int.tdiv_eq_ediv_of_nonneg ht,Int.tmod_eq_emod_of_nonneg ht,u64_id hq0 (by omega),Int.emod_eq_of_lt hq0 hq1,Int.toNat_natCast]
    refine ih _ _ (by omega) (by simpa using hq) (dq.set i hq0 hq1) hm0 hm1 ?_
    have es:(q.set i (t/d)).drop (i+1)=q.drop (i+1):=by rw [List.drop_set_of_lt (by omega)]
    rw [v32_drop (l:=x) (by omega),v32_drop (l:=q.set i (t/d)) (by simp;omega),rd_set_eq _ (by omega),es,e]
    generalize v32 (q.drop (i+1))=V at *
    have h1:(t/d).toNat*d.toNat+(t%d).toNat=t.toNat:=by
      have:((t/d).toNat*d.toNat+(t%d).toNat:Nat)=((t.toNat:Nat):Int):=by
        rw [Int.natCast_add,Int.natCast_mul,Int.toNat_of_nonneg hq0,Int.toNat_of_nonneg (by omega:(0:Int)≤d),Int.toNat_of_nonneg hm0,Int.toNat_of_nonneg ht,Int.mul_comm]
        omega
      exact_mod_cast this
    have h2:t.toNat=r.toNat*4294967296+(rd x (i:Int)).toNat:=by omega
    rw [Nat.add_mul,Nat.add_right_comm,h1,h2,Nat.mul_add,Nat.mul_assoc]
    omega
theorem short_ev {x:List Int} {d:Int} (hx:D32 x) (hn:x.length<900000) (d0:0<d) (d1:d<4294967296):Ev (fun k=>gimbalref90_short.f k x d) (digs (v32 x/d.toNat),((v32 x%d.toNat:Nat):Int)):=by
  unfold gimbalref90_short.f
  rw [Int.toNat_natCast,wrap64_id (by omega) (by omega)]
  refine ifT (by omega) (ifT (by omega) ?_)
  exact short_l0 hx hn d0 d1 x.length _ 0 (Nat.le_refl _) (by simp) (D32.zeros _) (by omega) d0 (by rw [List.drop_of_length_le (Nat.le_refl _),List.drop_of_length_le (by simp)];simp [v32])
end Go.Proofs.Ytonelbidndjhdaa.R90
end
section
set_option linter.unusedVariables false
set_option linter.unusedSimpArgs false
namespace Go.Proofs.Ytonelbidndjhdaa.R90
open Go RowKit Ytonelbidndjhdaa.QN90 YtonelbidndjhdaaW.PrintWords YtonelbidndjhdaaW.PrintMore YtonelbidndjhdaaW.PrintLast YtonelbidndjhdaaW.Aid YtonelbidndjhdaaW.Big YtonelbidndjhdaaW.Dig32 Ytonelbidndjhdaa.Limbs
theorem mul_bd {x y:Int} (x0:0≤x) (x1:x<4294967296) (y0:0≤y) (y1:y<4294967296):0≤x*y∧x*y≤18446744065119617025:=by
  refine ⟨Int.mul_nonneg x0 y0,?_⟩
  have:=Int.mul_le_mul (show x≤4294967295 by omega) (show y≤4294967295 by omega) y0 (by decide)
  omega
theorem word_parts {c z p:Int} (c0:0≤c) (c1:c<4294967296) (z0:0≤z) (z1:z<4294967296) (p0:0≤p) (p1:p≤18446744065119617025) :
    (0≤c+z∧c+z≤18446744073709551615)∧(0≤c+z+p∧c+z+p≤18446744073709551615)∧0≤(c+z+p)%4294967296∧(c+z+p)%4294967296<4294967296∧0≤(c+z+p)/4294967296∧(c+z+p)/4294967296<4294967296∧(c+z+p)%4294967296+4294967296*((c+z+p)/4294967296)=z+p+c:=by
  omega
theorem small_u {x:Int} (x0:0≤x) (x1:x<4294967296):IntKind.u64.wrap x=x:=u64_id x0 (by omega)
theorem w_add {i j:Nat} (h:i+j<9000000000000000000):wrap64 ((i:Int)+(j:Int))=((i+j:Nat):Int):=by rw [wrap64_id (by omega) (by omega)];omega
theorem w_suc {j:Nat} (h:j<9000000000000000000):wrap64 ((j:Int)+1)=((j+1:Nat):Int):=by rw [wrap64_id (by omega) (by omega)];omega
theorem times_step (k:Nat) {a b cs:List Int} {i j:Nat} {c x y z:Int} (hj:j<b.length) (hi:i<a.length) (hl:i+j<cs.length) (hn:cs.length<4000000) (hnb:b.length<4000000) (hx:rd a (i:Int)=x) (hy:rd b (j:Int)=y) (hz:rd cs ((i+j:Nat):Int)=z)
    (c0:0≤c) (c1:c<4294967296) (x0:0≤x) (x1:x<4294967296) (y0:0≤y) (y1:y<4294967296) (z0:0≤z) (z1:z<4294967296) :
    gimbalref90_NTimes.l1 (k+1) a b cs (i:Int) c (j:Int)=gimbalref90_NTimes.l1 k a b (cs.set (i+j) ((c+z+x*y)%4294967296)) (i:Int) ((c+z+x*y)/4294967296) ((j+1:Nat):Int):=by
  have g1:(j:Int)<(b.length:Int):=by clear hx hy hz;omega
  have g3:((i+j:Nat):Int)<(cs.length:Int):=by clear hx hy hz;omega
  have g4:(i:Int)<(a.length:Int):=by clear hx hy hz;omega
  have n1:i+j<9000000000000000000:=by clear hx hy hz;omega
  have n2:j<9000000000000000000:=by clear hx hy hz;omega
  have w:=w_add (i:=i) (j:=j) n1
  have w2:=w_suc (j:=j) n2
  obtain ⟨m0,m1⟩:=mul_bd x0 x1 y0 y1
  obtain ⟨⟨s0,s1⟩,⟨t0,t1⟩,_⟩:=word_parts c0 c1 z0 z1 m0 m1
  simp only [gimbalref90_NTimes.l1,w,w2,hx,hy,hz,small_u x0 x1,small_u y0 y1,small_u z0 z1,u64_id m0 (Int.le_trans m1 (by decide)),u64_id s0 s1,u64_id t0 t1]
  rw [if_pos g1,if_pos (Int.natCast_nonneg _),if_pos g3,if_pos (Int.natCast_nonneg _),if_pos g4,if_pos (Int.natCast_nonneg _),Int.toNat_natCast]
theorem times_end (k:Nat) {a b cs:List Int} {i:Nat} {c:Int} (hl:i+b.length<cs.length) (hn:cs.length<4000000) (c0:0≤c) (c1:c<4294967296) :
    gimbalref90_NTimes.l1 (k+1) a b cs (i:Int) c (b.length:Int)=gimbalref90_NTimes.l0 k a b (cs.set (i+b.length) c) ((i+1:Nat):Int):=by
  have g1:¬ (b.length:Int)<(b.length:Int):=by omega
  have g3:((i+b.length:Nat):Int)<(cs.length:Int):=by omega
  have n1:i+b.length<9000000000000000000:=by omega
  have n2:i<9000000000000000000:=by omega
  have w:=w_add (i:=i) (j:=b.length) n1
  have w2:=w_suc (j:=i) n2
  simp only [gimbalref90_NTimes.l1,w,w2]
  rw [if_neg g1,if_pos (Int.natCast_nonneg _),if_pos g3,Int.toNat_natCast,Int.emod_eq_of_lt c0 c1]
theorem times_l1 {a b cs0:List Int} {i:Nat} {R:List Int} (ha:D32 a) (hb:D32 b) (na:a.length<900000) (nb:b.length<900000) (hi:i<a.length) (hl0:cs0.length=a.length+b.length)
    (next:∀ cs cy,RowInv32 b cs0 i (rd a (i:Int)) b.length cy cs→Ev (fun k=>gimbalref90_NTimes.l0 k a b (cs.set (i+b.length) cy) ((i+1:Nat):Int)) R) :
    ∀ (d j:Nat) (cs:List Int) (c:Int),b.length-j≤d→j≤b.length→RowInv32 b cs0 i (rd a (i:Int)) j c cs→Ev (fun k=>gimbalref90_NTimes.l1 k a b cs (i:Int) c (j:Int)) R:=by
  obtain ⟨x0,x1⟩:=ha.rd (i:=(i:Int)) (by omega) (by omega)
  have fin:∀ (cs:List Int) (c:Int),RowInv32 b cs0 i (rd a (i:Int)) b.length c cs→Ev (fun k=>gimbalref90_NTimes.l1 k a b cs (i:Int) c (b.length:Int)) R:=by
    intro cs c h
    have hl:=h.1
    have hl1:i+b.length<cs.length:=by rw [hl,hl0];omega
    have hl2:cs.length<4000000:=by rw [hl,hl0];omega
    exact Ev.step (fun k=>times_end k hl1 hl2 h.2.2.1 h.2.2.2.1) (next cs c h)
  intro d
  induction d with
  | zero =>
    intro j cs c h1 h2 h
    have:j=b.length:=by omega
    subst this
    exact fin cs c h
  | succ d ih =>
    intro j cs c h1 h2 h
    by_cases hj:j<b.length
    · have hl:=h.1
      have hl1:i+j<cs.length:=by rw [hl,hl0];omega
      have hl2:cs.length<4000000:=by rw [hl,hl0];omega
      obtain ⟨y0,y1⟩:=hb.rd (i:=(j:Int)) (Int.natCast_nonneg _) (by omega)
      obtain ⟨z0,z1⟩:=h.2.1.rd (i:=((i+j:Nat):Int)) (Int.natCast_nonneg _) (by omega)
      have hz:=h.2.2.2.2.1 (i+j) (Nat.le_refl _)
      obtain ⟨m0,m1⟩:=mul_bd x0 x1 y0 y1
      obtain ⟨_,_,q0,q1,q2,q3,q4⟩:=word_parts h.2.2.1 h.2.2.2.1 z0 z1 m0 m1
      refine Ev.step (fun k=>times_step k hj hi hl1 hl2 (by omega) rfl rfl rfl h.2.2.1 h.2.2.2.1 x0 x1 y0 y1 z0 z1) (ih (j+1) _ _ (by omega) (by omega) ?_)
      exact h.step hj (by rw [hl0];omega) x0 rfl y0 hz.symm z0 q0 q1 q2 q3 q4
    · have:j=b.length:=by omega
      subst this
      exact fin cs c h
theorem times_l0 {a b:List Int} (ha:D32 a) (hb:D32 b) (na:a.length<900000) (nb:b.length<90000) (na':a.length<90000):∀ (d i:Nat) (cs:List Int),a.length-i≤d→i≤a.length→MulInv32 a b i cs→Ev (fun k=>gimbalref90_NTimes.l0 k a b cs (i:Int)) (limbs (v32 a*v32 b)):=by
  have fin:∀ (cs:List Int),MulInv32 a b a.length cs→Ev (fun k=>gimbalref90_NTimes.l0 k a b cs (a.length:Int)) (limbs (v32 a*v32 b)):=by
    intro cs h
    obtain ⟨h1,h2⟩:=h.done
    have hl:=h.1
    refine Ev.shift ?_
    simp only [gimbalref90_NTimes.l0]
    refine ifF (by omega) ?_
    refine Ev.bind (cut_ev h1 (by omega)) ?_
    refine Ev.to (Ev.bind (whole_ev (digs_dig _) ?_) (Ev.pure fun _=>rfl)) ?_
    · have:=digs_len (v32_lt h1)
      omega
    · rw [v32_digs,h2]
  intro d
  induction d with
  | zero =>
    intro i cs h1 h2 h
    have:i=a.length:=by omega
    subst this
    exact fin cs h
  | succ d ih =>
    intro i cs h1 h2 h
    by_cases hi:i<a.length
    · refine Ev.shift ?_
      simp only [gimbalref90_NTimes.l0]
      refine ifT (by omega) ?_
      exact times_l1 ha hb na (by omega) hi h.1 (fun cs' cy hr=>ih (i+1) _ (by omega) (by omega) (h.step hi rfl hr)) b.length 0 cs 0 (by omega) (by omega) (RowInv32.start h _)
    · have:i=a.length:=by omega
      subst this
      exact fin cs h
theorem digs_half {n k:Nat} (h:(limbs n).length≤k):(digs n).length≤2*k:=by
  refine digs_len ?_
  rw [pow32]
  exact Nat.lt_of_lt_of_le (lt_limbs n) (Nat.pow_le_pow_right (by omega) h)
theorem times_ev {a b:Nat} (na:(limbs a).length<40000) (nb:(limbs b).length<40000):Ev (fun k=>gimbalref90_NTimes.f k (limbs a) (limbs b)) (limbs (a*b)):=by
  unfold gimbalref90_NTimes.f
  have l1:=digs_half (n:=a) (k:=40000) (by omega)
  have l2:=digs_half (n:=b) (k:=40000) (by omega)
  refine Ev.bind (halves_ev (limbs_dig a) (by omega)) ?_
  refine Ev.bind (halves_ev (limbs_dig b) (by omega)) ?_
  rw [val_limbs,val_limbs,w_add (by omega),Int.toNat_natCast]
  refine ifT (Int.natCast_nonneg _) (ifT (by omega) ?_)
  refine Ev.to (times_l0 (digs_dig a) (digs_dig b) (by omega) (by omega) (by omega) (digs a).length 0 _ (by omega) (by omega) (MulInv32.start _ _)) ?_
  rw [v32_digs,v32_digs]
theorem shl_nat {x:Int} {s:Nat} (hs:s≤64):shl .u64 x (s:Int)=IntKind.u64.wrap (x*2 ^ s):=by
  unfold shl
  rw [Int.toNat_natCast,show IntKind.bits .u64=64 from rfl,Nat.min_eq_left hs]
theorem shr_nat {x:Int} {s:Nat} (hs:s≤64):shr .u64 x (s:Int)=x/2 ^ s:=by
  unfold shr
  rw [Int.toNat_natCast,show IntKind.bits .u64=64 from rfl,Nat.min_eq_left hs]
theorem sub64 {s:Nat} (hs:s≤64):IntKind.u64.wrap (64-(s:Int))=((64-s:Nat):Int):=by rw [u64_id (by omega) (by omega)];omega
structure UInv (a:List Int) (q s i:Nat) (acc:List Int) (c:Int):Prop where
  len:acc.length=q+i
  dig:Dig acc
  c0:0≤c
  c1:c<2 ^ s
  eq:val acc+18446744073709551616 ^ (q+i)*c.toNat=18446744073709551616 ^ q*(val (a.take i)*2 ^ s)
theorem UInv.step {a acc:List Int} {q s i:Nat} {c v1 v2:Int} (h:UInv a q s i acc c) (hi:i<a.length) (hx0:0≤rd a (i:Int))
    (hv:0≤v1∧v1<18446744073709551616∧0≤v2∧v2<2 ^ s∧v2<18446744073709551616∧v1+18446744073709551616*v2=c+rd a (i:Int)*2 ^ s):UInv a q s (i+1) (acc++[v1]) v2:=by
  obtain ⟨h1,h2,h3,h4,h5⟩:=h
  obtain ⟨b1,b2,b3,b4,b5,b6⟩:=hv
  refine ⟨by simp [h1];omega,h2.append (fun z hz=>by rw [List.mem_singleton] at hz;subst hz;exact ⟨b1,b2⟩),b3,b4,?_⟩
  have e:v1.toNat+18446744073709551616*v2.toNat=c.toNat+(rd a (i:Int)).toNat*2 ^ s:=by
    have p:(((rd a (i:Int)).toNat*2 ^ s:Nat):Int)=rd a (i:Int)*2 ^ s:=by rw [Int.natCast_mul,Int.toNat_of_nonneg hx0];norm_cast
    omega
  rw [val_append,h1,val_take_succ hi]
  simp only [val]
  have t:=congrArg (18446744073709551616 ^ (q+i)*·) e
  simp only [Nat.mul_add] at t
  have q1:18446744073709551616 ^ (q+(i+1))*v2.toNat=18446744073709551616 ^ (q+i)*(18446744073709551616*v2.toNat):=by rw [← Nat.add_assoc,Nat.pow_succ,Nat.mul_assoc]
  have q2:18446744073709551616 ^ (q+i)*((rd a (i:Int)).toNat*2 ^ s)=18446744073709551616 ^ q*(18446744073709551616 ^ i*(rd a (i:Int)).toNat*2 ^ s):=by rw [Nat.pow_add];ac_rfl
  rw [Nat.add_mul,Nat.mul_add (18446744073709551616 ^ q),← q2,q1,Nat.mul_zero,Nat.add_zero]
  omega
theorem up_l0 {a:List Int} (ha:Dig a) (na:a.length<1000000) {q s:Nat} (hq:q<1000000) (hs:s<64):∀ (d i:Nat) (acc:List Int) (c:Int),a.length-i≤d→i≤a.length→UInv a q s i acc c→Ev (fun k=>gimbalref90_Up2.l0 k a acc (s:Int) c (i:Int)) (limbs (val a*2 ^ (64*q+s))):=by
  have hp:(2:Int) ^ s≤2 ^ 63:=by exact_mod_cast Nat.pow_le_pow_right (by omega) (show s≤63 by omega)
  have fin:∀ (acc:List Int) (c:Int),UInv a q s a.length acc c→Ev (fun k=>gimbalref90_Up2.l0 k a acc (s:Int) c (a.length:Int)) (limbs (val a*2 ^ (64*q+s))):=by
    intro acc c h
    have hl:=h.len
    have c0:=h.c0
    have c1:=h.c1
    refine Ev.shift ?_
    simp only [gimbalref90_Up2.l0]
    refine ifF (by omega) (ifT (by omega) ?_)
    refine Ev.to (Ev.bind (trim_ev (l:=acc++[c]) (h.dig.append (fun z hz=>by rw [List.mem_singleton] at hz;subst hz;omega)) (by simp;omega)) (Ev.pure fun _=>rfl)) ?_
    have e:=h.eq
    rw [List.take_length] at e
    rw [val_append,hl]
    simp only [val]
    rw [Nat.mul_zero,Nat.add_zero,e,Nat.pow_add,Nat.pow_mul]
    congr 1
    show 18446744073709551616 ^ q*(val a*2 ^ s)=val a*(18446744073709551616 ^ q*2 ^ s)
    ac_rfl
  intro d
  induction d with
  | zero =>
    intro i acc c h1 h2 h
    have:i=a.length:=by omega
    subst this
    exact fin acc c h
  | succ d ih =>
    intro i acc c h1 h2 h
    by_cases hi:i<a.length
    · have hl:=h.len
      obtain ⟨x0,x1⟩:=ha.rd (i:=(i:Int)) (Int.natCast_nonneg _) (by omega)
      have w:=w_suc (j:=i) (by omega)
      have lp:=left_parts hs x0 x1 h.c0 h.c1
      refine Ev.shift ?_
      simp only [gimbalref90_Up2.l0,w,shl_nat (Nat.le_of_lt hs),sub64 (Nat.le_of_lt hs),shr_nat (show 64-s≤64 by omega),Option.bind_some]
      refine ifT (by omega) (ifT (Int.natCast_nonneg _) (ifT (Int.natCast_nonneg _) (ifT (by omega) ?_)))
      rw [bits_comm_or]
      by_cases h0:0<s
      · refine ifT (by omega) (ifT (Int.natCast_nonneg _) ?_)
        exact ih (i+1) _ _ (by omega) (by omega) (h.step hi x0 lp)
      · have hs0:s=0:=by omega
        refine ifF (by omega) ?_
        refine ih (i+1) _ _ (by omega) (by omega) (h.step hi x0 ?_)
        have e:rd a (i:Int)/2 ^ (64-s)=0:=by
          subst hs0
          exact Int.ediv_eq_zero_of_lt x0 x1
        rw [e] at lp
        exact lp
    · have:i=a.length:=by omega
      subst this
      exact fin acc c h
theorem tdiv64 {n:Nat} (h:n<9000000000000000000):wrap64 (Int.tdiv (n:Int) 64)=((n/64:Nat):Int):=by
  rw [Int.tdiv_eq_ediv_of_nonneg (by omega),wrap64_id (by omega) (by omega)];omega
theorem tmod64 (n:Nat):IntKind.u64.wrap (Int.tmod (n:Int) 64)=((n%64:Nat):Int):=by
  rw [Int.tmod_eq_emod_of_nonneg (by omega),u64_id (by omega) (by omega)];omega
theorem up_ev {a n:Nat} (na:(limbs a).length<1000000) (hn:n<60000000):Ev (fun k=>gimbalref90_Up2.f k (limbs a) (n:Int)) (limbs (a*2 ^ n)):=by
  unfold gimbalref90_Up2.f
  by_cases h:a=0
  · subst h
    rw [limbs_zero,Nat.zero_mul,limbs_zero]
    exact ifT rfl (Ev.pure fun _=>rfl)
  · have hl:(limbs a).length≠0:=by
      intro he
      exact h (limbs_ne.1 (List.eq_nil_of_length_eq_zero he))
    rw [tdiv64 (by omega),tmod64,Int.toNat_natCast]
    refine ifF (by omega) (ifT (Int.natCast_nonneg _) (ifT (by omega) ?_))
    refine Ev.to (up_l0 (limbs_dig a) na (q:=n/64) (s:=n%64) (by omega) (by omega) (limbs a).length 0 _ 0 (by omega) (by omega) ⟨by simp,Dig.zeros _,by omega,Int.pow_pos (by decide),?_⟩) ?_
    · rw [val_zeros];simp [val]
    · rw [val_limbs,show 64*(n/64)+n%64=n by omega]
structure DInv (a:List Int) (q s i:Nat) (acc:List Int):Prop where
  len:acc.length+q=i
  dig:Dig acc
  eq:val acc+18446744073709551616 ^ (i-q)*(val (a.drop i)/2 ^ s)=val (a.drop q)/2 ^ s
theorem DInv.step {a acc:List Int} {q s i:Nat} {v:Int} (h:DInv a q s i acc) (hi:i<a.length) (hs:s<64) (x0:0≤rd a (i:Int)) (x1:rd a (i:Int)<18446744073709551616) (hv:v=(rdig s (rd a (i:Int)).toNat (val (a.drop (i+1))):Nat)):DInv a q s (i+1) (acc++[v]):=by
  obtain ⟨h1,h2,h3⟩:=h
  obtain ⟨d1,d2⟩:=down_val (s:=s) (x:=(rd a (i:Int)).toNat) (R:=val (a.drop (i+1))) hs (by omega)
  refine ⟨by simp;omega,h2.append (fun z hz=>by rw [List.mem_singleton] at hz;subst hz;omega),?_⟩
  rw [drop_val hi,d1] at h3
  rw [val_append,← h3,show i+1-q=(i-q)+1 by omega,Nat.pow_succ,show acc.length=i-q by omega,hv]
  simp only [val]
  rw [Int.toNat_natCast,Nat.mul_zero,Nat.add_zero,Nat.mul_add,Nat.mul_assoc,Nat.add_assoc]
theorem down_l0 {a:List Int} (ha:Dig a) (na:a.length<1000000) {q s:Nat} (hs:s<64):∀ (d i:Nat) (acc:List Int),a.length-i≤d→i≤a.length→DInv a q s i acc→Ev (fun k=>gimbalref90_Down2.l0 k a (s:Int) acc (i:Int)) (limbs (val (a.drop q)/2 ^ s)):=by
  have fin:∀ (acc:List Int),DInv a q s a.length acc→Ev (fun k=>gimbalref90_Down2.l0 k a (s:Int) acc (a.length:Int)) (limbs (val (a.drop q)/2 ^ s)):=by
    intro acc h
    have hl:=h.len
    refine Ev.shift ?_
    simp only [gimbalref90_Down2.l0]
    refine ifF (by omega) ?_
    refine Ev.to (Ev.bind (trim_ev h.dig (by omega)) (Ev.pure fun _=>rfl)) ?_
    have e:=h.eq
    rw [List.drop_of_length_le (Nat.le_refl _)] at e
    rw [← e]
    simp [val]
  intro d
  induction d with
  | zero =>
    intro i acc h1 h2 h
    have:i=a.length:=by omega
    subst this
    exact fin acc h
  | succ d ih =>
    intro i acc h1 h2 h
    by_cases hi:i<a.length
    · have hl:=h.len
      obtain ⟨x0,x1⟩:=ha.rd (i:=(i:Int)) (Int.natCast_nonneg _) (by omega)
      have w:=w_suc (j:=i) (by omega)
      have next:∀ v:Int,v=(rdig s (rd a (i:Int)).toNat (val (a.drop (i+1))):Nat)→Ev (fun k=>gimbalref90_Down2.l0 k a (s:Int) (acc++[v]) ((i+1:Nat):Int)) (limbs (val (a.drop q)/2 ^ s)):=fun v hv=>ih (i+1) _ (by omega) (by omega) (h.step hi hs x0 x1 hv)
      refine Ev.shift ?_
      simp only [gimbalref90_Down2.l0,w,shr_nat (Nat.le_of_lt hs),sub64 (Nat.le_of_lt hs),shl_nat (show 64-s≤64 by omega)]
      refine ifT (by omega) (ifT (Int.natCast_nonneg _) (ifT (Int.natCast_nonneg _) ?_))
      by_cases h0:0<s
      · refine ifT (by omega) ?_
        by_cases hi1:i+1<a.length
        · obtain ⟨y0,y1⟩:=ha.rd (i:=((i+1:Nat):Int)) (Int.natCast_nonneg _) (by omega)
          refine ifT (by omega) (ifT (Int.natCast_nonneg _) (ifT (Int.natCast_nonneg _) (ifT (by omega) ?_)))
          refine next _ ?_
          rw [drop_val hi1]
          exact digit_of hs x0 x1 y0
        · refine ifF (by omega) (ifT (by omega) ?_)
          refine next _ ?_
          rw [List.drop_of_length_le (by omega),show val []=0 from rfl,digit_last,Int.toNat_of_nonneg x0]
      · have hs0:s=0:=by omega
        refine ifF (by omega) (ifT (by omega) ?_)
        refine next _ ?_
        subst hs0
        unfold rdig
        simp only [Nat.pow_zero,Nat.div_one,Nat.mod_one,Nat.mul_zero,Nat.add_zero,Int.pow_zero,Int.ediv_one]
        rw [Int.toNat_of_nonneg x0]
    · have:i=a.length:=by omega
      subst this
      exact fin acc h
theorem val_drop_div {l:List Int} (h:Dig l) {k:Nat} (hk:k≤l.length):val l/18446744073709551616 ^ k=val (l.drop k):=by
  have h1:=val_append (l.take k) (l.drop k)
  rw [List.take_append_drop,List.length_take,Nat.min_eq_left hk] at h1
  have h2:=val_lt (h.take k)
  rw [List.length_take,Nat.min_eq_left hk] at h2
  rw [h1,Nat.add_mul_div_left _ _ (Nat.pow_pos (by omega)),Nat.div_eq_of_lt h2,Nat.zero_add]
theorem len_bits {n:Nat}:(limbs n).length*64≤bitsN n+63∧bitsN n≤64*(limbs n).length:=by
  by_cases h:n=0
  · subst h;rw [limbs_zero,bits_zero];simp
  · obtain ⟨h1,h2⟩:=bits_limbs h
    have h3:bitsN n≤64*(limbs n).length:=bits_le (by rw [Nat.pow_mul];exact lt_limbs n)
    have hc:=limbs_canon n
    have hne:limbs n≠[]:=fun e=>h (limbs_ne.1 e)
    have hlast:=hc.2 hne
    rw [List.getLast_eq_getElem] at hlast
    have hr:rd (limbs n) (((limbs n).length:Int)-1)≠0:=by
      rw [show (((limbs n).length:Int)-1)=(((limbs n).length-1:Nat):Int) by omega,rd_nat (by omega)]
      exact hlast
    obtain ⟨g0,g1⟩:=(limbs_dig n).rd (i:=((limbs n).length:Int)-1) (by omega) (by omega)
    have h4:0<bitsN (rd (limbs n) (((limbs n).length:Int)-1)).toNat:=by
      rw [bits_pos (by omega)];omega
    omega
theorem down_ev {a n:Nat} (na:(limbs a).length<1000000) (hn:n<100000000):Ev (fun k=>gimbalref90_Down2.f k (limbs a) (n:Int)) (limbs (a/2 ^ n)):=by
  unfold gimbalref90_Down2.f
  refine Ev.bind (nlen_ev na) ?_
  by_cases h:bitsN a≤n
  · refine ifT (by omega) (Ev.pure fun _=>?_)
    rw [Nat.div_eq_of_lt (Nat.lt_of_lt_of_le (bits_lt a) (Nat.pow_le_pow_right (by omega) h)),limbs_zero]
  · refine ifF (by omega) ?_
    rw [tdiv64 (by omega),tmod64]
    have hb:=(len_bits (n:=a)).2
    have hq:n/64≤(limbs a).length:=by omega
    refine Ev.to (down_l0 (limbs_dig a) na (q:=n/64) (s:=n%64) (by omega) (limbs a).length (n/64) [] (by omega) hq ⟨by simp,fun x hx=>by simp at hx,?_⟩) ?_
    · simp [val]
    · rw [← val_drop_div (limbs_dig a) hq,val_limbs,show (18446744073709551616:Nat)=2 ^ 64 from rfl,← Nat.pow_mul,Nat.div_div_eq_div_mul,← Nat.pow_add,show 64*(n/64)+n%64=n by omega]
end Go.Proofs.Ytonelbidndjhdaa.R90
end
section
set_option linter.unusedVariables false
set_option linter.unusedSimpArgs false
namespace Go.Proofs.Ytonelbidndjhdaa.R90
open Go RowKit Ytonelbidndjhdaa.QN90 YtonelbidndjhdaaW.PrintWords YtonelbidndjhdaaW.PrintMore YtonelbidndjhdaaW.PrintLast YtonelbidndjhdaaW.Aid YtonelbidndjhdaaW.Big YtonelbidndjhdaaW.Dig32 Ytonelbidndjhdaa.Limbs
theorem val_set {l:List Int} {i:Nat} (v:Int) (h:i<l.length):val (l.set i v)+18446744073709551616 ^ i*(rd l (i:Int)).toNat=val l+18446744073709551616 ^ i*v.toNat:=by
  have h1:=val_split (l:=l.set i v) (i:=i) (by simpa using h)
  have h2:=val_split h
  have e1:(l.set i v).take i=l.take i:=by rw [List.take_set_of_le (Nat.le_refl _)]
  have e2:(l.set i v).drop (i+1)=l.drop (i+1):=by rw [List.drop_set_of_lt (by omega)]
  rw [rd_set_eq v h,e1,e2] at h1
  rw [h1,h2,Nat.mul_add,Nat.mul_add]
  omega
theorem pow64 (j m:Nat):(2:Nat) ^ (64*j+m)=18446744073709551616 ^ j*2 ^ m:=by rw [Nat.pow_add,Nat.pow_mul]
theorem bit_set {q:List Int} (hd:Dig q) {i:Nat} (hi:i/64<q.length) (hdvd:2 ^ (i+1)∣val q) :
    (0≤Go.bits .or .u64 (rd q ((i/64:Nat):Int)) (shl .u64 1 ((i%64:Nat):Int))∧Go.bits .or .u64 (rd q ((i/64:Nat):Int)) (shl .u64 1 ((i%64:Nat):Int))<18446744073709551616) ∧
      val (q.set (i/64) (Go.bits .or .u64 (rd q ((i/64:Nat):Int)) (shl .u64 1 ((i%64:Nat):Int))))=val q+2 ^ i:=by
  have hsp:=val_split hi
  have hlt:=val_lt (hd.take (i/64))
  rw [List.length_take,Nat.min_eq_left (Nat.le_of_lt hi)] at hlt
  obtain ⟨x0,x1⟩:=hd.rd (i:=((i/64:Nat):Int)) (Int.natCast_nonneg _) (by omega)
  have hvs:=fun v=>val_set (l:=q) (i:=i/64) v hi
  have hpi:(2:Nat) ^ i=18446744073709551616 ^ (i/64)*2 ^ (i%64):=by rw [← pow64];congr 1;omega
  have hpi1:(2:Nat) ^ (i+1)=18446744073709551616 ^ (i/64)*2 ^ (i%64+1):=by rw [← pow64];congr 1;omega
  have hm:i%64<64:=by omega
  generalize i/64=j at *
  generalize i%64=m at *
  have hB:0<18446744073709551616 ^ j:=Nat.pow_pos (by omega)
  rw [hpi1,hsp] at hdvd
  have h0:val (q.take j)=0:=by
    have h1:18446744073709551616 ^ j∣val (q.take j)+18446744073709551616 ^ j*((rd q (j:Int)).toNat+18446744073709551616*val (q.drop (j+1))):=Nat.dvd_trans (Nat.dvd_mul_right _ _) hdvd
    rw [Nat.dvd_add_left (Nat.dvd_mul_right _ _)] at h1
    exact Nat.eq_zero_of_dvd_of_lt h1 hlt
  rw [h0,Nat.zero_add] at hdvd
  have h2:=Nat.dvd_of_mul_dvd_mul_left hB hdvd
  have h3:(2:Nat) ^ (m+1)∣18446744073709551616*val (q.drop (j+1)):=Nat.dvd_trans (show (2:Nat) ^ (m+1)∣2 ^ 64 from Nat.pow_dvd_pow 2 (by omega)) (Nat.dvd_mul_right _ _)
  rw [Nat.dvd_add_left h3] at h2
  obtain ⟨u,hu⟩:=h2
  have hx:rd q (j:Int)=(u:Int)*2 ^ (m+1):=by
    rw [← Int.toNat_of_nonneg x0,hu,Int.natCast_mul,Int.mul_comm];norm_cast
  have hP:(1:Int)≤2 ^ m:=by exact_mod_cast Nat.one_le_two_pow
  have hP2:(2:Int) ^ m≤2 ^ 63:=by exact_mod_cast Nat.pow_le_pow_right (by omega) (show m≤63 by omega)
  have hsh:shl .u64 1 (m:Int)=2 ^ m:=by
    rw [shl_nat (Nat.le_of_lt hm),Int.one_mul,u64_id (by omega) (by omega)]
  have hor:Go.bits .or .u64 (rd q (j:Int)) (2 ^ m)=rd q (j:Int)+2 ^ m:=by
    by_cases h63:m=63
    · subst h63
      have:rd q (j:Int)=0:=by
        have:(2:Int) ^ (63+1)=18446744073709551616:=rfl
        rw [this] at hx
        omega
      rw [this,bits_comm_or]
      have:=Go.Proofs.Ytonelbidndjhdaa.Long.or_shift 63 (by omega) (a:=1) (b:=0) (by omega) (by decide) (by omega) (by decide)
      rw [Int.one_mul] at this
      rw [this];omega
    · have:=Go.Proofs.Ytonelbidndjhdaa.Long.or_shift (m+1) (by omega) (a:=(u:Int)) (b:=2 ^ m) (by omega) (by rw [← hx];exact x1) (by omega) (by rw [Int.pow_succ];omega)
      rw [hx,this]
  have hsum:rd q (j:Int)+2 ^ m<18446744073709551616:=by
    by_cases h63:m=63
    · subst h63
      have:(2:Int) ^ (63+1)=18446744073709551616:=rfl
      rw [this] at hx
      have:(2:Int) ^ 63=9223372036854775808:=rfl
      omega
    · have hk:(2:Nat) ^ 64=2 ^ (m+1)*2 ^ (63-m):=by rw [← Nat.pow_add];congr 1;omega
      have hlt2:2 ^ (m+1)*u<2 ^ (m+1)*2 ^ (63-m):=by rw [← hk,← hu];show _<18446744073709551616;omega
      have hu2:u<2 ^ (63-m):=Nat.lt_of_mul_lt_mul_left hlt2
      have h5:2 ^ (m+1)*(u+1)≤2 ^ (m+1)*2 ^ (63-m):=Nat.mul_le_mul_left _ hu2
      rw [← hk,Nat.mul_add,← hu,Nat.mul_one,Nat.pow_succ] at h5
      have h6:((2 ^ m:Nat):Int)=2 ^ m:=by norm_cast
      have:(2:Nat) ^ 64=18446744073709551616:=rfl
      omega
  rw [hsh,hor]
  refine ⟨⟨by omega,hsum⟩,?_⟩
  have h7:=hvs (rd q (j:Int)+2 ^ m)
  have h8:(rd q (j:Int)+2 ^ m).toNat=(rd q (j:Int)).toNat+2 ^ m:=by
    have h6:((2 ^ m:Nat):Int)=2 ^ m:=by norm_cast
    omega
  rw [h8,Nat.mul_add,← hpi] at h7
  omega
structure QInv (a b n m:Nat) (q:List Int) (r D:Nat):Prop where
  len:q.length=n/64+1
  dig:Dig q
  eq:val q*b+r=a
  lt:r<b*2 ^ m
  dvd:2 ^ m∣val q
  d:0<m→D=b*2 ^ (m-1)
theorem len_mono {m n:Nat} (h:m≤n):(limbs m).length≤(limbs n).length:=limbs_len (Nat.lt_of_le_of_lt h (lt_limbs _))
theorem divide_l0 {a b n:Nat} (hb:0<b) (na:(limbs a).length<400000) (hn:n<90000000) (hD:∀ i,i≤n→(limbs (b*2 ^ i)).length<400000):∀ (m:Nat) (q:List Int) (r D:Nat),m≤n+1→QInv a b n m q r D→Ev (fun k=>gimbalref90_NDivide.l0 k q (limbs r) (limbs D) ((m:Int)-1)) (limbs (a/b),limbs (a%b)):=by
  intro m
  induction m with
  | zero =>
    intro q r D _ h
    refine Ev.shift ?_
    simp only [gimbalref90_NDivide.l0]
    refine ifF (by omega) ?_
    have hl:=h.len
    refine Ev.to (Ev.bind (trim_ev h.dig (by omega)) (Ev.pure fun _=>rfl)) ?_
    have h1:=h.lt
    rw [Nat.pow_zero,Nat.mul_one] at h1
    have e1:a/b=val q:=by rw [← h.eq,Nat.mul_comm,Nat.mul_add_div hb,Nat.div_eq_of_lt h1,Nat.add_zero]
    have e2:a%b=r:=by rw [← h.eq,Nat.mul_comm,Nat.mul_add_mod,Nat.mod_eq_of_lt h1]
    rw [e1,e2]
  | succ i ih =>
    intro q r D hm h
    have e0:(((i+1:Nat):Int)-1)=(i:Int):=by omega
    have w:wrap64 ((i:Int)-1)=(i:Int)-1:=wrap64_id (by omega) (by omega)
    have hDe:D=b*2 ^ i:=h.d (by omega)
    have hDl:=hD i (by omega)
    rw [← hDe] at hDl
    have hrl:(limbs r).length<400000:=Nat.lt_of_le_of_lt (len_mono (by have:=h.eq;omega)) na
    have hl:=h.len
    have down:Ev (fun k=>gimbalref90_Down2.f k (limbs D) 1) (limbs (D/2)):=by
      have:=down_ev (a:=D) (n:=1) (by omega) (by omega)
      rwa [Nat.pow_one] at this
    have hd2:0<i→D/2=b*2 ^ (i-1):=by
      intro h0
      rw [hDe,show i=(i-1)+1 by omega,Nat.pow_succ,← Nat.mul_assoc,Nat.mul_div_cancel _ (by omega)]
      congr 2
    refine Ev.shift ?_
    simp only [gimbalref90_NDivide.l0,e0,w,tdiv64 (show i<9000000000000000000 by omega),tmod64,Int.toNat_natCast]
    refine ifT (by omega) ?_
    refine Ev.bind (cmp_ev (by omega) (by omega)) ?_
    by_cases hc:D≤r
    · refine ifT (by unfold cmpN;split<;>(try split)<;>omega) ?_
      refine Ev.bind (less_ev (by omega) hc) ?_
      refine ifT (Int.natCast_nonneg _) (ifT (by omega) (ifT (Int.natCast_nonneg _) ?_))
      refine Ev.bind down ?_
      obtain ⟨⟨b0,b1⟩,b2⟩:=bit_set h.dig (i:=i) (by omega) h.dvd
      refine ih _ _ _ (by omega) ⟨by simpa using hl,h.dig.set _ b0 b1,?_,?_,?_,hd2⟩
      · rw [b2,Nat.add_mul,Nat.mul_comm (2 ^ i) b,← hDe]
        have:=h.eq
        omega
      · have:=h.lt
        rw [Nat.pow_succ,← Nat.mul_assoc,← hDe] at this
        rw [← hDe];omega
      · rw [b2]
        exact Nat.dvd_add (Nat.dvd_trans (Nat.pow_dvd_pow 2 (by omega)) h.dvd) (Nat.dvd_refl _)
    · refine ifF (by unfold cmpN;rw [if_pos (by omega)];omega) ?_
      refine Ev.bind down ?_
      exact ih _ _ _ (by omega) ⟨hl,h.dig,h.eq,by rw [← hDe];omega,Nat.dvd_trans (Nat.pow_dvd_pow 2 (by omega)) h.dvd,hd2⟩
theorem bits_mono {m n:Nat} (h:m≤n):bitsN m≤bitsN n:=bits_le (Nat.lt_of_le_of_lt h (bits_lt n))
theorem bits_ge {n:Nat} (h:n≠0):2 ^ (bitsN n-1)≤n:=by
  by_cases hc:2 ^ (bitsN n-1)≤n
  · exact hc
  · have:=bits_le (n:=n) (k:=bitsN n-1) (by omega)
    have h2:0<bitsN n:=by rw [bits_pos h];omega
    omega
theorem bits_mul (b i:Nat):bitsN (b*2 ^ i)≤bitsN b+i:=bits_le (by rw [Nat.pow_add];exact Nat.mul_lt_mul_of_pos_right (bits_lt b) (Nat.two_pow_pos i))
theorem digs_one {b:Nat} (hb:0<b):(digs b).length=1↔b<4294967296:=by
  constructor
  · intro h
    have:=lt_digs b
    rw [h] at this
    simpa using this
  · intro h
    have h1:=digs_len (n:=b) (k:=1) (by simpa using h)
    have h2:(digs b).length≠0:=fun e=>by
      have:=digs_ne.1 (List.eq_nil_of_length_eq_zero e)
      omega
    omega
theorem digs_word {b:Nat} (hb:0<b) (h:b<4294967296):digs b=[(b:Int)]:=by
  rw [digs_pos (by omega),Nat.div_eq_of_lt h,digs_zero,Nat.mod_eq_of_lt h]
theorem divide_ev {a b:Nat} (hb:0<b) (na:(limbs a).length<40000) (nb:(limbs b).length<40000):Ev (fun k=>gimbalref90_NDivide.f k (limbs a) (limbs b)) (limbs (a/b),limbs (a%b)):=by
  unfold gimbalref90_NDivide.f
  refine Ev.bind (halves_ev (limbs_dig b) (by omega)) ?_
  rw [val_limbs]
  by_cases h1:b<4294967296
  · have hl:=(digs_one hb).2 h1
    refine ifT (by omega) ?_
    refine Ev.bind (halves_ev (limbs_dig a) (by omega)) ?_
    rw [val_limbs]
    refine ifT (by omega) ?_
    rw [digs_word hb h1]
    have e:rd [(b:Int)] 0=(b:Int):=rfl
    rw [e]
    have ld:=digs_half (n:=a) (k:=40000) (by omega)
    refine Ev.bind (short_ev (digs_dig a) (by omega) (by omega) (by omega)) ?_
    rw [v32_digs,Int.toNat_natCast]
    have hmod:=Nat.mod_lt a hb
    have lq:=digs_half (n:=a/b) (k:=40000) (Nat.le_of_lt (Nat.lt_of_le_of_lt (len_mono (Nat.div_le_self a b)) (by omega)))
    have lq':(digs (a/b)).length<1000000:=by omega
    refine Ev.bind (whole_ev (digs_dig _) lq') ?_
    rw [v32_digs]
    simp only
    rw [u64_id (by omega) (by omega)]
    refine Ev.to (Ev.bind (of_ev (x:=((a%b:Nat):Int)) (by omega) (by omega)) (Ev.pure fun _=>rfl)) ?_
    rw [Int.toNat_natCast]
  · have hl:(digs b).length≠1:=fun e=>h1 ((digs_one hb).1 e)
    refine ifF (by omega) ?_
    refine Ev.bind (nlen_ev (by omega)) ?_
    refine Ev.bind (nlen_ev (by omega)) ?_
    obtain ⟨la1,la2⟩:=len_bits (n:=a)
    obtain ⟨lb1,lb2⟩:=len_bits (n:=b)
    have w0:wrap64 ((bitsN a:Int)-(bitsN b:Int))=(bitsN a:Int)-(bitsN b:Int):=wrap64_id (by omega) (by omega)
    rw [w0]
    by_cases hn:bitsN a<bitsN b
    · refine ifT (by omega) (Ev.pure fun _=>?_)
      have hlt:a<b:=by
        by_cases hc:a<b
        · exact hc
        · have:=bits_mono (m:=b) (n:=a) (by omega);omega
      rw [Nat.div_eq_of_lt hlt,Nat.mod_eq_of_lt hlt,limbs_zero]
    · refine ifF (by omega) ?_
      obtain ⟨n,hne⟩:∃ n,bitsN a=bitsN b+n:=⟨bitsN a-bitsN b,by omega⟩
      have e1:(bitsN a:Int)-(bitsN b:Int)=(n:Int):=by omega
      rw [e1,tdiv64 (by omega),w_suc (by omega),Int.toNat_natCast]
      refine ifT (Int.natCast_nonneg _) (ifT (by omega) ?_)
      refine Ev.bind (up_ev (by omega) (by omega)) ?_
      have hstart:(n:Int)=(((n+1:Nat):Int)-1):=by omega
      rw [hstart]
      refine divide_l0 hb (by omega) (by omega) (fun i hi=>?_) (n+1) _ a _ (Nat.le_refl _) ⟨by simp,Dig.zeros _,by rw [val_zeros];simp,?_,by rw [val_zeros];exact Nat.dvd_zero _,fun _=>rfl⟩
      · have h5:=bits_mul b i
        have h6:=(len_bits (n:=b*2 ^ i)).1
        omega
      · have h7:=bits_lt a
        have h8:=bits_ge (n:=b) (by omega)
        have h9:2 ^ bitsN a=2 ^ (bitsN b-1)*2 ^ (n+1):=by
          rw [← Nat.pow_add];congr 1
          have:0<bitsN b:=by rw [bits_pos (by omega)];omega
          omega
        exact Nat.lt_of_lt_of_le (by rw [← h9];exact h7) (Nat.mul_le_mul_right _ h8)
theorem gcd_ev:∀ (b a:Nat),(limbs a).length<40000→(limbs b).length<40000→Ev (fun k=>gimbalref90_NGcd.f k (limbs a) (limbs b)) (limbs (Nat.gcd a b)):=by
  intro b
  induction b using Nat.strongRecOn with
  | _ b ih =>
    intro a na nb
    show Ev (fun k=>gimbalref90_NGcd.l0 k (limbs a) (limbs b)) _
    refine Ev.shift ?_
    simp only [gimbalref90_NGcd.l0]
    by_cases h:b=0
    · subst h
      rw [limbs_zero,Nat.gcd_zero_right]
      exact ifF (by simp) (Ev.pure fun _=>rfl)
    · have hl:(limbs b).length≠0:=fun e=>h (limbs_ne.1 (List.eq_nil_of_length_eq_zero e))
      refine ifT (by omega) ?_
      refine Ev.bind (divide_ev (by omega) na nb) ?_
      have hm:=Nat.mod_lt a (show 0<b by omega)
      have:=ih (a%b) hm b nb (Nat.lt_of_le_of_lt (len_mono (Nat.le_of_lt hm)) nb)
      rw [Nat.gcd_comm a b,Nat.gcd_rec,Nat.gcd_comm]
      exact this
end Go.Proofs.Ytonelbidndjhdaa.R90
end
section
set_option linter.unusedVariables false
set_option linter.unusedSimpArgs false
namespace Go.Proofs.Ytonelbidndjhdaa.Wh
open Go RowKit YtonelbidndjhdaaW.PrintWords YtonelbidndjhdaaW.PrintMore YtonelbidndjhdaaW.Aid YtonelbidndjhdaaW.Big YtonelbidndjhdaaW.Sx Ytonelbidndjhdaa.BitsWalk Ytonelbidndjhdaa.Limbs Ytonelbidndjhdaa.Whole Ytonelbidndjhdaa.R90 Ytonelbidndjhdaa.QN90 Go.Proofs
abbrev intsR:List TypeId:=[84,91]
theorem intsR_ok:intsOk Try.prog intsR:=by unfold intsOk;kernel_rfl
def B (e n:Nat):Prop:=n<2 ^ e
theorem B.mono {e f n:Nat} (h:B e n) (hf:e≤f):B f n:=Nat.lt_of_lt_of_le h (Nat.pow_le_pow_right (by omega) hf)
theorem B.le {e m n:Nat} (h:B e n) (hm:m≤n):B e m:=Nat.lt_of_le_of_lt hm h
theorem B.mul {e f g m n:Nat} (h:B e m) (h':B f n) (hg:e+f≤g):B g (m*n):=by
  refine B.mono ?_ hg
  unfold B
  rw [Nat.pow_add]
  exact Nat.mul_lt_mul'' h h'
theorem B.add {e g m n:Nat} (h:B e m) (h':B e n) (hg:e+1≤g):B g (m+n):=by
  refine B.mono ?_ hg
  unfold B at *
  rw [Nat.pow_succ]
  omega
theorem B.shl {e g n:Nat} (k:Nat) (h:B e n) (hg:e+k≤g):B g (n*2 ^ k):=by
  refine B.mono ?_ hg
  unfold B at *
  rw [Nat.pow_add]
  exact Nat.mul_lt_mul_of_pos_right h (Nat.two_pow_pos k)
theorem B.div {e n:Nat} (h:B e n) (k:Nat):B e (n/k):=h.le (Nat.div_le_self _ _)
theorem B.mod {e n:Nat} (h:B e n) (k:Nat):B e (n%k):=h.le (Nat.mod_le _ _)
theorem B.lim {e n:Nat} (h:B (64*e) n):(limbs n).length≤e:=limbs_len (by rw [show (18446744073709551616:Nat)=2 ^ 64 from rfl,← Nat.pow_mul];exact h)
def BI (e:Nat) (x:Int):Prop:=B e x.natAbs
theorem BI.mono {e f:Nat} {x:Int} (h:BI e x) (hf:e≤f):BI f x:=B.mono h hf
theorem BI.mul {e f g:Nat} {x y:Int} (h:BI e x) (h':BI f y) (hg:e+f≤g):BI g (x*y):=by unfold BI;rw [Int.natAbs_mul];exact B.mul h h' hg
theorem BI.add {e g:Nat} {x y:Int} (h:BI e x) (h':BI e y) (hg:e+1≤g):BI g (x+y):=(B.add h h' hg).le (by omega)
theorem BI.sub {e g:Nat} {x y:Int} (h:BI e x) (h':BI e y) (hg:e+1≤g):BI g (x-y):=(B.add h h' hg).le (by omega)
theorem BI.neg {e:Nat} {x:Int} (h:BI e x):BI e (-x):=B.le h (by omega)
theorem BI.shl {e g:Nat} {x:Int} (k:Nat) (h:BI e x) (hg:e+k≤g):BI g (x*2 ^ k):=by
  unfold BI;rw [Int.natAbs_mul,Int.natAbs_pow];exact B.shl k h hg
theorem natAbs_div_le (x y:Int):(x/y).natAbs≤x.natAbs:=by
  rcases Int.lt_trichotomy y 0 with h|h|h
  · have e:x/y = -(x / -y):=by rw [Int.ediv_neg,Int.neg_neg]
    rw [e,Int.natAbs_neg]
    have h2:0 < -y:=by omega
    generalize -y=z at *
    rcases Int.le_total 0 x with hx|hx
    · have:=Int.ediv_nonneg hx (Int.le_of_lt h2);have:=Int.ediv_le_self z hx;omega
    · have h3:=Int.ediv_lt_of_lt_mul (a:=x) (b:=1) (c:=z) h2 (by omega)
      have h4:x≤x/z:=by
        have:=Int.emod_add_mul_ediv x z
        have h5:=Int.emod_nonneg x (show z≠0 by omega)
        have h6:z*(x/z)≤1*(x/z):=Int.mul_le_mul_of_nonpos_right (by omega) (by omega)
        have h7:=Int.emod_lt_of_pos x h2
        by_cases hc:x≤x/z
        · exact hc
        · exfalso
          have h8:=Int.le_ediv_of_mul_le (a:=x) (b:=x) (c:=z) h2 (by
            have:=Int.mul_le_mul_of_nonpos_left (a:=x) (b:=z) (c:=1) hx (by omega)
            omega)
          omega
      omega
  · subst h;simp
  · rcases Int.le_total 0 x with hx|hx
    · have:=Int.ediv_nonneg hx (Int.le_of_lt h);have:=Int.ediv_le_self y hx;omega
    · have h3:=Int.ediv_lt_of_lt_mul (a:=x) (b:=1) (c:=y) h (by omega)
      have h8:=Int.le_ediv_of_mul_le (a:=x) (b:=x) (c:=y) h (by
        have:=Int.mul_le_mul_of_nonpos_left (a:=x) (b:=y) (c:=1) hx (by omega)
        omega)
      omega
theorem BI.div {e:Nat} {x:Int} (h:BI e x) (y:Int):BI e (x/y):=B.le h (natAbs_div_le x y)
theorem BI.i64 {n:Int} (h : -9223372036854775808≤n∧n<9223372036854775808):BI 64 n:=by
  show n.natAbs<18446744073709551616;omega
theorem BI.one:BI 1 1:=by show (1:Nat)<2;omega
theorem BI.ofS {e m:Nat} (b:Bool) (h:B e m):BI e (ofS b m):=B.le h (by unfold Whole.ofS;split<;>omega)
theorem R_rd {w:World} {b t:Nat} {ok:Nat→Prop} {v:Value} {l:List Int} (h:Kd.R (Kd.int .u64) t w b ok v l):∃ A c,v = .slice A l.length c∧Rd w l A c:=by
  obtain ⟨A,c,rfl⟩:=Kd.R_slice h
  obtain ⟨_,h1,h2⟩:=Kd.R_reads' h
  exact ⟨A,c,rfl,h1,h2⟩
theorem V_rd {w:World} {b t:Nat} {ok:Nat→Prop} {v:Value} {l:List Int} (h:Kd.V (Kd.int .u64) t w b ok v l):∃ A c,v = .slice A l.length c∧Rd w l A c:=by
  obtain ⟨A,c,rfl⟩:=Kd.V_slice h
  obtain ⟨_,h1,h2⟩:=Kd.V_reads' h
  exact ⟨A,c,rfl,h1,h2⟩
theorem rd_V {w:World} {l:List Int} {A:Option Addr} {c b t:Nat} (h:Rd w l A c):Kd.V (Kd.int .u64) t w b (fun _=>True) (.slice A l.length c) l:=by
  refine Kd.V_mk h.1 (fun W' hW=>?_)
  refine ⟨h.2.1,h.2.2.1,fun hn=>?_⟩
  obtain ⟨ad,e,hc⟩:=h.2.2.2 hn
  refine ⟨ad,e,fun j p hj=>?_⟩
  obtain ⟨cs,h1,h2,h3⟩:=hc j p hj
  refine ⟨cs,h1,h2,fun i u hu=>?_⟩
  have h4:=h3 i u hu
  have hb:=World.block_lt_of_cell? w _ h4
  rw [World.cell?_of_block (w:=w) (hW _ trivial hb)]
  exact h4
theorem retRd {w:World} {l:List Int} {R:Ending→World→Prop} {f:FuncId} {us:Array Value} (h:Calls Try.prog f us w R) (hr:∀ e w',R e w'→∃ v,e = .returned v∧(∃ A c,v = .slice A l.length c∧Rd w' l A c)∧Below w.heap.size w w'):Calls Try.prog f us w (RetRd l w) :=
  h.mono fun e w' hR=>by
    obtain ⟨v,he,⟨A,c,rfl,hrd⟩,hb⟩:=hr e w' hR
    exact ⟨A,c,he,hrd,hb⟩
abbrev BN (n:Nat):Prop:=B 20000 n
theorem BN.l {n:Nat} (h:BN n):(limbs n).length≤313:=B.lim (e:=313) (h.mono (by omega))
theorem mm {f:FuncId} {a b r:Nat} {A A':Option Addr} {c c':Nat} {w:World} {R:Ending→World→Prop} {g:Nat→Option (List Int)} (hev:Ev g (limbs r)) (calls:∀ k,g k=some (limbs r)→Calls Try.prog f #[.slice A (limbs a).length c,.slice A' (limbs b).length c'] w R)
    (hr:∀ e w',R e w'→∃ v,e = .returned v∧(∃ A c,v = .slice A (limbs r).length c∧Rd w' (limbs r) A c)∧Below w.heap.size w w'):Ret Try.prog f #[.slice A (limbs a).length c,.slice A' (limbs b).length c'] w (.tv (tM r)):=by
  obtain ⟨k,hk⟩:=hev.rounds
  exact Ret.mag (retRd (calls k hk) hr)
theorem m1 {f:FuncId} {r:Nat} {us:Array Value} {w:World} {R:Ending→World→Prop} {g:Nat→Option (List Int)} (hev:Ev g (limbs r)) (calls:∀ k,g k=some (limbs r)→Calls Try.prog f us w R)
    (hr:∀ e w',R e w'→∃ v,e = .returned v∧(∃ A c,v = .slice A (limbs r).length c∧Rd w' (limbs r) A c)∧Below w.heap.size w w'):Ret Try.prog f us w (.tv (tM r)):=by
  obtain ⟨k,hk⟩:=hev.rounds
  exact Ret.mag (retRd (calls k hk) hr)
theorem drawn_below {w w':World} (h:Drawn0 w w'):Below w.heap.size w w':=h.below
section
set_option maxRecDepth 100000
set_option maxHeartbeats 1000000
def cNPlus:Con Try.prog:=conMM 81 (fun a b=>BN a∧BN b) (fun a b => .tv (tM (a+b))) ⟨_,Try.func81,by kernel_rfl,rfl⟩ (fun a b A A' c c' w h hr hr' =>
  mm (plus_ev (Nat.le_trans h.1.l (by omega)) (Nat.le_trans h.2.l (by omega))) (fun k hk=>gimbalref90_NPlus.calls k A c _ A' c' _ _ w hr.2 hr.1 hr'.2 hr'.1 hk) (fun e w' ⟨v,he,hR,hb⟩=>⟨v,he,R_rd hR,hb⟩))
def cNLess:Con Try.prog:=conMM 83 (fun a b=>BN a∧b≤a) (fun a b => .tv (tM (a-b))) ⟨_,Try.func83,by kernel_rfl,rfl⟩ (fun a b A A' c c' w h hr hr' =>
  mm (less_ev (Nat.le_trans h.1.l (by omega)) h.2) (fun k hk=>gimbalref90_NLess.calls k A c _ A' c' _ _ w hr.2 hr.1 hr'.2 hr'.1 hk) (fun e w' ⟨v,he,hR,hb⟩=>⟨v,he,R_rd hR,hb⟩))
def cNTimes:Con Try.prog:=conMM 84 (fun a b=>BN a∧BN b) (fun a b => .tv (tM (a*b))) ⟨_,Try.func84,by kernel_rfl,rfl⟩ (fun a b A A' c c' w h hr hr' =>
  mm (times_ev (Nat.lt_of_le_of_lt h.1.l (by omega)) (Nat.lt_of_le_of_lt h.2.l (by omega))) (fun k hk=>gimbalref90_NTimes.calls k A c _ A' c' _ _ w hr.2 hr.1 hr'.2 hr'.1 hk) (fun e w' ⟨v,he,hR,hb⟩=>⟨v,he,R_rd hR,hb⟩))
def cNCmp:Con Try.prog:=conMM 82 (fun a b=>BN a∧BN b) (fun a b => .tv (tN .i64 (cmpN a b))) ⟨_,Try.func82,by kernel_rfl,rfl⟩ (fun a b A A' c c' w h hr hr'=>by
  obtain ⟨k,hk⟩:=(cmp_ev (Nat.lt_of_le_of_lt h.1.l (by omega)) (Nat.lt_of_le_of_lt h.2.l (by omega))).rounds
  exact Ret.val ((gimbalref90_NCmp.calls k A c _ A' c' _ _ w hr.2 hr.1 hr'.2 hr'.1 hk).mono fun _ _ ⟨he,hw⟩=>⟨he,drawn_below hw⟩))
def cNLen:Con Try.prog:=conM 132 BN (fun a => .tv (tN .i64 (bitsN a))) ⟨_,Try.func132,by kernel_rfl,rfl⟩ (fun a A c w h hr=>by
  obtain ⟨k,hk⟩:=(nlen_ev (Nat.lt_of_le_of_lt h.l (by omega))).rounds
  exact Ret.val ((gimbalref90_NLen.calls k A c _ _ w hr.2 hr.1 hk).mono fun _ _ ⟨he,hw⟩=>⟨he,drawn_below hw⟩))
def cUp2:Con Try.prog:=conMn 87 (fun a n=>BN a∧0≤n∧n≤6400) (fun a n => .tv (tM (a*2 ^ n.toNat))) ⟨_,Try.func87,by kernel_rfl,rfl⟩ (fun a n A c w h hr=>by
  obtain ⟨m,rfl⟩:∃ m:Nat,n=(m:Int):=⟨n.toNat,by omega⟩
  rw [Int.toNat_natCast]
  exact m1 (up_ev (Nat.lt_of_le_of_lt h.1.l (by omega)) (by omega)) (fun k hk=>gimbalref90_Up2.calls k A c _ _ _ w hr.2 hr.1 hk) (fun e w' ⟨v,he,hR,hb⟩=>⟨v,he,R_rd hR,hb⟩))
def cDown2:Con Try.prog:=conMn 133 (fun a n=>BN a∧0≤n∧n≤6400) (fun a n => .tv (tM (a/2 ^ n.toNat))) ⟨_,Try.func133,by kernel_rfl,rfl⟩ (fun a n A c w h hr=>by
  obtain ⟨m,rfl⟩:∃ m:Nat,n=(m:Int):=⟨n.toNat,by omega⟩
  rw [Int.toNat_natCast]
  exact m1 (down_ev (Nat.lt_of_le_of_lt h.1.l (by omega)) (by omega)) (fun k hk=>gimbalref90_Down2.calls k A c _ _ _ w hr.2 hr.1 hk) (fun e w' ⟨v,he,hR,hb⟩=>⟨v,he,R_rd hR,hb⟩))
def cNGcd:Con Try.prog:=conMM 113 (fun a b=>BN a∧BN b) (fun a b => .tv (tM (Nat.gcd a b))) ⟨_,Try.func113,by kernel_rfl,rfl⟩ (fun a b A A' c c' w h hr hr' =>
  mm (gcd_ev b a (Nat.lt_of_le_of_lt h.1.l (by omega)) (Nat.lt_of_le_of_lt h.2.l (by omega))) (fun k hk=>gimbalref90_NGcd.calls k (fun _=>True) A c _ (fun _=>True) A' c' _ _ w (rd_V hr) (rd_V hr') hk) (fun e w' ⟨v,he,hR,hb⟩=>⟨v,he,V_rd hR,hb⟩))
def cNDivide:Con Try.prog:=conMM 114 (fun a b=>BN a∧BN b∧0<b) (fun a b => .tv (.tup [(false,[.mag ((a/b:Nat):Int)]),(false,[.mag ((a%b:Nat):Int)])])) ⟨_,Try.func114,by kernel_rfl,rfl⟩ (fun a b A A' c c' w h hr hr'=>by
  obtain ⟨k,hk⟩:=(divide_ev h.2.2 (Nat.lt_of_le_of_lt h.1.l (by omega)) (Nat.lt_of_le_of_lt h.2.1.l (by omega))).rounds
  refine (gimbalref90_NDivide.calls k (fun _=>True) A c _ A' c' _ _ _ w (rd_V hr) hr'.2 hr'.1 hk).mono fun e w' ⟨v,u,he,hR,hV,hb⟩=>?_
  obtain ⟨X,x,rfl,hx⟩:=R_rd hR
  obtain ⟨Y,y,rfl,hy⟩:=V_rd hV
  exact ⟨_,he,⟨[_,_],rfl,.cons ⟨_,rfl,X,x,by rw [lm_nat],by rw [lm_nat];exact hx⟩ (.cons ⟨_,rfl,Y,y,by rw [lm_nat],by rw [lm_nat];exact hy⟩ .nil)⟩,hb⟩)
def conW (f:FuncId) (pre:Int→Prop) (r:Int→CR) (hf:FOk Try.prog f) (ok:∀ n w,pre n→Ret Try.prog f #[.int .u64 n] w (r n)):Con Try.prog where
  f:=f
  sem:=fun xs=>match xs with
    | [.sc (.v (.int .u64 n))]=>some (pre n,r n)
    | _=>none
  ok:=by
    intro xs p r' h hp
    refine ⟨hf,fun us w ha=>?_⟩
    split at h
    · rename_i n
      cases h
      obtain ⟨u,rfl,h1⟩:=all2_1 ha
      rw [show _=_ from h1]
      exact ok n w hp
    · cases h
def cNOf:Con Try.prog:=conW 79 (fun n=>0≤n∧n<18446744073709551616) (fun n => .tv (tM n.toNat)) ⟨_,Try.func79,by kernel_rfl,rfl⟩ (fun n w h =>
  m1 (of_ev h.1 h.2) (fun k hk=>gimbalref90_NOf.calls k _ _ w hk) (fun e w' ⟨v,he,hR,hb⟩=>⟨v,he,R_rd hR,hb⟩))
abbrev refK:List (Con Try.prog):=[cNPlus,cNLess,cNTimes,cNCmp,cNLen,cUp2,cDown2,cNGcd,cNDivide,cNOf]
end
end Go.Proofs.Ytonelbidndjhdaa.Wh
end
section
set_option linter.unusedVariables false
set_option linter.unusedSimpArgs false
namespace Go.Proofs.Ytonelbidndjhdaa.Wh
open Ytonelbidndjhdaa.FxWalk
theorem roundP_scale {x c k:Int} (hk:0<k) (hc:0<c):roundP (k*x) (k*c)=roundP x c:=by
  unfold roundP
  rw [Int.mul_ediv_mul_of_pos _ _ hk,Int.mul_emod_mul_of_pos _ _ hk]
  have e:2*(k*(x%c))=k*(2*(x%c)):=by rw [← Int.mul_assoc,Int.mul_comm 2 k,Int.mul_assoc]
  rw [e]
  have g1:(k*(2*(x%c))>k*c)↔2*(x%c)>c:=Int.mul_lt_mul_left hk
  have g2:(k*(2*(x%c))=k*c)↔2*(x%c)=c:=Int.mul_eq_mul_left_iff (by omega)
  simp only [g1,g2]
end Go.Proofs.Ytonelbidndjhdaa.Wh
end
