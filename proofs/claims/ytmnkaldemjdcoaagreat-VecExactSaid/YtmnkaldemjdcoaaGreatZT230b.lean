/- Part of a proof: texts of this session, one behind the other, and words that print.sh printed for this seat, of these only those that the proof leans on (wip/tools/pack.py). -/
import Derived.Test.YtmnkaldemjdcoaaGreatZT230a
section
namespace Go.Proofs.YtmnkaldemjdcoaaGreat.QN90
open RowKit YtmnkaldemjdcoaaGreatW.PrintWords YtmnkaldemjdcoaaGreatW.PrintLast YtmnkaldemjdcoaaGreatW.PrintMore
attribute [local go_sem] max2_int min2_int max_two min_two max_three min_three max_four min_four   -- for this text's walks alone
set_option linter.unusedVariables false
set_option linter.unusedSimpArgs false
def gimbalref90_Down2.l0:Nat→List Int→Int→List Int→Int→Option (List Int)
  | 0,_,_,_,_=>none
  | k+1,x0,x5,x6,x7=>if x7<(x0.length:Int) then (if 0≤x7 then (if 0≤x5 then (if x5>0 then (if (wrap64 (x7+1))<(x0.length:Int) then (if 0≤(wrap64 (x7+1)) then (if 0≤(IntKind.u64.wrap (64-x5)) then (if x6.length<17592186044416 then (gimbalref90_Down2.l0 k x0 x5 (x6++[Go.bits .or .u64 (shr .u64 (rd x0 x7) x5) (shl .u64 (rd x0 (wrap64 (x7+1))) (IntKind.u64.wrap (64-x5)))]) (wrap64 (x7+1))) else (none)) else (none)) else (none)) else (if x6.length<17592186044416 then (gimbalref90_Down2.l0 k x0 x5 (x6++[shr .u64 (rd x0 x7) x5]) (wrap64 (x7+1))) else (none))) else (if x6.length<17592186044416 then (gimbalref90_Down2.l0 k x0 x5 (x6++[shr .u64 (rd x0 x7) x5]) (wrap64 (x7+1))) else (none))) else (none)) else (none)) else ((gimbalref90_NTrim.f k x6).bind fun t121=>(some t121))
def gimbalref90_Down2.f (k:Nat) (l0:List Int) (a1:Int):Option (List Int):=(gimbalref90_NLen.f k l0).bind fun t109=>(if a1≥t109 then (some ([]:List Int)) else (gimbalref90_Down2.l0 k l0 (IntKind.u64.wrap (Int.tmod a1 64)) ([]:List Int) (wrap64 (Int.tdiv a1 64))))
theorem gimbalref90_Down2.mono_l:∀ k,(∀ y0 y1 y2 y3,LeO (gimbalref90_Down2.l0 k y0 y1 y2 y3) (gimbalref90_Down2.l0 (k+1) y0 y1 y2 y3))
  | 0=>fun _ _ _ _ r h=>by simp [gimbalref90_Down2.l0] at h
  | k + 1 => by
    have ih0:=gimbalref90_Down2.mono_l k
    · intro y0 y1 y2 y3
      unfold gimbalref90_Down2.l0
      repeat' first
      | (with_reducible exact ih0 _ _ _ _)
      | (with_reducible exact gimbalref90_NLen.mono _ _)
      | (with_reducible exact gimbalref90_NTrim.mono _ _)
      | (with_reducible exact LeO.refl _)
      | (with_reducible exact LeO.none _)
      | (with_reducible refine LeO.ite ?_ ?_)
      | (with_reducible refine LeO.bind ?_ (fun _=>?_))
      | exact ih0 _ _ _ _
      | exact gimbalref90_NLen.mono _ _
      | exact gimbalref90_NTrim.mono _ _
      | exact LeO.none _
      | refine LeO.ite ?_ ?_
      | refine LeO.bind ?_ (fun _=>?_)
theorem gimbalref90_Down2.mono:∀ a0 a1 k,LeO (gimbalref90_Down2.f k a0 a1) (gimbalref90_Down2.f (k+1) a0 a1):=by
  intro a0 a1 k
  have ih0:=gimbalref90_Down2.mono_l k
  unfold gimbalref90_Down2.f
  repeat' first
      | (with_reducible exact ih0 _ _ _ _)
      | (with_reducible exact gimbalref90_NLen.mono _ _)
      | (with_reducible exact gimbalref90_NTrim.mono _ _)
      | (with_reducible exact LeO.refl _)
      | (with_reducible exact LeO.none _)
      | (with_reducible refine LeO.ite ?_ ?_)
      | (with_reducible refine LeO.bind ?_ (fun _=>?_))
      | exact ih0 _ _ _ _
      | exact gimbalref90_NLen.mono _ _
      | exact gimbalref90_NTrim.mono _ _
      | exact LeO.none _
      | refine LeO.ite ?_ ?_
      | refine LeO.bind ?_ (fun _=>?_)
set_option maxHeartbeats 8000000 in
set_option maxRecDepth 100000 in
theorem gimbalref90_Down2.calls (k:Nat) (A0:Option Addr) (c0:Nat) (l0:List Int) (a1:Int) (r:List Int) (w:World) (hr0:Kd.C (Kd.int .u64) w A0 l0.length l0) (hc0:l0.length≤c0) (h:gimbalref90_Down2.f k l0 a1=some r) :
    Calls Tryz.prog 119 #[.slice A0 l0.length c0,.int .i64 a1] w fun e w'=>∃ v0_:Value,e = .returned (v0_)∧Kd.R (Kd.int .u64) 94 w' w.heap.size (fun _=>True) v0_ r∧Below w.heap.size w w':=by
  have HR0:=Aside0.mk hr0
  have HC0:=Aside0.mk hc0
  clear hr0 hc0
  have HB:=Aside0.mk (Below.refl w.heap.size w)
  have H:((gimbalref90_NLen.f k l0).bind fun t109=>(if a1≥t109 then (some ([]:List Int)) else (gimbalref90_Down2.l0 k l0 (IntKind.u64.wrap (Int.tmod a1 64)) ([]:List Int) (wrap64 (Int.tdiv a1 64)))))=some r:=h
  clear h
  replace H:=Option.bind_eq_some_iff.mp H
  obtain ⟨t109,A30,H⟩:=H
  replace H:(if a1≥t109 then (some ([]:List Int)) else (gimbalref90_Down2.l0 k l0 (IntKind.u64.wrap (Int.tmod a1 64)) ([]:List Int) (wrap64 (Int.tdiv a1 64))))=some r:=H
  have A3:=Aside0.mk A30
  clear A30
  by_cases c4:a1≥t109
  · rw [if_pos c4] at H
    have c4b0:decide (t109≤a1)=true:=decide_eq_true c4
    clear c4
    obtain rfl:=Option.some.inj H
    go_enter Tryz.func119,Tryz.ntmps119
    go_wp2_with (first|((with_reducible refine gate_callee (f:=118) rfl ?_);refine goesL_ (some 11) rfl rfl Tryz.func118 (by kernel_rfl) rfl #[.slice A0 l0.length c0] rfl (by (try simp only [List.map_toArray,List.map_cons,List.map_nil]);first|done|rfl|(simp only [List.length_drop,List.length_take];rfl)) ?_;(with_reducible refine (gimbalref90_NLen.calls k _ _ l0 t109 _ ?side1 ?side2 A3.out).mono ?_);(case side1=>repeat (first|exact HR0.out|(with_reducible refine Kd.C_alloc ?_ _)|(with_reducible refine Kd.C_drewN ?_ _)|(with_reducible refine Kd.C_drew ?_)));(case side2=>exact HC0.out);rintro e w' ⟨rfl,⟨nd,rfl⟩⟩;refine ⟨_,rfl,?_⟩))
    go_ret
    exact ⟨_,by first|rfl|(simp [errW_none,errW_some]<;>rfl)|(simp [*,errW_none,errW_some]<;>rfl),by first|exact Kd.R_nil _ _ _ _ _|exact Kd.N_nil _ _ _ _ _|exact Kd.V_nil _ _ _ _ _|exact Kd.Q_nil _ _ _ _ _|exact Kd.S_nil _ _ _ _ _,by repeat (first|(with_reducible first|exact HB.out|apply below_alloc|apply pw_below_drewN|apply below_drew1)|exact HB.out)⟩
  · rw [if_neg c4] at H
    have c4b0:decide (t109≤a1)=false:=decide_eq_false c4
    clear c4
    have H':=Aside0.mk H
    clear H
    go_enter Tryz.func119,Tryz.ntmps119
    go_wp2_with (first|((with_reducible refine gate_callee (f:=118) rfl ?_);refine goesL_ (some 11) rfl rfl Tryz.func118 (by kernel_rfl) rfl #[.slice A0 l0.length c0] rfl (by (try simp only [List.map_toArray,List.map_cons,List.map_nil]);first|done|rfl|(simp only [List.length_drop,List.length_take];rfl)) ?_;(with_reducible refine (gimbalref90_NLen.calls k _ _ l0 t109 _ ?side1 ?side2 A3.out).mono ?_);(case side1=>repeat (first|exact HR0.out|(with_reducible refine Kd.C_alloc ?_ _)|(with_reducible refine Kd.C_drewN ?_ _)|(with_reducible refine Kd.C_drew ?_)));(case side2=>exact HC0.out);rintro e w' ⟨rfl,⟨nd,rfl⟩⟩;refine ⟨_,rfl,?_⟩))
    go_loopg [6,7] k (fun kq v6 v7 w'=>∃ (x6_1:List Int) (x7_1:Int),v7 = .int .i64 x7_1∧Aside0 (gimbalref90_Down2.l0 kq l0 (IntKind.u64.wrap (Int.tmod a1 64)) x6_1 x7_1=some r)∧Aside0 (kq≤k)∧Aside0 (Kd.R (Kd.int .u64) 94 w' w.heap.size (fun _=>True) v6 x6_1)∧Aside0 (Below w.heap.size w w'))
    case atStart=>exact ⟨(([]:List Int)),(wrap64 (Int.tdiv a1 64)),(by first|rfl|(simp;done)|(simp [*];done)),H',⟨Nat.le_refl _⟩,⟨by first|exact Kd.R_nil _ _ _ _ _|exact Kd.N_nil _ _ _ _ _|exact Kd.V_nil _ _ _ _ _|exact Kd.Q_nil _ _ _ _ _|exact Kd.S_nil _ _ _ _ _⟩,⟨by repeat (first|(with_reducible first|exact HB.out|apply below_alloc|apply pw_below_drewN|apply below_drew1)|exact HB.out)⟩⟩
    case round =>
      clear H'
      try clear c1
      try clear p2
      try clear c4
      try clear c4b0
      obtain ⟨x6_1,x7_1,rfl,HA,HK1,HO_6,HB⟩:=hrel
      cases gk with
      | zero=>exact absurd HA.out (by simp [gimbalref90_Down2.l0])
      | succ k1 =>
        have H:=HA.out
        clear HA
        simp only [gimbalref90_Down2.l0] at H
        by_cases c5:x7_1<(l0.length:Int)
        · rw [if_pos c5] at H
          have c5b0:decide (x7_1<(l0.length:Int))=true:=decide_eq_true c5
          clear c5
          by_cases c6:0≤x7_1
          · rw [if_pos c6] at H
            have c6b0:decide (0≤x7_1)=true:=decide_eq_true c6
            clear c6
            obtain ⟨ji7,hji7⟩:∃ j_:Int,(IntKind.u64.wrap (Int.tmod a1 64))=j_:=⟨_,rfl⟩
            replace H:(if 0≤(ji7) then (if (ji7)>0 then (if (wrap64 (x7_1+1))<(l0.length:Int) then (if 0≤(wrap64 (x7_1+1)) then (if 0≤(IntKind.u64.wrap (64-(ji7))) then (if x6_1.length<17592186044416 then (gimbalref90_Down2.l0 k1 l0 (ji7) (x6_1++[Go.bits .or .u64 (shr .u64 (rd l0 x7_1) (ji7)) (shl .u64 (rd l0 (wrap64 (x7_1+1))) (IntKind.u64.wrap (64-(ji7))))]) (wrap64 (x7_1+1))) else (none)) else (none)) else (none)) else (if x6_1.length<17592186044416 then (gimbalref90_Down2.l0 k1 l0 (ji7) (x6_1++[shr .u64 (rd l0 x7_1) (ji7)]) (wrap64 (x7_1+1))) else (none))) else (if x6_1.length<17592186044416 then (gimbalref90_Down2.l0 k1 l0 (ji7) (x6_1++[shr .u64 (rd l0 x7_1) (ji7)]) (wrap64 (x7_1+1))) else (none))) else (none))=some r:=by first|(rw [hji7] at H;exact H)|(simp only [hji7] at H ⊢;exact H)
            by_cases c8:0≤(ji7)
            · rw [if_pos c8] at H
              have c8b0:=eq_true c8
              have c8b1:decide (0≤(ji7))=true:=decide_eq_true c8
              clear c8
              obtain ⟨ji9,hji9⟩:∃ j_:Int,(shr .u64 (rd l0 x7_1) (ji7))=j_:=⟨_,rfl⟩
              replace H:(if (ji7)>0 then (if (wrap64 (x7_1+1))<(l0.length:Int) then (if 0≤(wrap64 (x7_1+1)) then (if 0≤(IntKind.u64.wrap (64-(ji7))) then (if x6_1.length<17592186044416 then (gimbalref90_Down2.l0 k1 l0 (ji7) (x6_1++[Go.bits .or .u64 (ji9) (shl .u64 (rd l0 (wrap64 (x7_1+1))) (IntKind.u64.wrap (64-(ji7))))]) (wrap64 (x7_1+1))) else (none)) else (none)) else (none)) else (if x6_1.length<17592186044416 then (gimbalref90_Down2.l0 k1 l0 (ji7) (x6_1++[ji9]) (wrap64 (x7_1+1))) else (none))) else (if x6_1.length<17592186044416 then (gimbalref90_Down2.l0 k1 l0 (ji7) (x6_1++[ji9]) (wrap64 (x7_1+1))) else (none)))=some r:=by first|(rw [hji9] at H;exact H)|(simp only [hji9] at H ⊢;exact H)
              have hji9_:((rd l0 x7_1)/2 ^ min (ji7).toNat 64)=ji9:=hji9
              have hji9z:(ji7)≤64→((rd l0 x7_1)/2 ^ (ji7).toNat)=ji9:=shr_small hji9
              by_cases c10:(ji7)>0
              · rw [if_pos c10] at H
                have c10b0:decide (0<(ji7))=true:=decide_eq_true c10
                clear c10
                by_cases c11:(wrap64 (x7_1+1))<(l0.length:Int)
                · rw [if_pos c11] at H
                  have c11b0:decide ((wrap64 (x7_1+1))<(l0.length:Int))=true:=decide_eq_true c11
                  clear c11
                  obtain ⟨ji12,hji12⟩:∃ j_:Int,(wrap64 (x7_1+1))=j_:=⟨_,rfl⟩
                  replace H:(if 0≤(ji12) then (if 0≤(IntKind.u64.wrap (64-(ji7))) then (if x6_1.length<17592186044416 then (gimbalref90_Down2.l0 k1 l0 (ji7) (x6_1++[Go.bits .or .u64 (ji9) (shl .u64 (rd l0 (ji12)) (IntKind.u64.wrap (64-(ji7))))]) ji12) else (none)) else (none)) else (none))=some r:=by first|(rw [hji12] at H;exact H)|(simp only [hji12] at H ⊢;exact H)
                  (try rw [hji12] at c11b0)
                  have hji12w:(IntKind.i64.wrap (x7_1+1))=ji12:=(i64_w _).trans hji12
                  by_cases c13:0≤(ji12)
                  · rw [if_pos c13] at H
                    have c13b0:decide (0≤(ji12))=true:=decide_eq_true c13
                    clear c13
                    obtain ⟨ji14,hji14⟩:∃ j_:Int,(IntKind.u64.wrap (64-(ji7)))=j_:=⟨_,rfl⟩
                    replace H:(if 0≤(ji14) then (if x6_1.length<17592186044416 then (gimbalref90_Down2.l0 k1 l0 (ji7) (x6_1++[Go.bits .or .u64 (ji9) (shl .u64 (rd l0 (ji12)) (ji14))]) ji12) else (none)) else (none))=some r:=by first|(rw [hji14] at H;exact H)|(simp only [hji14] at H ⊢;exact H)
                    by_cases c15:0≤(ji14)
                    · rw [if_pos c15] at H
                      have c15b0:=eq_true c15
                      have c15b1:decide (0≤(ji14))=true:=decide_eq_true c15
                      clear c15
                      obtain ⟨ji16,hji16⟩:∃ j_:Int,(shl .u64 (rd l0 (ji12)) (ji14))=j_:=⟨_,rfl⟩
                      replace H:(if x6_1.length<17592186044416 then (gimbalref90_Down2.l0 k1 l0 (ji7) (x6_1++[Go.bits .or .u64 (ji9) (ji16)]) ji12) else (none))=some r:=by first|(rw [hji16] at H;exact H)|(simp only [hji16] at H ⊢;exact H)
                      have hji16_:(IntKind.u64.wrap ((rd l0 (ji12))*2 ^ min (ji14).toNat 64))=ji16:=hji16
                      have hji16z:(ji14)≤64→(IntKind.u64.wrap ((rd l0 (ji12))*2 ^ (ji14).toNat))=ji16:=shl_small hji16
                      by_cases c17:x6_1.length<17592186044416
                      · rw [if_pos c17] at H
                        have LMc17:=Aside0.mk c17
                        clear c17
                        obtain ⟨y112,hy112⟩:∃ y_:List Int,y_=(x6_1++[Go.bits .or .u64 (ji9) (ji16)]):=⟨_,rfl⟩
                        replace H:(gimbalref90_Down2.l0 k1 l0 (ji7) y112 ji12)=some r:=by first|(rw [hy112];with_reducible exact H)|(have H2_:=(Option.bind_some _ _).symm.trans H;rw [hy112];with_reducible exact H2_)|(have H2_:=(Option.bind_some _ _).symm.trans H;with_reducible exact H2_)|with_reducible exact H|(rw [hy112];exact H)|exact H
                        have Ny112:=Aside0.mk hy112
                        clear hy112
                        have H':=Aside0.mk H
                        clear H
                        have p110:0≤(x7_1:Int):=of_decide_eq_true (by first|(with_reducible assumption)|assumption)
                        have q110:x7_1<(l0.length:Int):=of_decide_eq_true (by first|(with_reducible assumption)|assumption)
                        obtain ⟨ad110,e110,hx110_0⟩:=Kd.at_int HR0.out x7_1 p110 q110
                        cases e110
                        replace hx110_0:=(HB.out.cell (World.block_lt_of_cell? w _ hx110_0)).trans hx110_0
                        replace p110:=eq_true p110
                        replace q110:=eq_true q110
                        have p111:0≤((ji12):Int):=of_decide_eq_true (by first|(with_reducible assumption)|assumption)
                        have q111:(ji12)<(l0.length:Int):=of_decide_eq_true (by first|(with_reducible assumption)|assumption)
                        obtain ⟨ad111,e111,hx111_0⟩:=Kd.at_int HR0.out (ji12) p111 q111
                        obtain rfl:ad110=ad111:=(by injection e111)
                        replace hx111_0:=(HB.out.cell (World.block_lt_of_cell? w _ hx111_0)).trans hx111_0
                        replace p111:=eq_true p111
                        replace q111:=eq_true q111
                        go_wp2_with (first|((with_reducible refine gate_builtin (b := .append) (xs:=#[.tmp 49,.tmp 51]) rfl ?_);(try (refine gate_guard (by rfl) ?_;dsimp only));at_builtin;refine Kd.R_append (Kd.int .u64) (w0:=w) w.heap.size rfl (.tmp 49) (.tmp 51) 55 94 (.int .u64 0) 8 rfl Tryz.underlying55 info94 rfl (by decide) (by omega) u6 x6_1 (Go.bits .or .u64 (ji9) (ji16)) [.int .u64 (Go.bits .or .u64 (ji9) (ji16))] (fun _=>True) (fun _=>False) rfl rfl ?aP (fun _ hk=>hk.elim) ?aF ?aO ?aB ?aS ?aL ?_;(case aP=>exact rfl);(case aB=>exact (by repeat (first|(with_reducible first|exact HB.out|apply below_alloc|apply pw_below_drewN|apply below_drew1)|exact HB.out)));(case aF=>exact (fun _ _=>trivial));(case aO=>exact (by (with_reducible repeat (first|apply Kd.R_alloc|apply Kd.R_drewN|apply Kd.R_drew));exact HO_6.out));(case aS=>exact (below_size (by repeat (first|(with_reducible first|exact HB.out|apply below_alloc|apply pw_below_drewN|apply below_drew1)|exact HB.out))));(case aL=>have:=LMc17.out;omega);intro v113 w18 ho hb hg hat;rw [← Ny112.out] at ho;have n0_:=Aside0.mk (hb);have n1_:=Aside0.mk (ho);clear HB;clear HO_6;have HB:=n0_;have HO114:=n1_;clear n0_ n1_;clear ho hb hg hat))
                        try subst hji7
                        try subst hji9
                        try subst hji14
                        try subst hji16
                        go_roundg k1
                        case measure=>have:=HK1.out;omega
                        case rel=>exact ⟨(y112),(ji12),(by first|rfl|(simp;done)|(simp only [← hji12]<;>(first|rfl|simp))|(simp [*];done)),H',⟨by have:=HK1.out;omega⟩,⟨by (with_reducible repeat (first|apply Kd.R_alloc|apply Kd.R_drewN|apply Kd.R_drew));exact HO114.out⟩,⟨by repeat (first|(with_reducible first|exact HB.out|apply below_alloc|apply pw_below_drewN|apply below_drew1)|exact HB.out)⟩⟩
                      · rw [if_neg c17] at H
                        exact absurd H (by simp)
                    · rw [if_neg c15] at H
                      exact absurd H (by simp)
                  · rw [if_neg c13] at H
                    exact absurd H (by simp)
                · rw [if_neg c11] at H
                  have c11b0:decide ((wrap64 (x7_1+1))<(l0.length:Int))=false:=decide_eq_false c11
                  clear c11
                  by_cases c19:x6_1.length<17592186044416
                  · rw [if_pos c19] at H
                    have LMc19:=Aside0.mk c19
                    clear c19
                    obtain ⟨y115,hy115⟩:∃ y_:List Int,y_=(x6_1++[ji9]):=⟨_,rfl⟩
                    replace H:(gimbalref90_Down2.l0 k1 l0 (ji7) y115 (wrap64 (x7_1+1)))=some r:=by first|(rw [hy115];with_reducible exact H)|(have H2_:=(Option.bind_some _ _).symm.trans H;rw [hy115];with_reducible exact H2_)|(have H2_:=(Option.bind_some _ _).symm.trans H;with_reducible exact H2_)|with_reducible exact H|(rw [hy115];exact H)|exact H
                    have Ny115:=Aside0.mk hy115
                    clear hy115
                    have H':=Aside0.mk H
                    clear H
                    have p110:0≤(x7_1:Int):=of_decide_eq_true (by first|(with_reducible assumption)|assumption)
                    have q110:x7_1<(l0.length:Int):=of_decide_eq_true (by first|(with_reducible assumption)|assumption)
                    obtain ⟨ad110,e110,hx110_0⟩:=Kd.at_int HR0.out x7_1 p110 q110
                    cases e110
                    replace hx110_0:=(HB.out.cell (World.block_lt_of_cell? w _ hx110_0)).trans hx110_0
                    replace p110:=eq_true p110
                    replace q110:=eq_true q110
                    go_wp2_with (first|((with_reducible refine gate_builtin (b := .append) (xs:=#[.tmp 49,.tmp 51]) rfl ?_);(try (refine gate_guard (by rfl) ?_;dsimp only));at_builtin;refine Kd.R_append (Kd.int .u64) (w0:=w) w.heap.size rfl (.tmp 49) (.tmp 51) 55 94 (.int .u64 0) 8 rfl Tryz.underlying55 info94 rfl (by decide) (by omega) u6 x6_1 ji9 [.int .u64 ji9] (fun _=>True) (fun _=>False) rfl rfl ?aP (fun _ hk=>hk.elim) ?aF ?aO ?aB ?aS ?aL ?_;(case aP=>exact rfl);(case aB=>exact (by repeat (first|(with_reducible first|exact HB.out|apply below_alloc|apply pw_below_drewN|apply below_drew1)|exact HB.out)));(case aF=>exact (fun _ _=>trivial));(case aO=>exact (by (with_reducible repeat (first|apply Kd.R_alloc|apply Kd.R_drewN|apply Kd.R_drew));exact HO_6.out));(case aS=>exact (below_size (by repeat (first|(with_reducible first|exact HB.out|apply below_alloc|apply pw_below_drewN|apply below_drew1)|exact HB.out))));(case aL=>have:=LMc19.out;omega);intro v116 w20 ho hb hg hat;rw [← Ny115.out] at ho;have n0_:=Aside0.mk (hb);have n1_:=Aside0.mk (ho);clear HB;clear HO_6;have HB:=n0_;have HO117:=n1_;clear n0_ n1_;clear ho hb hg hat))
                    try subst hji7
                    try subst hji9
                    try subst hji12
                    try subst hji14
                    go_roundg k1
                    case measure=>have:=HK1.out;omega
                    case rel=>exact ⟨(y115),(wrap64 (x7_1+1)),(by first|rfl|(simp;done)|(simp [*];done)),H',⟨by have:=HK1.out;omega⟩,⟨by (with_reducible repeat (first|apply Kd.R_alloc|apply Kd.R_drewN|apply Kd.R_drew));exact HO117.out⟩,⟨by repeat (first|(with_reducible first|exact HB.out|apply below_alloc|apply pw_below_drewN|apply below_drew1)|exact HB.out)⟩⟩
                  · rw [if_neg c19] at H
                    exact absurd H (by simp)
              · rw [if_neg c10] at H
                have c10b0:decide (0<(ji7))=false:=decide_eq_false c10
                clear c10
                by_cases c21:x6_1.length<17592186044416
                · rw [if_pos c21] at H
                  have LMc21:=Aside0.mk c21
                  clear c21
                  obtain ⟨y118,hy118⟩:∃ y_:List Int,y_=(x6_1++[ji9]):=⟨_,rfl⟩
                  replace H:(gimbalref90_Down2.l0 k1 l0 (ji7) y118 (wrap64 (x7_1+1)))=some r:=by first|(rw [hy118];with_reducible exact H)|(have H2_:=(Option.bind_some _ _).symm.trans H;rw [hy118];with_reducible exact H2_)|(have H2_:=(Option.bind_some _ _).symm.trans H;with_reducible exact H2_)|with_reducible exact H|(rw [hy118];exact H)|exact H
                  have Ny118:=Aside0.mk hy118
                  clear hy118
                  have H':=Aside0.mk H
                  clear H
                  have p110:0≤(x7_1:Int):=of_decide_eq_true (by first|(with_reducible assumption)|assumption)
                  have q110:x7_1<(l0.length:Int):=of_decide_eq_true (by first|(with_reducible assumption)|assumption)
                  obtain ⟨ad110,e110,hx110_0⟩:=Kd.at_int HR0.out x7_1 p110 q110
                  cases e110
                  replace hx110_0:=(HB.out.cell (World.block_lt_of_cell? w _ hx110_0)).trans hx110_0
                  replace p110:=eq_true p110
                  replace q110:=eq_true q110
                  go_wp2_with (first|((with_reducible refine gate_builtin (b := .append) (xs:=#[.tmp 49,.tmp 51]) rfl ?_);(try (refine gate_guard (by rfl) ?_;dsimp only));at_builtin;refine Kd.R_append (Kd.int .u64) (w0:=w) w.heap.size rfl (.tmp 49) (.tmp 51) 55 94 (.int .u64 0) 8 rfl Tryz.underlying55 info94 rfl (by decide) (by omega) u6 x6_1 ji9 [.int .u64 ji9] (fun _=>True) (fun _=>False) rfl rfl ?aP (fun _ hk=>hk.elim) ?aF ?aO ?aB ?aS ?aL ?_;(case aP=>exact rfl);(case aB=>exact (by repeat (first|(with_reducible first|exact HB.out|apply below_alloc|apply pw_below_drewN|apply below_drew1)|exact HB.out)));(case aF=>exact (fun _ _=>trivial));(case aO=>exact (by (with_reducible repeat (first|apply Kd.R_alloc|apply Kd.R_drewN|apply Kd.R_drew));exact HO_6.out));(case aS=>exact (below_size (by repeat (first|(with_reducible first|exact HB.out|apply below_alloc|apply pw_below_drewN|apply below_drew1)|exact HB.out))));(case aL=>have:=LMc21.out;omega);intro v119 w22 ho hb hg hat;rw [← Ny118.out] at ho;have n0_:=Aside0.mk (hb);have n1_:=Aside0.mk (ho);clear HB;clear HO_6;have HB:=n0_;have HO120:=n1_;clear n0_ n1_;clear ho hb hg hat))
                  try subst hji7
                  try subst hji9
                  try subst hji12
                  go_roundg k1
                  case measure=>have:=HK1.out;omega
                  case rel=>exact ⟨(y118),(wrap64 (x7_1+1)),(by first|rfl|(simp;done)|(simp [*];done)),H',⟨by have:=HK1.out;omega⟩,⟨by (with_reducible repeat (first|apply Kd.R_alloc|apply Kd.R_drewN|apply Kd.R_drew));exact HO120.out⟩,⟨by repeat (first|(with_reducible first|exact HB.out|apply below_alloc|apply pw_below_drewN|apply below_drew1)|exact HB.out)⟩⟩
                · rw [if_neg c21] at H
                  exact absurd H (by simp)
            · rw [if_neg c8] at H
              exact absurd H (by simp)
          · rw [if_neg c6] at H
            exact absurd H (by simp)
        · rw [if_neg c5] at H
          have c5b0:decide (x7_1<(l0.length:Int))=false:=decide_eq_false c5
          clear c5
          replace H:=Option.bind_eq_some_iff.mp H
          obtain ⟨t121,A230,H⟩:=H
          replace H:(some t121)=some r:=H
          have A23:=Aside0.mk A230
          clear A230
          obtain rfl:=Option.some.inj H
          obtain ⟨Ao24,co24,eo24⟩:=Kd.R_slice HO_6.out
          subst eo24
          go_wp2_with (first|((with_reducible refine gate_callee (f:=94) rfl ?_);refine goesL_ (some 54) rfl rfl Tryz.func94 (by kernel_rfl) rfl #[.slice Ao24 x6_1.length co24] rfl (by (try simp only [List.map_toArray,List.map_cons,List.map_nil]);first|done|rfl|(simp only [List.length_drop,List.length_take];rfl)) ?_;(with_reducible refine (gimbalref90_NTrim.calls k1 (fun k_=>some k_=(.slice Ao24 x6_1.length co24:Value).ownBlock) (.slice Ao24 x6_1.length co24) x6_1 t121 w _ ?side1 ?side2 A23.out).mono ?_);(case side1=>repeat (first|(with_reducible first|exact HB.out|apply below_alloc|apply pw_below_drewN|apply below_drew1)|exact HB.out));(case side2=>exact Kd.R_tight rfl HO_6.out);rintro e w25 ⟨v122,rfl,ho0,hb,hkp⟩;refine ⟨_,rfl,?_⟩;have n0_:=Aside0.mk (Kd.R_mono (ok':=fun k_=>True) ho0 (fun k_ hk_=>trivial));have n1_:=Aside0.mk (hb);clear HB;clear HO_6;have HO123:=n0_;have HB:=n1_;clear n0_ n1_;(try clear hb);(try clear hkp);(try clear ho0)))
          go_ret
          exact ⟨_,by first|rfl|(simp [errW_none,errW_some]<;>rfl)|(simp [*,errW_none,errW_some]<;>rfl),by (with_reducible repeat (first|apply Kd.R_alloc|apply Kd.R_drewN|apply Kd.R_drew));exact HO123.out,by repeat (first|(with_reducible first|exact HB.out|apply below_alloc|apply pw_below_drewN|apply below_drew1)|exact HB.out)⟩
def gimbalref90_NCmp.l0:Nat→List Int→List Int→Int→Option (Int)
  | 0,_,_,_=>none
  | k+1,x0,x1,x5=>if x5≥0 then (if 0≤x5 then (if x5<(x0.length:Int) then (if x5<(x1.length:Int) then (if (rd x0 x5)<(rd x1 x5) then (some (-1)) else (if (rd x0 x5)>(rd x1 x5) then (some 1) else (gimbalref90_NCmp.l0 k x0 x1 (wrap64 (x5-1))))) else (none)) else (none)) else (none)) else (some 0)
def gimbalref90_NCmp.f (k:Nat) (l0:List Int) (l1:List Int):Option (Int):=if (l0.length:Int)=(l1.length:Int) then (gimbalref90_NCmp.l0 k l0 l1 (wrap64 ((l0.length:Int)-1))) else (if (l0.length:Int)<(l1.length:Int) then (some (-1)) else (some 1))
theorem gimbalref90_NCmp.mono_l:∀ k,(∀ y0 y1 y2,LeO (gimbalref90_NCmp.l0 k y0 y1 y2) (gimbalref90_NCmp.l0 (k+1) y0 y1 y2))
  | 0=>fun _ _ _ r h=>by simp [gimbalref90_NCmp.l0] at h
  | k + 1 => by
    have ih0:=gimbalref90_NCmp.mono_l k
    · intro y0 y1 y2
      unfold gimbalref90_NCmp.l0
      repeat' first
      | (with_reducible exact ih0 _ _ _)
      | (with_reducible exact LeO.refl _)
      | (with_reducible exact LeO.none _)
      | (with_reducible refine LeO.ite ?_ ?_)
      | (with_reducible refine LeO.bind ?_ (fun _=>?_))
      | exact ih0 _ _ _
      | exact LeO.none _
      | refine LeO.ite ?_ ?_
      | refine LeO.bind ?_ (fun _=>?_)
theorem gimbalref90_NCmp.mono:∀ a0 a1 k,LeO (gimbalref90_NCmp.f k a0 a1) (gimbalref90_NCmp.f (k+1) a0 a1):=by
  intro a0 a1 k
  have ih0:=gimbalref90_NCmp.mono_l k
  unfold gimbalref90_NCmp.f
  repeat' first
      | (with_reducible exact ih0 _ _ _)
      | (with_reducible exact LeO.refl _)
      | (with_reducible exact LeO.none _)
      | (with_reducible refine LeO.ite ?_ ?_)
      | (with_reducible refine LeO.bind ?_ (fun _=>?_))
      | exact ih0 _ _ _
      | exact LeO.none _
      | refine LeO.ite ?_ ?_
      | refine LeO.bind ?_ (fun _=>?_)
set_option maxHeartbeats 8000000 in
set_option maxRecDepth 100000 in
theorem gimbalref90_NCmp.calls (k:Nat) (A0:Option Addr) (c0:Nat) (l0:List Int) (A1:Option Addr) (c1:Nat) (l1:List Int) (r:Int) (w:World) (hr0:Kd.C (Kd.int .u64) w A0 l0.length l0) (hc0:l0.length≤c0) (hr1:Kd.C (Kd.int .u64) w A1 l1.length l1) (hc1:l1.length≤c1) (h:gimbalref90_NCmp.f k l0 l1=some r) :
    Calls Tryz.prog 96 #[.slice A0 l0.length c0,.slice A1 l1.length c1] w fun e w'=>e = .returned (.int .i64 r)∧Drawn0 w w':=by
  have HR0:=Aside0.mk hr0
  have HC0:=Aside0.mk hc0
  clear hr0 hc0
  have HR1:=Aside0.mk hr1
  have HC1:=Aside0.mk hc1
  clear hr1 hc1
  have H:(if (l0.length:Int)=(l1.length:Int) then (gimbalref90_NCmp.l0 k l0 l1 (wrap64 ((l0.length:Int)-1))) else (if (l0.length:Int)<(l1.length:Int) then (some (-1)) else (some 1)))=some r:=h
  clear h
  by_cases c3:(l0.length:Int)=(l1.length:Int)
  · rw [if_pos c3] at H
    have c3b0:((l0.length:Int) == (l1.length:Int))=true:=beq_iff_eq.mpr c3
    have c3b1:((l0.length:Int) != (l1.length:Int))=false:=bne_eq_false_iff_eq.mpr c3
    have c3b2:(l0.length == l1.length)=true:=by first|simpa using c3|(simp at c3 ⊢;omega)
    clear c3
    have H':=Aside0.mk H
    clear H
    go_enter Tryz.func96,Tryz.ntmps96
    go_wp2
    repeat (go_quiet (fail);try go_wp2)
    go_loopg [5] k (fun kq v5 w'=>∃ (x5_1:Int),v5 = .int .i64 x5_1∧Aside0 (gimbalref90_NCmp.l0 kq l0 l1 x5_1=some r)∧Aside0 (kq≤k)∧Drawn0 w w')
    case atStart=>exact ⟨(wrap64 ((l0.length:Int)-1)),(by first|rfl|(simp;done)|(simp [*];done)),H',⟨Nat.le_refl _⟩,by repeat (first|exact Drawn0.refl _|apply Drawn0.step)⟩
    case round =>
      clear H'
      try clear c1
      try clear p2
      try clear c3
      try clear c3b0
      try clear c3b1
      try clear c3b2
      obtain ⟨x5_1,rfl,HA,HK1,⟨m1,rfl⟩⟩:=hrel
      cases gk with
      | zero=>exact absurd HA.out (by simp [gimbalref90_NCmp.l0])
      | succ k1 =>
        have H:=HA.out
        clear HA
        simp only [gimbalref90_NCmp.l0] at H
        by_cases c4:x5_1≥0
        · rw [if_pos c4] at H
          have c4b0:decide (0≤x5_1)=true:=decide_eq_true c4
          clear c4
          by_cases c5:0≤x5_1
          · rw [if_pos c5] at H
            have c5b0:decide (0≤x5_1)=true:=decide_eq_true c5
            clear c5
            by_cases c6:x5_1<(l0.length:Int)
            · rw [if_pos c6] at H
              have c6b0:decide (x5_1<(l0.length:Int))=true:=decide_eq_true c6
              clear c6
              by_cases c7:x5_1<(l1.length:Int)
              · rw [if_pos c7] at H
                have c7b0:decide (x5_1<(l1.length:Int))=true:=decide_eq_true c7
                clear c7
                by_cases c8:(rd l0 x5_1)<(rd l1 x5_1)
                · rw [if_pos c8] at H
                  have c8b0:decide ((rd l0 x5_1)<(rd l1 x5_1))=true:=decide_eq_true c8
                  clear c8
                  obtain rfl:=Option.some.inj H
                  have p124:0≤(x5_1:Int):=of_decide_eq_true (by first|(with_reducible assumption)|assumption)
                  have q124:x5_1<(l0.length:Int):=of_decide_eq_true (by first|(with_reducible assumption)|assumption)
                  obtain ⟨ad124,e124,hx124_0⟩:=Kd.at_int HR0.out x5_1 p124 q124
                  cases e124
                  replace p124:=eq_true p124
                  replace q124:=eq_true q124
                  have p125:0≤(x5_1:Int):=of_decide_eq_true (by first|(with_reducible assumption)|assumption)
                  have q125:x5_1<(l1.length:Int):=of_decide_eq_true (by first|(with_reducible assumption)|assumption)
                  obtain ⟨ad125,e125,hx125_0⟩:=Kd.at_int HR1.out x5_1 p125 q125
                  cases e125
                  replace p125:=eq_true p125
                  replace q125:=eq_true q125
                  go_wp2
                  repeat (go_quiet (fail);try go_wp2)
                  go_ret
                  exact ⟨by first|rfl|(simp;done)|(simp [*];done),by repeat (first|exact Drawn0.refl _|apply Drawn0.step)⟩
                · rw [if_neg c8] at H
                  have c8b0:decide ((rd l0 x5_1)<(rd l1 x5_1))=false:=decide_eq_false c8
                  clear c8
                  by_cases c9:(rd l0 x5_1)>(rd l1 x5_1)
                  · rw [if_pos c9] at H
                    have c9b0:decide ((rd l1 x5_1)<(rd l0 x5_1))=true:=decide_eq_true c9
                    clear c9
                    obtain rfl:=Option.some.inj H
                    have p124:0≤(x5_1:Int):=of_decide_eq_true (by first|(with_reducible assumption)|assumption)
                    have q124:x5_1<(l0.length:Int):=of_decide_eq_true (by first|(with_reducible assumption)|assumption)
                    obtain ⟨ad124,e124,hx124_0⟩:=Kd.at_int HR0.out x5_1 p124 q124
                    cases e124
                    replace p124:=eq_true p124
                    replace q124:=eq_true q124
                    have p125:0≤(x5_1:Int):=of_decide_eq_true (by first|(with_reducible assumption)|assumption)
                    have q125:x5_1<(l1.length:Int):=of_decide_eq_true (by first|(with_reducible assumption)|assumption)
                    obtain ⟨ad125,e125,hx125_0⟩:=Kd.at_int HR1.out x5_1 p125 q125
                    cases e125
                    replace p125:=eq_true p125
                    replace q125:=eq_true q125
                    have p126:0≤(x5_1:Int):=of_decide_eq_true (by first|(with_reducible assumption)|assumption)
                    have q126:x5_1<(l0.length:Int):=of_decide_eq_true (by first|(with_reducible assumption)|assumption)
                    obtain ⟨ad126,e126,hx126_0⟩:=Kd.at_int HR0.out x5_1 p126 q126
                    obtain rfl:ad124=ad126:=(by injection e126)
                    replace p126:=eq_true p126
                    replace q126:=eq_true q126
                    have p127:0≤(x5_1:Int):=of_decide_eq_true (by first|(with_reducible assumption)|assumption)
                    have q127:x5_1<(l1.length:Int):=of_decide_eq_true (by first|(with_reducible assumption)|assumption)
                    obtain ⟨ad127,e127,hx127_0⟩:=Kd.at_int HR1.out x5_1 p127 q127
                    obtain rfl:ad125=ad127:=(by injection e127)
                    replace p127:=eq_true p127
                    replace q127:=eq_true q127
                    go_wp2
                    repeat (go_quiet (fail);try go_wp2)
                    go_ret
                    exact ⟨by first|rfl|(simp;done)|(simp [*];done),by repeat (first|exact Drawn0.refl _|apply Drawn0.step)⟩
                  · rw [if_neg c9] at H
                    have c9b0:decide ((rd l1 x5_1)<(rd l0 x5_1))=false:=decide_eq_false c9
                    clear c9
                    have H':=Aside0.mk H
                    clear H
                    have p124:0≤(x5_1:Int):=of_decide_eq_true (by first|(with_reducible assumption)|assumption)
                    have q124:x5_1<(l0.length:Int):=of_decide_eq_true (by first|(with_reducible assumption)|assumption)
                    obtain ⟨ad124,e124,hx124_0⟩:=Kd.at_int HR0.out x5_1 p124 q124
                    cases e124
                    replace p124:=eq_true p124
                    replace q124:=eq_true q124
                    have p125:0≤(x5_1:Int):=of_decide_eq_true (by first|(with_reducible assumption)|assumption)
                    have q125:x5_1<(l1.length:Int):=of_decide_eq_true (by first|(with_reducible assumption)|assumption)
                    obtain ⟨ad125,e125,hx125_0⟩:=Kd.at_int HR1.out x5_1 p125 q125
                    cases e125
                    replace p125:=eq_true p125
                    replace q125:=eq_true q125
                    have p126:0≤(x5_1:Int):=of_decide_eq_true (by first|(with_reducible assumption)|assumption)
                    have q126:x5_1<(l0.length:Int):=of_decide_eq_true (by first|(with_reducible assumption)|assumption)
                    obtain ⟨ad126,e126,hx126_0⟩:=Kd.at_int HR0.out x5_1 p126 q126
                    obtain rfl:ad124=ad126:=(by injection e126)
                    replace p126:=eq_true p126
                    replace q126:=eq_true q126
                    have p127:0≤(x5_1:Int):=of_decide_eq_true (by first|(with_reducible assumption)|assumption)
                    have q127:x5_1<(l1.length:Int):=of_decide_eq_true (by first|(with_reducible assumption)|assumption)
                    obtain ⟨ad127,e127,hx127_0⟩:=Kd.at_int HR1.out x5_1 p127 q127
                    obtain rfl:ad125=ad127:=(by injection e127)
                    replace p127:=eq_true p127
                    replace q127:=eq_true q127
                    go_wp2
                    repeat (go_quiet (fail);try go_wp2)
                    go_roundg k1
                    case measure=>have:=HK1.out;omega
                    case rel=>exact ⟨(wrap64 (x5_1-1)),(by first|rfl|(simp;done)|(simp [*];done)),H',⟨by have:=HK1.out;omega⟩,by repeat (first|exact Drawn0.refl _|apply Drawn0.step)⟩
              · rw [if_neg c7] at H
                exact absurd H (by simp)
            · rw [if_neg c6] at H
              exact absurd H (by simp)
          · rw [if_neg c5] at H
            exact absurd H (by simp)
        · rw [if_neg c4] at H
          have c4b0:decide (0≤x5_1)=false:=decide_eq_false c4
          clear c4
          obtain rfl:=Option.some.inj H
          go_wp2
          repeat (go_quiet (fail);try go_wp2)
          go_ret
          exact ⟨by first|rfl|(simp;done)|(simp [*];done),by repeat (first|exact Drawn0.refl _|apply Drawn0.step)⟩
  · rw [if_neg c3] at H
    have c3b0:((l0.length:Int) == (l1.length:Int))=false:=beq_eq_false_iff_ne.mpr c3
    have c3b1:((l0.length:Int) != (l1.length:Int))=true:=bne_iff_ne.mpr c3
    have c3b2:(l0.length == l1.length)=false:=by first|simpa using c3|(simp at c3 ⊢;omega)
    by_cases c10:(l0.length:Int)<(l1.length:Int)
    · rw [if_pos c10] at H
      have c10b0:decide ((l0.length:Int)<(l1.length:Int))=true:=decide_eq_true c10
      have c10b1:decide (l0.length<l1.length)=true:=decide_eq_true (Int.ofNat_lt.mp c10)
      clear c10
      obtain rfl:=Option.some.inj H
      go_enter Tryz.func96,Tryz.ntmps96
      go_wp2
      repeat (go_quiet (fail);try go_wp2)
      go_ret
      exact ⟨by first|rfl|(simp;done)|(simp [*];done),by repeat (first|exact Drawn0.refl _|apply Drawn0.step)⟩
    · rw [if_neg c10] at H
      have c10b0:decide ((l0.length:Int)<(l1.length:Int))=false:=decide_eq_false c10
      have c10b1:decide (l0.length<l1.length)=false:=decide_eq_false (fun h=>c10 (Int.ofNat_lt.mpr h))
      clear c10
      obtain rfl:=Option.some.inj H
      go_enter Tryz.func96,Tryz.ntmps96
      go_wp2
      repeat (go_quiet (fail);try go_wp2)
      go_ret
      exact ⟨by first|rfl|(simp;done)|(simp [*];done),by repeat (first|exact Drawn0.refl _|apply Drawn0.step)⟩
end Go.Proofs.YtmnkaldemjdcoaaGreat.QN90
end
section
namespace Go.Proofs.YtmnkaldemjdcoaaGreat.QN90
open RowKit YtmnkaldemjdcoaaGreatW.PrintWords YtmnkaldemjdcoaaGreatW.PrintLast YtmnkaldemjdcoaaGreatW.PrintMore
attribute [local go_sem] max2_int min2_int max_two min_two max_three min_three max_four min_four   -- for this text's walks alone
set_option linter.unusedVariables false
set_option linter.unusedSimpArgs false
def gimbalref90_Up2.l0:Nat→List Int→List Int→Int→Int→Int→Option (List Int)
  | 0,_,_,_,_,_=>none
  | k+1,x0,x5,x6,x7,x8=>if x8<(x0.length:Int) then (if 0≤x8 then (if 0≤x6 then (if x5.length<17592186044416 then ((some (x5++[Go.bits .or .u64 (shl .u64 (rd x0 x8) x6) x7]:List Int)).bind fun y132=>(if x6>0 then (if 0≤(IntKind.u64.wrap (64-x6)) then (gimbalref90_Up2.l0 k x0 y132 x6 (shr .u64 (rd x0 x8) (IntKind.u64.wrap (64-x6))) (wrap64 (x8+1))) else (none)) else (gimbalref90_Up2.l0 k x0 y132 x6 0 (wrap64 (x8+1))))) else (none)) else (none)) else (none)) else (if x5.length<17592186044416 then ((gimbalref90_NTrim.f k (x5++[x7])).bind fun t139=>(some t139)) else (none))
def gimbalref90_Up2.f (k:Nat) (l0:List Int) (a1:Int):Option (List Int):=if (l0.length:Int)=0 then (some ([]:List Int)) else (if 0≤(wrap64 (Int.tdiv a1 64)) then (if (wrap64 (Int.tdiv a1 64):Int).toNat≤35184372088832 then (gimbalref90_Up2.l0 k l0 (List.replicate (wrap64 (Int.tdiv a1 64):Int).toNat 0) (IntKind.u64.wrap (Int.tmod a1 64)) 0 0) else (none)) else (none))
theorem gimbalref90_Up2.mono_l:∀ k,(∀ y0 y1 y2 y3 y4,LeO (gimbalref90_Up2.l0 k y0 y1 y2 y3 y4) (gimbalref90_Up2.l0 (k+1) y0 y1 y2 y3 y4))
  | 0=>fun _ _ _ _ _ r h=>by simp [gimbalref90_Up2.l0] at h
  | k + 1 => by
    have ih0:=gimbalref90_Up2.mono_l k
    · intro y0 y1 y2 y3 y4
      unfold gimbalref90_Up2.l0
      repeat' first
      | (with_reducible exact ih0 _ _ _ _ _)
      | (with_reducible exact gimbalref90_NTrim.mono _ _)
      | (with_reducible exact LeO.refl _)
      | (with_reducible exact LeO.none _)
      | (with_reducible refine LeO.ite ?_ ?_)
      | (with_reducible refine LeO.bind ?_ (fun _=>?_))
      | exact ih0 _ _ _ _ _
      | exact gimbalref90_NTrim.mono _ _
      | exact LeO.none _
      | refine LeO.ite ?_ ?_
      | refine LeO.bind ?_ (fun _=>?_)
theorem gimbalref90_Up2.mono:∀ a0 a1 k,LeO (gimbalref90_Up2.f k a0 a1) (gimbalref90_Up2.f (k+1) a0 a1):=by
  intro a0 a1 k
  have ih0:=gimbalref90_Up2.mono_l k
  unfold gimbalref90_Up2.f
  repeat' first
      | (with_reducible exact ih0 _ _ _ _ _)
      | (with_reducible exact gimbalref90_NTrim.mono _ _)
      | (with_reducible exact LeO.refl _)
      | (with_reducible exact LeO.none _)
      | (with_reducible refine LeO.ite ?_ ?_)
      | (with_reducible refine LeO.bind ?_ (fun _=>?_))
      | exact ih0 _ _ _ _ _
      | exact gimbalref90_NTrim.mono _ _
      | exact LeO.none _
      | refine LeO.ite ?_ ?_
      | refine LeO.bind ?_ (fun _=>?_)
set_option maxHeartbeats 8000000 in
set_option maxRecDepth 100000 in
theorem gimbalref90_Up2.calls (k:Nat) (A0:Option Addr) (c0:Nat) (l0:List Int) (a1:Int) (r:List Int) (w:World) (hr0:Kd.C (Kd.int .u64) w A0 l0.length l0) (hc0:l0.length≤c0) (h:gimbalref90_Up2.f k l0 a1=some r) :
    Calls Tryz.prog 64 #[.slice A0 l0.length c0,.int .i64 a1] w fun e w'=>∃ v0_:Value,e = .returned (v0_)∧Kd.R (Kd.int .u64) 94 w' w.heap.size (fun _=>True) v0_ r∧Below w.heap.size w w':=by
  have HR0:=Aside0.mk hr0
  have HC0:=Aside0.mk hc0
  clear hr0 hc0
  have HB:=Aside0.mk (Below.refl w.heap.size w)
  have H:(if (l0.length:Int)=0 then (some ([]:List Int)) else (if 0≤(wrap64 (Int.tdiv a1 64)) then (if (wrap64 (Int.tdiv a1 64):Int).toNat≤35184372088832 then (gimbalref90_Up2.l0 k l0 (List.replicate (wrap64 (Int.tdiv a1 64):Int).toNat 0) (IntKind.u64.wrap (Int.tmod a1 64)) 0 0) else (none)) else (none)))=some r:=h
  clear h
  by_cases c3:(l0.length:Int)=0
  · rw [if_pos c3] at H
    have c3b0:((l0.length:Int) == 0)=true:=beq_iff_eq.mpr c3
    have c3b1:((l0.length:Int) != 0)=false:=bne_eq_false_iff_eq.mpr c3
    clear c3
    obtain rfl:=Option.some.inj H
    go_enter Tryz.func64,Tryz.ntmps64
    go_wp2
    go_ret
    exact ⟨_,by first|rfl|(simp [errW_none,errW_some]<;>rfl)|(simp [*,errW_none,errW_some]<;>rfl),by first|exact Kd.R_nil _ _ _ _ _|exact Kd.N_nil _ _ _ _ _|exact Kd.V_nil _ _ _ _ _|exact Kd.Q_nil _ _ _ _ _|exact Kd.S_nil _ _ _ _ _,by repeat (first|(with_reducible first|exact HB.out|apply below_alloc|apply pw_below_drewN|apply below_drew1)|exact HB.out)⟩
  · rw [if_neg c3] at H
    have c3b0:((l0.length:Int) == 0)=false:=beq_eq_false_iff_ne.mpr c3
    have c3b1:((l0.length:Int) != 0)=true:=bne_iff_ne.mpr c3
    have c3b2:¬ (l0=[]):=fun h_=>c3 (by rw [h_];rfl)
    obtain ⟨ji4,hji4⟩:∃ j_:Int,(wrap64 (Int.tdiv a1 64))=j_:=⟨_,rfl⟩
    replace H:(if 0≤(ji4) then (if (ji4:Int).toNat≤35184372088832 then (gimbalref90_Up2.l0 k l0 (List.replicate (ji4:Int).toNat 0) (IntKind.u64.wrap (Int.tmod a1 64)) 0 0) else (none)) else (none))=some r:=by first|(rw [hji4] at H;exact H)|(simp only [hji4] at H ⊢;exact H)
    have hji4w:(IntKind.i64.wrap (Int.tdiv a1 64))=ji4:=(i64_w _).trans hji4
    by_cases c5:0≤(ji4)
    · rw [if_pos c5] at H
      have c5b0:=eq_true c5
      have c5b1:decide (0≤(ji4))=true:=decide_eq_true c5
      clear c5
      by_cases c6:(ji4:Int).toNat≤35184372088832
      · rw [if_pos c6] at H
        have c6b0:=eq_true c6
        have c6b1:decide ((ji4:Int).toNat≤35184372088832)=true:=decide_eq_true c6
        clear c6
        obtain ⟨y128,hy128⟩:∃ y_:List Int,y_=(List.replicate (ji4:Int).toNat 0):=⟨_,rfl⟩
        replace H:(gimbalref90_Up2.l0 k l0 y128 (IntKind.u64.wrap (Int.tmod a1 64)) 0 0)=some r:=by first|(rw [hy128];with_reducible exact H)|(have H2_:=(Option.bind_some _ _).symm.trans H;rw [hy128];with_reducible exact H2_)|(have H2_:=(Option.bind_some _ _).symm.trans H;with_reducible exact H2_)|with_reducible exact H|(rw [hy128];exact H)|exact H
        have Ny128:=Aside0.mk hy128
        clear hy128
        have H':=Aside0.mk H
        clear H
        go_enter Tryz.func64,Tryz.ntmps64
        go_wp2_with (first|((with_reducible refine gate_dst (N:=14) rfl ?_);refine Kd.R_make (Kd.int .u64) _ 94 rfl (N:=14) rfl 55 _ _ rfl ji4 rfl rfl Tryz.underlying55 (.int .u64 0) 8 info94 rfl (by decide) (by omega) 0 (ok:=fun _=>True) (okp:=fun _=>True) rfl (fun _ hk=>hk) trivial (of_decide_eq_true (by first|(with_reducible assumption)|assumption)) (Nat.le_trans (Nat.mul_le_mul_right _ (of_decide_eq_true (by first|(with_reducible assumption)|assumption):ji4.toNat≤35184372088832)) (by omega)) (Below.refl _ _) (Nat.le_refl _) ?_;intro v129 w7 ho8 hb hg_ hnew_;clear hg_ hnew_;(first|rw [← Ny128.out] at ho8|(simp only [Int.reduceToNat] at ho8;rw [← Ny128.out] at ho8));have n0_:=Aside0.mk (Kd.R_lower ho8 (below_size (by repeat (first|(with_reducible first|exact HB.out|apply below_alloc|apply pw_below_drewN|apply below_drew1)|exact HB.out))));have n1_:=Aside0.mk (below_step (by repeat (first|(with_reducible first|exact HB.out|apply below_alloc|apply pw_below_drewN|apply below_drew1)|exact HB.out)) hb);clear HB;have HO130:=n0_;have HB:=n1_;clear n0_ n1_;clear hb ho8))
        go_loopg [5,7,8] k (fun kq v5 v7 v8 w'=>∃ (x5_1:List Int) (x7_1:Int) (x8_1:Int),v7 = .int .u64 x7_1∧v8 = .int .i64 x8_1∧Aside0 (gimbalref90_Up2.l0 kq l0 x5_1 (IntKind.u64.wrap (Int.tmod a1 64)) x7_1 x8_1=some r)∧Aside0 (kq≤k)∧Aside0 (Kd.R (Kd.int .u64) 94 w' w.heap.size (fun _=>True) v5 x5_1)∧Aside0 (Below w.heap.size w w'))
        case atStart=>exact ⟨(y128),(0),(0),(by first|rfl|(simp;done)|(simp [*];done)),(by first|rfl|(simp;done)|(simp [*];done)),H',⟨Nat.le_refl _⟩,⟨by (with_reducible repeat (first|apply Kd.R_alloc|apply Kd.R_drewN|apply Kd.R_drew));exact HO130.out⟩,⟨by repeat (first|(with_reducible first|exact HB.out|apply below_alloc|apply pw_below_drewN|apply below_drew1)|exact HB.out)⟩⟩
        case round =>
          clear H'
          try clear p2
          try clear c3
          try clear c3b0
          try clear c3b1
          try clear c3b2
          try clear c5
          try clear c5b0
          try clear c5b1
          try clear c6
          try clear c6b0
          try clear c6b1
          try clear p6
          obtain ⟨x5_1,x7_1,x8_1,rfl,rfl,HA,HK1,HO_5,HB⟩:=hrel
          cases gk with
          | zero=>exact absurd HA.out (by simp [gimbalref90_Up2.l0])
          | succ k1 =>
            have H:=HA.out
            clear HA
            simp only [gimbalref90_Up2.l0] at H
            by_cases c9:x8_1<(l0.length:Int)
            · rw [if_pos c9] at H
              have c9b0:decide (x8_1<(l0.length:Int))=true:=decide_eq_true c9
              clear c9
              by_cases c10:0≤x8_1
              · rw [if_pos c10] at H
                have c10b0:decide (0≤x8_1)=true:=decide_eq_true c10
                clear c10
                obtain ⟨ji11,hji11⟩:∃ j_:Int,(IntKind.u64.wrap (Int.tmod a1 64))=j_:=⟨_,rfl⟩
                replace H:(if 0≤(ji11) then (if x5_1.length<17592186044416 then ((some (x5_1++[Go.bits .or .u64 (shl .u64 (rd l0 x8_1) (ji11)) x7_1]:List Int)).bind fun y132=>(if (ji11)>0 then (if 0≤(IntKind.u64.wrap (64-(ji11))) then (gimbalref90_Up2.l0 k1 l0 y132 (ji11) (shr .u64 (rd l0 x8_1) (IntKind.u64.wrap (64-(ji11)))) (wrap64 (x8_1+1))) else (none)) else (gimbalref90_Up2.l0 k1 l0 y132 (ji11) 0 (wrap64 (x8_1+1))))) else (none)) else (none))=some r:=by first|(rw [hji11] at H;exact H)|(simp only [hji11] at H ⊢;exact H)
                by_cases c12:0≤(ji11)
                · rw [if_pos c12] at H
                  have c12b0:=eq_true c12
                  have c12b1:decide (0≤(ji11))=true:=decide_eq_true c12
                  clear c12
                  obtain ⟨ji13,hji13⟩:∃ j_:Int,(shl .u64 (rd l0 x8_1) (ji11))=j_:=⟨_,rfl⟩
                  replace H:(if x5_1.length<17592186044416 then ((some (x5_1++[Go.bits .or .u64 (ji13) x7_1]:List Int)).bind fun y132=>(if (ji11)>0 then (if 0≤(IntKind.u64.wrap (64-(ji11))) then (gimbalref90_Up2.l0 k1 l0 y132 (ji11) (shr .u64 (rd l0 x8_1) (IntKind.u64.wrap (64-(ji11)))) (wrap64 (x8_1+1))) else (none)) else (gimbalref90_Up2.l0 k1 l0 y132 (ji11) 0 (wrap64 (x8_1+1))))) else (none))=some r:=by first|(rw [hji13] at H;exact H)|(simp only [hji13] at H ⊢;exact H)
                  have hji13_:(IntKind.u64.wrap ((rd l0 x8_1)*2 ^ min (ji11).toNat 64))=ji13:=hji13
                  have hji13z:(ji11)≤64→(IntKind.u64.wrap ((rd l0 x8_1)*2 ^ (ji11).toNat))=ji13:=shl_small hji13
                  by_cases c14:x5_1.length<17592186044416
                  · rw [if_pos c14] at H
                    have LMc14:=Aside0.mk c14
                    clear c14
                    obtain ⟨y132,hy132⟩:∃ y_:List Int,y_=(x5_1++[Go.bits .or .u64 (ji13) x7_1]):=⟨_,rfl⟩
                    replace H:(if (ji11)>0 then (if 0≤(IntKind.u64.wrap (64-(ji11))) then (gimbalref90_Up2.l0 k1 l0 y132 (ji11) (shr .u64 (rd l0 x8_1) (IntKind.u64.wrap (64-(ji11)))) (wrap64 (x8_1+1))) else (none)) else (gimbalref90_Up2.l0 k1 l0 y132 (ji11) 0 (wrap64 (x8_1+1))))=some r:=by first|(rw [hy132];with_reducible exact H)|(have H2_:=(Option.bind_some _ _).symm.trans H;rw [hy132];with_reducible exact H2_)|(have H2_:=(Option.bind_some _ _).symm.trans H;with_reducible exact H2_)|with_reducible exact H|(rw [hy132];exact H)|exact H
                    have Ny132:=Aside0.mk hy132
                    clear hy132
                    by_cases c15:(ji11)>0
                    · rw [if_pos c15] at H
                      have c15b0:decide (0<(ji11))=true:=decide_eq_true c15
                      clear c15
                      obtain ⟨ji16,hji16⟩:∃ j_:Int,(IntKind.u64.wrap (64-(ji11)))=j_:=⟨_,rfl⟩
                      replace H:(if 0≤(ji16) then (gimbalref90_Up2.l0 k1 l0 y132 (ji11) (shr .u64 (rd l0 x8_1) (ji16)) (wrap64 (x8_1+1))) else (none))=some r:=by first|(rw [hji16] at H;exact H)|(simp only [hji16] at H ⊢;exact H)
                      by_cases c17:0≤(ji16)
                      · rw [if_pos c17] at H
                        have c17b0:=eq_true c17
                        have c17b1:decide (0≤(ji16))=true:=decide_eq_true c17
                        clear c17
                        obtain ⟨ji18,hji18⟩:∃ j_:Int,(shr .u64 (rd l0 x8_1) (ji16))=j_:=⟨_,rfl⟩
                        replace H:(gimbalref90_Up2.l0 k1 l0 y132 (ji11) ji18 (wrap64 (x8_1+1)))=some r:=by first|(rw [hji18] at H;exact H)|(simp only [hji18] at H ⊢;exact H)
                        have hji18_:((rd l0 x8_1)/2 ^ min (ji16).toNat 64)=ji18:=hji18
                        have hji18z:(ji16)≤64→((rd l0 x8_1)/2 ^ (ji16).toNat)=ji18:=shr_small hji18
                        have H':=Aside0.mk H
                        clear H
                        have p131:0≤(x8_1:Int):=of_decide_eq_true (by first|(with_reducible assumption)|assumption)
                        have q131:x8_1<(l0.length:Int):=of_decide_eq_true (by first|(with_reducible assumption)|assumption)
                        obtain ⟨ad131,e131,hx131_0⟩:=Kd.at_int HR0.out x8_1 p131 q131
                        cases e131
                        replace hx131_0:=(HB.out.cell (World.block_lt_of_cell? w _ hx131_0)).trans hx131_0
                        replace p131:=eq_true p131
                        replace q131:=eq_true q131
                        go_wp2_with (first|((with_reducible refine gate_builtin (b := .append) (xs:=#[.tmp 24,.tmp 33]) rfl ?_);at_builtin;refine Kd.R_append (Kd.int .u64) (w0:=w) w.heap.size rfl (.tmp 24) (.tmp 33) 55 94 (.int .u64 0) 8 rfl Tryz.underlying55 info94 rfl (by decide) (by omega) u5 x5_1 (Go.bits .or .u64 (ji13) x7_1) [.int .u64 (Go.bits .or .u64 (ji13) x7_1)] (fun _=>True) (fun _=>False) rfl rfl ?aP (fun _ hk=>hk.elim) ?aF ?aO ?aB ?aS ?aL ?_;(case aP=>exact rfl);(case aB=>exact (by repeat (first|(with_reducible first|exact HB.out|apply below_alloc|apply pw_below_drewN|apply below_drew1)|exact HB.out)));(case aF=>exact (fun _ _=>trivial));(case aO=>exact (by (with_reducible repeat (first|apply Kd.R_alloc|apply Kd.R_drewN|apply Kd.R_drew));exact HO_5.out));(case aS=>exact (below_size (by repeat (first|(with_reducible first|exact HB.out|apply below_alloc|apply pw_below_drewN|apply below_drew1)|exact HB.out))));(case aL=>have:=LMc14.out;omega);intro v133 w19 ho hb hg hat;rw [← Ny132.out] at ho;have n0_:=Aside0.mk (hb);have n1_:=Aside0.mk (ho);clear HB;clear HO_5;have HB:=n0_;have HO134:=n1_;clear n0_ n1_;clear ho hb hg hat;have p135:0≤(x8_1:Int):=of_decide_eq_true (by first|(with_reducible assumption)|assumption);have q135:x8_1<(l0.length:Int):=of_decide_eq_true (by first|(with_reducible assumption)|assumption);obtain ⟨ad135,e135,hx135_0⟩:=Kd.at_int HR0.out x8_1 p135 q135;obtain rfl:ad131=ad135:=(by injection e135);replace hx135_0:=(HB.out.cell (World.block_lt_of_cell? w _ hx135_0)).trans hx135_0;replace p135:=eq_true p135;replace q135:=eq_true q135))
                        try subst hji4
                        try subst hji11
                        try subst hji13
                        try subst hji16
                        go_roundg k1
                        case measure=>have:=HK1.out;omega
                        case rel=>exact ⟨(y132),(ji18),(wrap64 (x8_1+1)),(by first|rfl|(simp;done)|(simp only [← hji18]<;>(first|rfl|simp))|(simp [*];done)),(by first|rfl|(simp;done)|(simp [*];done)),H',⟨by have:=HK1.out;omega⟩,⟨by (with_reducible repeat (first|apply Kd.R_alloc|apply Kd.R_drewN|apply Kd.R_drew));exact HO134.out⟩,⟨by repeat (first|(with_reducible first|exact HB.out|apply below_alloc|apply pw_below_drewN|apply below_drew1)|exact HB.out)⟩⟩
                      · rw [if_neg c17] at H
                        exact absurd H (by simp)
                    · rw [if_neg c15] at H
                      have c15b0:decide (0<(ji11))=false:=decide_eq_false c15
                      clear c15
                      have H':=Aside0.mk H
                      clear H
                      have p131:0≤(x8_1:Int):=of_decide_eq_true (by first|(with_reducible assumption)|assumption)
                      have q131:x8_1<(l0.length:Int):=of_decide_eq_true (by first|(with_reducible assumption)|assumption)
                      obtain ⟨ad131,e131,hx131_0⟩:=Kd.at_int HR0.out x8_1 p131 q131
                      cases e131
                      replace hx131_0:=(HB.out.cell (World.block_lt_of_cell? w _ hx131_0)).trans hx131_0
                      replace p131:=eq_true p131
                      replace q131:=eq_true q131
                      go_wp2_with (first|((with_reducible refine gate_builtin (b := .append) (xs:=#[.tmp 24,.tmp 33]) rfl ?_);at_builtin;refine Kd.R_append (Kd.int .u64) (w0:=w) w.heap.size rfl (.tmp 24) (.tmp 33) 55 94 (.int .u64 0) 8 rfl Tryz.underlying55 info94 rfl (by decide) (by omega) u5 x5_1 (Go.bits .or .u64 (ji13) x7_1) [.int .u64 (Go.bits .or .u64 (ji13) x7_1)] (fun _=>True) (fun _=>False) rfl rfl ?aP (fun _ hk=>hk.elim) ?aF ?aO ?aB ?aS ?aL ?_;(case aP=>exact rfl);(case aB=>exact (by repeat (first|(with_reducible first|exact HB.out|apply below_alloc|apply pw_below_drewN|apply below_drew1)|exact HB.out)));(case aF=>exact (fun _ _=>trivial));(case aO=>exact (by (with_reducible repeat (first|apply Kd.R_alloc|apply Kd.R_drewN|apply Kd.R_drew));exact HO_5.out));(case aS=>exact (below_size (by repeat (first|(with_reducible first|exact HB.out|apply below_alloc|apply pw_below_drewN|apply below_drew1)|exact HB.out))));(case aL=>have:=LMc14.out;omega);intro v133 w20 ho hb hg hat;rw [← Ny132.out] at ho;have n0_:=Aside0.mk (hb);have n1_:=Aside0.mk (ho);clear HB;clear HO_5;have HB:=n0_;have HO134:=n1_;clear n0_ n1_;clear ho hb hg hat))
                      try subst hji4
                      try subst hji11
                      try subst hji13
                      try subst hji16
                      go_roundg k1
                      case measure=>have:=HK1.out;omega
                      case rel=>exact ⟨(y132),(0),(wrap64 (x8_1+1)),(by first|rfl|(simp;done)|(simp [*];done)),(by first|rfl|(simp;done)|(simp [*];done)),H',⟨by have:=HK1.out;omega⟩,⟨by (with_reducible repeat (first|apply Kd.R_alloc|apply Kd.R_drewN|apply Kd.R_drew));exact HO134.out⟩,⟨by repeat (first|(with_reducible first|exact HB.out|apply below_alloc|apply pw_below_drewN|apply below_drew1)|exact HB.out)⟩⟩
                  · rw [if_neg c14] at H
                    exact absurd H (by simp)
                · rw [if_neg c12] at H
                  exact absurd H (by simp)
              · rw [if_neg c10] at H
                exact absurd H (by simp)
            · rw [if_neg c9] at H
              have c9b0:decide (x8_1<(l0.length:Int))=false:=decide_eq_false c9
              clear c9
              by_cases c21:x5_1.length<17592186044416
              · rw [if_pos c21] at H
                have LMc21:=Aside0.mk c21
                clear c21
                obtain ⟨y136,hy136⟩:∃ y_:List Int,y_=(x5_1++[x7_1]):=⟨_,rfl⟩
                replace H:((gimbalref90_NTrim.f k1 y136).bind fun t139=>(some t139))=some r:=by first|(rw [hy136];with_reducible exact H)|(have H2_:=(Option.bind_some _ _).symm.trans H;rw [hy136];with_reducible exact H2_)|(have H2_:=(Option.bind_some _ _).symm.trans H;with_reducible exact H2_)|with_reducible exact H|(rw [hy136];exact H)|exact H
                have Ny136:=Aside0.mk hy136
                clear hy136
                replace H:=Option.bind_eq_some_iff.mp H
                obtain ⟨t139,A220,H⟩:=H
                replace H:(some t139)=some r:=H
                have A22:=Aside0.mk A220
                clear A220
                obtain rfl:=Option.some.inj H
                go_wp2_with (first|((with_reducible refine gate_builtin (b := .append) (xs:=#[.tmp 44,.tmp 46]) rfl ?_);at_builtin;refine Kd.R_append (Kd.int .u64) (w0:=w) w.heap.size rfl (.tmp 44) (.tmp 46) 55 94 (.int .u64 0) 8 rfl Tryz.underlying55 info94 rfl (by decide) (by omega) u5 x5_1 x7_1 [.int .u64 x7_1] (fun _=>True) (fun _=>False) rfl rfl ?aP (fun _ hk=>hk.elim) ?aF ?aO ?aB ?aS ?aL ?_;(case aP=>exact rfl);(case aB=>exact (by repeat (first|(with_reducible first|exact HB.out|apply below_alloc|apply pw_below_drewN|apply below_drew1)|exact HB.out)));(case aF=>exact (fun _ _=>trivial));(case aO=>exact (by (with_reducible repeat (first|apply Kd.R_alloc|apply Kd.R_drewN|apply Kd.R_drew));exact HO_5.out));(case aS=>exact (below_size (by repeat (first|(with_reducible first|exact HB.out|apply below_alloc|apply pw_below_drewN|apply below_drew1)|exact HB.out))));(case aL=>have:=LMc21.out;omega);intro v137 w23 ho hb hg hat;rw [← Ny136.out] at ho;have n0_:=Aside0.mk (hb);have n1_:=Aside0.mk (ho);clear HB;clear HO_5;have HB:=n0_;have HO138:=n1_;clear n0_ n1_;clear ho hb hg hat;obtain ⟨Ao24,co24,eo24⟩:=Kd.R_slice HO138.out;subst eo24)|((with_reducible refine gate_callee (f:=94) rfl ?_);refine goesL_ (some 48) rfl rfl Tryz.func94 (by kernel_rfl) rfl #[.slice Ao24 y136.length co24] rfl (by (try simp only [List.map_toArray,List.map_cons,List.map_nil]);first|done|rfl|(simp only [List.length_drop,List.length_take];rfl)) ?_;(with_reducible refine (gimbalref90_NTrim.calls k1 (fun k_=>some k_=(.slice Ao24 y136.length co24:Value).ownBlock) (.slice Ao24 y136.length co24) y136 t139 w _ ?side1 ?side2 A22.out).mono ?_);(case side1=>repeat (first|(with_reducible first|exact HB.out|apply below_alloc|apply pw_below_drewN|apply below_drew1)|exact HB.out));(case side2=>exact Kd.R_tight rfl HO138.out);rintro e w25 ⟨v140,rfl,ho0,hb,hkp⟩;refine ⟨_,rfl,?_⟩;have n0_:=Aside0.mk (Kd.R_mono (ok':=fun k_=>True) ho0 (fun k_ hk_=>trivial));have n1_:=Aside0.mk (hb);clear HB;clear HO138;have HO141:=n0_;have HB:=n1_;clear n0_ n1_;(try clear hb);(try clear hkp);(try clear ho0)))
                go_ret
                exact ⟨_,by first|rfl|(simp [errW_none,errW_some]<;>rfl)|(simp only [← hji4];first|rfl|(simp [errW_none,errW_some]<;>rfl))|(simp [*,errW_none,errW_some]<;>rfl),by (with_reducible repeat (first|apply Kd.R_alloc|apply Kd.R_drewN|apply Kd.R_drew));exact HO141.out,by repeat (first|(with_reducible first|exact HB.out|apply below_alloc|apply pw_below_drewN|apply below_drew1)|exact HB.out)⟩
              · rw [if_neg c21] at H
                exact absurd H (by simp)
      · rw [if_neg c6] at H
        exact absurd H (by simp)
    · rw [if_neg c5] at H
      exact absurd H (by simp)
def gimbalref90_NOf.f (k:Nat) (a0:Int):Option (List Int):=(gimbalref90_NTrim.f k (([a0]:List Int))).bind fun t145=>(some t145)
theorem gimbalref90_NOf.mono:∀ a0 k,LeO (gimbalref90_NOf.f k a0) (gimbalref90_NOf.f (k+1) a0):=by
  intro a0 k
  unfold gimbalref90_NOf.f
  repeat' first
      | (with_reducible exact gimbalref90_NTrim.mono _ _)
      | (with_reducible exact LeO.refl _)
      | (with_reducible exact LeO.none _)
      | (with_reducible refine LeO.ite ?_ ?_)
      | (with_reducible refine LeO.bind ?_ (fun _=>?_))
      | exact gimbalref90_NTrim.mono _ _
      | exact LeO.none _
      | refine LeO.ite ?_ ?_
      | refine LeO.bind ?_ (fun _=>?_)
set_option maxHeartbeats 8000000 in
set_option maxRecDepth 100000 in
theorem gimbalref90_NOf.calls (k:Nat) (a0:Int) (r:List Int) (w:World) (h:gimbalref90_NOf.f k a0=some r) :
    Calls Tryz.prog 65 #[.int .u64 a0] w fun e w'=>∃ v0_:Value,e = .returned (v0_)∧Kd.R (Kd.int .u64) 94 w' w.heap.size (fun _=>True) v0_ r∧Below w.heap.size w w':=by
  have HB:=Aside0.mk (Below.refl w.heap.size w)
  have H:((gimbalref90_NTrim.f k (([a0]:List Int))).bind fun t145=>(some t145))=some r:=h
  clear h
  obtain ⟨y142,hy142⟩:∃ y_:List Int,y_=(([a0]:List Int)):=⟨_,rfl⟩
  replace H:((gimbalref90_NTrim.f k y142).bind fun t145=>(some t145))=some r:=by first|(rw [hy142];with_reducible exact H)|(have H2_:=(Option.bind_some _ _).symm.trans H;rw [hy142];with_reducible exact H2_)|(have H2_:=(Option.bind_some _ _).symm.trans H;with_reducible exact H2_)|with_reducible exact H|(rw [hy142];exact H)|exact H
  have Ny142:=Aside0.mk hy142
  clear hy142
  replace H:=Option.bind_eq_some_iff.mp H
  obtain ⟨t145,A20,H⟩:=H
  replace H:(some t145)=some r:=H
  have A2:=Aside0.mk A20
  clear A20
  obtain rfl:=Option.some.inj H
  go_enter Tryz.func65,Tryz.ntmps65
  go_wp2_with (first|((with_reducible refine gate_dst (N:=4) rfl ?_);refine Kd.R_lit (Kd.int .u64) _ 94 ?hg (N:=4) ?hd (xs:=([a0]:List Int)) (inner:=[.int .u64 a0]) (ok:=fun _=>True) (okp:=fun _=>True) ?hr ?hp (fun _ hk=>hk) trivial (Below.refl _ _) (Nat.le_refl _) (by simp) ?_;(case hd=>rfl);(case hg=>rfl);(case hr=>first|(go_simp;done)|(go_simp;rfl));(case hp=>exact (Reps.one (show Kd.M (Kd.int .u64) _ _ _ a0 [.int .u64 a0] from rfl) (Reps.none _ _)));intro v143 w3 ho4 hb hg_ hnew_;clear hg_ hnew_;(first|rw [← Ny142.out] at ho4|(simp only [Int.reduceToNat] at ho4;rw [← Ny142.out] at ho4));have n0_:=Aside0.mk (Kd.R_lower ho4 (below_size (by repeat (first|(with_reducible first|exact HB.out|apply below_alloc|apply pw_below_drewN|apply below_drew1)|exact HB.out))));have n1_:=Aside0.mk (below_step (by repeat (first|(with_reducible first|exact HB.out|apply below_alloc|apply pw_below_drewN|apply below_drew1)|exact HB.out)) hb);clear HB;have HO144:=n0_;have HB:=n1_;clear n0_ n1_;clear hb ho4;obtain ⟨Ao5,co5,eo5⟩:=Kd.R_slice HO144.out;subst eo5)|((with_reducible refine gate_callee (f:=94) rfl ?_);refine goesL_ (some 5) rfl rfl Tryz.func94 (by kernel_rfl) rfl #[.slice Ao5 y142.length co5] rfl (by (try simp only [List.map_toArray,List.map_cons,List.map_nil]);first|done|rfl|(simp only [List.length_drop,List.length_take];rfl)) ?_;(with_reducible refine (gimbalref90_NTrim.calls k (fun k_=>some k_=(.slice Ao5 y142.length co5:Value).ownBlock) (.slice Ao5 y142.length co5) y142 t145 w _ ?side1 ?side2 A2.out).mono ?_);(case side1=>repeat (first|(with_reducible first|exact HB.out|apply below_alloc|apply pw_below_drewN|apply below_drew1)|exact HB.out));(case side2=>exact Kd.R_tight rfl HO144.out);rintro e w6 ⟨v146,rfl,ho0,hb,hkp⟩;refine ⟨_,rfl,?_⟩;have n0_:=Aside0.mk (Kd.R_mono (ok':=fun k_=>True) ho0 (fun k_ hk_=>trivial));have n1_:=Aside0.mk (hb);clear HB;clear HO144;have HO147:=n0_;have HB:=n1_;clear n0_ n1_;(try clear hb);(try clear hkp);(try clear ho0)))
  go_ret
  exact ⟨_,by first|rfl|(simp [errW_none,errW_some]<;>rfl)|(simp [*,errW_none,errW_some]<;>rfl),by (with_reducible repeat (first|apply Kd.R_alloc|apply Kd.R_drewN|apply Kd.R_drew));exact HO147.out,by repeat (first|(with_reducible first|exact HB.out|apply below_alloc|apply pw_below_drewN|apply below_drew1)|exact HB.out)⟩
def gimbalref90_cut.l0:Nat→List Int→Int→Option (List Int)
  | 0,_,_=>none
  | k+1,x0,x3=>if x3>0 then (if 0≤(wrap64 (x3-1)) then (if (wrap64 (x3-1))<(x0.length:Int) then (if (rd x0 (wrap64 (x3-1)))=0 then (gimbalref90_cut.l0 k x0 (wrap64 (x3-1))) else (if 0≤x3 then (if x3≤(x0.length:Int) then (some (x0.take (x3:Int).toNat)) else (none)) else (none))) else (none)) else (none)) else (if 0≤x3 then (if x3≤(x0.length:Int) then (some (x0.take (x3:Int).toNat)) else (none)) else (none))
def gimbalref90_cut.f (k:Nat) (l0:List Int):Option (List Int):=gimbalref90_cut.l0 k l0 (l0.length:Int)
theorem gimbalref90_cut.mono_l:∀ k,(∀ y0 y1,LeO (gimbalref90_cut.l0 k y0 y1) (gimbalref90_cut.l0 (k+1) y0 y1))
  | 0=>fun _ _ r h=>by simp [gimbalref90_cut.l0] at h
  | k + 1 => by
    have ih0:=gimbalref90_cut.mono_l k
    · intro y0 y1
      unfold gimbalref90_cut.l0
      repeat' first
      | (with_reducible exact ih0 _ _)
      | (with_reducible exact LeO.refl _)
      | (with_reducible exact LeO.none _)
      | (with_reducible refine LeO.ite ?_ ?_)
      | (with_reducible refine LeO.bind ?_ (fun _=>?_))
      | exact ih0 _ _
      | exact LeO.none _
      | refine LeO.ite ?_ ?_
      | refine LeO.bind ?_ (fun _=>?_)
theorem gimbalref90_cut.mono:∀ a0 k,LeO (gimbalref90_cut.f k a0) (gimbalref90_cut.f (k+1) a0):=by
  intro a0 k
  have ih0:=gimbalref90_cut.mono_l k
  unfold gimbalref90_cut.f
  repeat' first
      | (with_reducible exact ih0 _ _)
      | (with_reducible exact LeO.refl _)
      | (with_reducible exact LeO.none _)
      | (with_reducible refine LeO.ite ?_ ?_)
      | (with_reducible refine LeO.bind ?_ (fun _=>?_))
      | exact ih0 _ _
      | exact LeO.none _
      | refine LeO.ite ?_ ?_
      | refine LeO.bind ?_ (fun _=>?_)
set_option maxHeartbeats 8000000 in
set_option maxRecDepth 100000 in
theorem gimbalref90_cut.calls (k:Nat) (P0_:Nat→Prop) (u9000_:Value) (l0:List Int) (r:List Int) (w0 w:World) (hB:Below w0.heap.size w0 w) (ho0:Kd.R (Kd.int .u32) 130 w w0.heap.size P0_ u9000_ l0) (h:gimbalref90_cut.f k l0=some r) :
    Calls Tryz.prog 120 #[u9000_] w fun e w'=>∃ v0_:Value,e = .returned (v0_)∧Kd.R (Kd.int .u32) 130 w' w0.heap.size (fun k_=>(P0_ k_∨w.heap.size≤k_)) v0_ r∧Below w0.heap.size w0 w'∧Kept w w' (fun k_=>P0_ k_):=by
  have HO0:=Aside0.mk (show Kd.R (Kd.int .u32) 130 w w0.heap.size (fun k_=>(P0_ k_∨w.heap.size≤k_)) u9000_ l0 from Kd.R_mono ho0 (fun k_ hk=>(.inl hk)))
  have HK:=Aside0.mk (Kept.refl w (fun k_=>P0_ k_))
  have HW0:=Aside0.mk hB.size
  have HB:=Aside0.mk hB
  clear hB
  have H:(gimbalref90_cut.l0 k l0 (l0.length:Int))=some r:=h
  clear h
  have H':=Aside0.mk H
  clear H
  obtain ⟨Ao2,co2,eo2⟩:=Kd.R_slice HO0.out
  subst eo2
  go_enter Tryz.func120,Tryz.ntmps120
  go_wp2
  go_loopg [3] k (fun kq v3 w'=>∃ (x3_1:Int),v3 = .int .i64 x3_1∧Aside0 (gimbalref90_cut.l0 kq l0 x3_1=some r)∧Aside0 (kq≤k)∧Aside0 (Kd.R (Kd.int .u32) 130 w' w0.heap.size (fun k_=>(P0_ k_∨w.heap.size≤k_)) (.slice Ao2 l0.length co2) l0)∧Aside0 (Kept w w' (fun k_=>P0_ k_))∧Aside0 (Below w0.heap.size w0 w'))
  case atStart=>exact ⟨((l0.length:Int)),(by first|rfl|(simp;done)|(simp [*];done)),H',⟨Nat.le_refl _⟩,⟨by (with_reducible repeat (first|apply Kd.R_alloc|apply Kd.R_drewN|apply Kd.R_drew));exact HO0.out⟩,⟨by repeat (first|(with_reducible first|exact HK.out|apply Kept.alloc|apply Kept.drewN|apply Kept.drew)|exact HK.out)⟩,⟨by repeat (first|(with_reducible first|exact HB.out|apply below_alloc|apply pw_below_drewN|apply below_drew1)|exact HB.out)⟩⟩
  case round =>
    clear H'
    try clear c1
    try clear p2
    obtain ⟨x3_1,rfl,HA,HK1,HO_0,HK,HB⟩:=hrel
    cases gk with
    | zero=>exact absurd HA.out (by simp [gimbalref90_cut.l0])
    | succ k1 =>
      have H:=HA.out
      clear HA
      simp only [gimbalref90_cut.l0] at H
      by_cases c3:x3_1>0
      · rw [if_pos c3] at H
        have c3b0:decide (0<x3_1)=true:=decide_eq_true c3
        clear c3
        obtain ⟨ji4,hji4⟩:∃ j_:Int,(wrap64 (x3_1-1))=j_:=⟨_,rfl⟩
        replace H:(if 0≤(ji4) then (if (ji4)<(l0.length:Int) then (if (rd l0 (ji4))=0 then (gimbalref90_cut.l0 k1 l0 ji4) else (if 0≤x3_1 then (if x3_1≤(l0.length:Int) then (some (l0.take (x3_1:Int).toNat)) else (none)) else (none))) else (none)) else (none))=some r:=by first|(rw [hji4] at H;exact H)|(simp only [hji4] at H ⊢;exact H)
        have hji4w:(IntKind.i64.wrap (x3_1-1))=ji4:=(i64_w _).trans hji4
        by_cases c5:0≤(ji4)
        · rw [if_pos c5] at H
          have c5b0:decide (0≤(ji4))=true:=decide_eq_true c5
          clear c5
          by_cases c6:(ji4)<(l0.length:Int)
          · rw [if_pos c6] at H
            have c6b0:decide ((ji4)<(l0.length:Int))=true:=decide_eq_true c6
            clear c6
            by_cases c7:(rd l0 (ji4))=0
            · rw [if_pos c7] at H
              have c7b0:((rd l0 (ji4)) == 0)=true:=beq_iff_eq.mpr c7
              have c7b1:((rd l0 (ji4)) != 0)=false:=bne_eq_false_iff_eq.mpr c7
              clear c7
              have H':=Aside0.mk H
              clear H
              have p148:0≤((ji4):Int):=of_decide_eq_true (by first|(with_reducible assumption)|assumption)
              have q148:(ji4)<(l0.length:Int):=of_decide_eq_true (by first|(with_reducible assumption)|assumption)
              obtain ⟨ad148,e148,hx148_0⟩:=Kd.at_int (Kd.R_reads' HO_0.out).2.2 (ji4) p148 q148
              cases e148
              replace p148:=eq_true p148
              replace q148:=eq_true q148
              go_wp2
              go_roundg k1
              case measure=>have:=HK1.out;omega
              case rel=>exact ⟨(ji4),(by first|rfl|(simp;done)|(simp only [← hji4]<;>(first|rfl|simp))|(simp [*];done)),H',⟨by have:=HK1.out;omega⟩,⟨by (with_reducible repeat (first|apply Kd.R_alloc|apply Kd.R_drewN|apply Kd.R_drew));exact HO_0.out⟩,⟨by repeat (first|(with_reducible first|exact HK.out|apply Kept.alloc|apply Kept.drewN|apply Kept.drew)|exact HK.out)⟩,⟨by repeat (first|(with_reducible first|exact HB.out|apply below_alloc|apply pw_below_drewN|apply below_drew1)|exact HB.out)⟩⟩
            · rw [if_neg c7] at H
              have c7b0:((rd l0 (ji4)) == 0)=false:=beq_eq_false_iff_ne.mpr c7
              have c7b1:((rd l0 (ji4)) != 0)=true:=bne_iff_ne.mpr c7
              by_cases c8:0≤x3_1
              · rw [if_pos c8] at H
                have c8b0:=eq_true c8
                have c8b1:decide (0≤x3_1)=true:=decide_eq_true c8
                clear c8
                by_cases c9:x3_1≤(l0.length:Int)
                · rw [if_pos c9] at H
                  have c9b0:=eq_true c9
                  have c9b1:decide (x3_1≤(l0.length:Int))=true:=decide_eq_true c9
                  clear c9
                  obtain ⟨y149,hy149⟩:∃ y_:List Int,y_=(l0.take (x3_1:Int).toNat):=⟨_,rfl⟩
                  replace H:(some y149)=some r:=by first|(rw [hy149];with_reducible exact H)|(have H2_:=(Option.bind_some _ _).symm.trans H;rw [hy149];with_reducible exact H2_)|(have H2_:=(Option.bind_some _ _).symm.trans H;with_reducible exact H2_)|with_reducible exact H|(rw [hy149];exact H)|exact H
                  have Ny149:=Aside0.mk hy149
                  clear hy149
                  obtain rfl:=Option.some.inj H
                  have p148:0≤((ji4):Int):=of_decide_eq_true (by first|(with_reducible assumption)|assumption)
                  have q148:(ji4)<(l0.length:Int):=of_decide_eq_true (by first|(with_reducible assumption)|assumption)
                  obtain ⟨ad148,e148,hx148_0⟩:=Kd.at_int (Kd.R_reads' HO_0.out).2.2 (ji4) p148 q148
                  cases e148
                  replace p148:=eq_true p148
                  replace q148:=eq_true q148
                  have q10:(x3_1:Int)≤((l0.length:Int):Int):=of_decide_eq_true (by first|(with_reducible assumption)|assumption)
                  obtain ⟨i010,hi010,_,hsz10,_⟩:=info_parts info130
                  have hcut10:=cut_to (P:=Tryz.prog) 128 130 .i64 Tryz.underlying128 hi010 (some ad148) l0.length co2 x3_1 (of_decide_eq_true (by first|(with_reducible assumption)|assumption)) q10 (Kd.R_reads' HO_0.out).2.1
                  have hr10:=Kd.R_take (m:=(x3_1:Int).toNat) HO_0.out (by omega)
                  have hy10:y149.length=(x3_1:Int).toNat:=(by rw [Ny149.out,List.length_take];omega)
                  rw [← Ny149.out] at hr10
                  rw [← hy10] at hr10 hcut10
                  clear hy10 hi010 hsz10 HO_0
                  have HO151:=Aside0.mk hr10
                  clear hr10
                  replace q10:=eq_true q10
                  go_wp2
                  go_ret
                  exact ⟨_,by first|rfl|(simp [errW_none,errW_some]<;>rfl)|(simp only [← hji4];first|rfl|(simp [errW_none,errW_some]<;>rfl))|(simp [*,errW_none,errW_some]<;>rfl),by (with_reducible repeat (first|apply Kd.R_alloc|apply Kd.R_drewN|apply Kd.R_drew));exact HO151.out,by repeat (first|(with_reducible first|exact HB.out|apply below_alloc|apply pw_below_drewN|apply below_drew1)|exact HB.out),by repeat (first|(with_reducible first|exact HK.out|apply Kept.alloc|apply Kept.drewN|apply Kept.drew)|exact HK.out)⟩
                · rw [if_neg c9] at H
                  exact absurd H (by simp)
              · rw [if_neg c8] at H
                exact absurd H (by simp)
          · rw [if_neg c6] at H
            exact absurd H (by simp)
        · rw [if_neg c5] at H
          exact absurd H (by simp)
      · rw [if_neg c3] at H
        have c3b0:decide (0<x3_1)=false:=decide_eq_false c3
        clear c3
        by_cases c11:0≤x3_1
        · rw [if_pos c11] at H
          have c11b0:=eq_true c11
          have c11b1:decide (0≤x3_1)=true:=decide_eq_true c11
          clear c11
          by_cases c12:x3_1≤(l0.length:Int)
          · rw [if_pos c12] at H
            have c12b0:=eq_true c12
            have c12b1:decide (x3_1≤(l0.length:Int))=true:=decide_eq_true c12
            clear c12
            obtain ⟨y152,hy152⟩:∃ y_:List Int,y_=(l0.take (x3_1:Int).toNat):=⟨_,rfl⟩
            replace H:(some y152)=some r:=by first|(rw [hy152];with_reducible exact H)|(have H2_:=(Option.bind_some _ _).symm.trans H;rw [hy152];with_reducible exact H2_)|(have H2_:=(Option.bind_some _ _).symm.trans H;with_reducible exact H2_)|with_reducible exact H|(rw [hy152];exact H)|exact H
            have Ny152:=Aside0.mk hy152
            clear hy152
            obtain rfl:=Option.some.inj H
            have q13:(x3_1:Int)≤((l0.length:Int):Int):=of_decide_eq_true (by first|(with_reducible assumption)|assumption)
            obtain ⟨i013,hi013,_,hsz13,_⟩:=info_parts info130
            have hcut13:=cut_to (P:=Tryz.prog) 128 130 .i64 Tryz.underlying128 hi013 Ao2 l0.length co2 x3_1 (of_decide_eq_true (by first|(with_reducible assumption)|assumption)) q13 (Kd.R_reads' HO_0.out).2.1
            have hr13:=Kd.R_take (m:=(x3_1:Int).toNat) HO_0.out (by omega)
            have hy13:y152.length=(x3_1:Int).toNat:=(by rw [Ny152.out,List.length_take];omega)
            rw [← Ny152.out] at hr13
            rw [← hy13] at hr13 hcut13
            clear hy13 hi013 hsz13 HO_0
            have HO154:=Aside0.mk hr13
            clear hr13
            replace q13:=eq_true q13
            go_wp2
            go_ret
            exact ⟨_,by first|rfl|(simp [errW_none,errW_some]<;>rfl)|(simp [*,errW_none,errW_some]<;>rfl),by (with_reducible repeat (first|apply Kd.R_alloc|apply Kd.R_drewN|apply Kd.R_drew));exact HO154.out,by repeat (first|(with_reducible first|exact HB.out|apply below_alloc|apply pw_below_drewN|apply below_drew1)|exact HB.out),by repeat (first|(with_reducible first|exact HK.out|apply Kept.alloc|apply Kept.drewN|apply Kept.drew)|exact HK.out)⟩
          · rw [if_neg c12] at H
            exact absurd H (by simp)
        · rw [if_neg c11] at H
          exact absurd H (by simp)
end Go.Proofs.YtmnkaldemjdcoaaGreat.QN90
end
section
namespace Go.Proofs.YtmnkaldemjdcoaaGreat.QN90
open RowKit YtmnkaldemjdcoaaGreatW.PrintWords YtmnkaldemjdcoaaGreatW.PrintLast YtmnkaldemjdcoaaGreatW.PrintMore
attribute [local go_sem] max2_int min2_int max_two min_two max_three min_three max_four min_four   -- for this text's walks alone
set_option linter.unusedVariables false
set_option linter.unusedSimpArgs false
def gimbalref90_halves.l0:Nat→List Int→List Int→Int→Option (List Int)
  | 0,_,_,_=>none
  | k+1,x0,x3,x4=>if x4<(x0.length:Int) then (if 0≤x4 then ((some (([(rd x0 x4)%4294967296,((rd x0 x4)/4294967296)%4294967296]:List Int):List Int)).bind fun y157=>(if x3.length+y157.length<35184372088832 then (gimbalref90_halves.l0 k x0 (x3++y157) (wrap64 (x4+1))) else (none))) else (none)) else ((gimbalref90_cut.f k x3).bind fun t163=>(some t163))
def gimbalref90_halves.f (k:Nat) (l0:List Int):Option (List Int):=gimbalref90_halves.l0 k l0 ([]:List Int) 0
theorem gimbalref90_halves.mono_l:∀ k,(∀ y0 y1 y2,LeO (gimbalref90_halves.l0 k y0 y1 y2) (gimbalref90_halves.l0 (k+1) y0 y1 y2))
  | 0=>fun _ _ _ r h=>by simp [gimbalref90_halves.l0] at h
  | k + 1 => by
    have ih0:=gimbalref90_halves.mono_l k
    · intro y0 y1 y2
      unfold gimbalref90_halves.l0
      repeat' first
      | (with_reducible exact ih0 _ _ _)
      | (with_reducible exact gimbalref90_cut.mono _ _)
      | (with_reducible exact LeO.refl _)
      | (with_reducible exact LeO.none _)
      | (with_reducible refine LeO.ite ?_ ?_)
      | (with_reducible refine LeO.bind ?_ (fun _=>?_))
      | exact ih0 _ _ _
      | exact gimbalref90_cut.mono _ _
      | exact LeO.none _
      | refine LeO.ite ?_ ?_
      | refine LeO.bind ?_ (fun _=>?_)
theorem gimbalref90_halves.mono:∀ a0 k,LeO (gimbalref90_halves.f k a0) (gimbalref90_halves.f (k+1) a0):=by
  intro a0 k
  have ih0:=gimbalref90_halves.mono_l k
  unfold gimbalref90_halves.f
  repeat' first
      | (with_reducible exact ih0 _ _ _)
      | (with_reducible exact gimbalref90_cut.mono _ _)
      | (with_reducible exact LeO.refl _)
      | (with_reducible exact LeO.none _)
      | (with_reducible refine LeO.ite ?_ ?_)
      | (with_reducible refine LeO.bind ?_ (fun _=>?_))
      | exact ih0 _ _ _
      | exact gimbalref90_cut.mono _ _
      | exact LeO.none _
      | refine LeO.ite ?_ ?_
      | refine LeO.bind ?_ (fun _=>?_)
def gimbalref90_halves.T5:Bool × List (List Nat × List Nat):=(true,[([],[]),([],[]),([],[]),([1,2],[1,2]),([3],[3]),([4],[4]),([],[]),([],[]),([6,7],[6,7]),([8],[8]),([9],[9]),([10],[10]),([5,11],[5,11]),([0,12],[0,12]),([13,13,0,1,2,3,4,5,6,7,8,9,10,11,12,13],[0,13])])
def gimbalref90_halves.B5:List Nat:=[0,0,0,6,14,30,0,0,192,448,960,1984,4094,8191,16383]
theorem gimbalref90_halves.tab5:rtab .any (opsOf Tryz.f115 5)=gimbalref90_halves.T5:=by kernel_rfl
theorem gimbalref90_halves.bits5:waitsOk gimbalref90_halves.T5.2 gimbalref90_halves.B5=true:=by kernel_rfl
set_option maxHeartbeats 8000000 in
set_option maxRecDepth 100000 in
theorem gimbalref90_halves.calls (k:Nat) (A0:Option Addr) (c0:Nat) (l0:List Int) (r:List Int) (w:World) (hr0:Kd.C (Kd.int .u64) w A0 l0.length l0) (hc0:l0.length≤c0) (h:gimbalref90_halves.f k l0=some r) :
    Calls Tryz.prog 115 #[.slice A0 l0.length c0] w fun e w'=>∃ v0_:Value,e = .returned (v0_)∧Kd.R (Kd.int .u32) 130 w' w.heap.size (fun _=>True) v0_ r∧Below w.heap.size w w':=by
  have HR0:=Aside0.mk hr0
  have HC0:=Aside0.mk hc0
  clear hr0 hc0
  have HB:=Aside0.mk (Below.refl w.heap.size w)
  have H:(gimbalref90_halves.l0 k l0 ([]:List Int) 0)=some r:=h
  clear h
  have H':=Aside0.mk H
  clear H
  go_enter Tryz.func115,Tryz.ntmps115
  go_wp2
  go_loopg [3,4] k (fun kq v3 v4 w'=>∃ (x3_1:List Int) (x4_1:Int),v4 = .int .i64 x4_1∧Aside0 (gimbalref90_halves.l0 kq l0 x3_1 x4_1=some r)∧Aside0 (kq≤k)∧Aside0 (Kd.R (Kd.int .u32) 130 w' w.heap.size (fun _=>True) v3 x3_1)∧Aside0 (Below w.heap.size w w'))
  case atStart=>exact ⟨(([]:List Int)),(0),(by first|rfl|(simp;done)|(simp [*];done)),H',⟨Nat.le_refl _⟩,⟨by first|exact Kd.R_nil _ _ _ _ _|exact Kd.N_nil _ _ _ _ _|exact Kd.V_nil _ _ _ _ _|exact Kd.Q_nil _ _ _ _ _|exact Kd.S_nil _ _ _ _ _⟩,⟨by repeat (first|(with_reducible first|exact HB.out|apply below_alloc|apply pw_below_drewN|apply below_drew1)|exact HB.out)⟩⟩
  case round =>
    clear H'
    try clear c1
    obtain ⟨x3_1,x4_1,rfl,HA,HK1,HO_3,HB⟩:=hrel
    cases gk with
    | zero=>exact absurd HA.out (by simp [gimbalref90_halves.l0])
    | succ k1 =>
      have H:=HA.out
      clear HA
      simp only [gimbalref90_halves.l0] at H
      by_cases c2:x4_1<(l0.length:Int)
      · rw [if_pos c2] at H
        have c2b0:decide (x4_1<(l0.length:Int))=true:=decide_eq_true c2
        clear c2
        by_cases c3:0≤x4_1
        · rw [if_pos c3] at H
          have c3b0:decide (0≤x4_1)=true:=decide_eq_true c3
          clear c3
          obtain ⟨y157,hy157⟩:∃ y_:List Int,y_=(([(rd l0 x4_1)%4294967296,((rd l0 x4_1)/4294967296)%4294967296]:List Int)):=⟨_,rfl⟩
          replace H:(if x3_1.length+y157.length<35184372088832 then (gimbalref90_halves.l0 k1 l0 (x3_1++y157) (wrap64 (x4_1+1))) else (none))=some r:=by first|(rw [hy157];with_reducible exact H)|(have H2_:=(Option.bind_some _ _).symm.trans H;rw [hy157];with_reducible exact H2_)|(have H2_:=(Option.bind_some _ _).symm.trans H;with_reducible exact H2_)|with_reducible exact H|(rw [hy157];exact H)|exact H
          have Ny157:=Aside0.mk hy157
          clear hy157
          by_cases c4:x3_1.length+y157.length<35184372088832
          · rw [if_pos c4] at H
            have LMc4:=Aside0.mk c4
            clear c4
            obtain ⟨y160,hy160⟩:∃ y_:List Int,y_=(x3_1++y157):=⟨_,rfl⟩
            replace H:(gimbalref90_halves.l0 k1 l0 y160 (wrap64 (x4_1+1)))=some r:=by first|(rw [hy160];with_reducible exact H)|(have H2_:=(Option.bind_some _ _).symm.trans H;rw [hy160];with_reducible exact H2_)|(have H2_:=(Option.bind_some _ _).symm.trans H;with_reducible exact H2_)|with_reducible exact H|(rw [hy160];exact H)|exact H
            have Ny160:=Aside0.mk hy160
            clear hy160
            have H':=Aside0.mk H
            clear H
            try go_wp2
            have n0_:=Aside0.mk (Kd.R_drew HO_3.out)
            have n1_:=Aside0.mk (below_drew1 HB.out)
            clear HO_3
            clear HB
            have HO_3:=n0_
            have HB:=n1_
            clear n0_ n1_
            have p155:0≤(x4_1:Int):=of_decide_eq_true (by first|(with_reducible assumption)|assumption)
            have q155:x4_1<(l0.length:Int):=of_decide_eq_true (by first|(with_reducible assumption)|assumption)
            obtain ⟨ad155,e155,hx155_0⟩:=Kd.at_int HR0.out x4_1 p155 q155
            have hw155_0:=hx155_0
            cases e155
            replace hx155_0:=(HB.out.cell (World.block_lt_of_cell? w _ hx155_0)).trans hx155_0
            replace p155:=eq_true p155
            replace q155:=eq_true q155
            have p156:0≤(x4_1:Int):=of_decide_eq_true (by first|(with_reducible assumption)|assumption)
            have q156:x4_1<(l0.length:Int):=of_decide_eq_true (by first|(with_reducible assumption)|assumption)
            obtain ⟨ad156,e156,hx156_0⟩:=Kd.at_int HR0.out x4_1 p156 q156
            have hw156_0:=hx156_0
            obtain rfl:ad155=ad156:=(by injection e156)
            replace hx156_0:=(HB.out.cell (World.block_lt_of_cell? w _ hx156_0)).trans hx156_0
            replace p156:=eq_true p156
            replace q156:=eq_true q156
            refine start_ (n:=15) (S:=fun w'=>w'.cell? (ad155.add (x4_1).toNat)=some (.int .u64 (rd l0 x4_1))∧w'.cell? (ad155.add (x4_1).toNat)=some (.int .u64 (rd l0 x4_1))) (ds:=[]) #[false,false,false,false,false,false,false,false,false,false,false,false,false,false,false] (by kernel_rfl) rfl rfl ⟨((HB.out.cell (World.block_lt_of_cell? w _ hw155_0)).trans hw155_0),((HB.out.cell (World.block_lt_of_cell? w _ hw156_0)).trans hw156_0)⟩ (fun hHeld=>?_);refine with_tabW gimbalref90_halves.tab5 gimbalref90_halves.bits5 (fun HT_ HW_=>?_)
            generalize wr.drew=w5 at HO_3 HB hx155_0 hx156_0 hHeld ⊢
            refine pure_ (i:=0) (N:=some 11) (v:=?_) (a':=?_) #[true,false,false,false,false,false,false,false,false,false,false,false,false,false,false] rfl rfl (any_of HT_.out (by kernel_rfl)) (fun _ _ _ h=>h) (Or.inl ⟨by rfl,?_⟩) ?_ ?_
            rotate_left
            · intro w'
              go_simp
              with_reducible rfl
            rotate_left
            · simp only [Act.put,List.setIfInBounds_toArray,List.set_cons_zero,List.set_cons_succ,i64_w,i32_w]
              rfl
            refine pure_ (i:=1) (N:=some 12) (v:=?_) (a':=?_) #[true,true,false,false,false,false,false,false,false,false,false,false,false,false,false] rfl rfl (any_of HT_.out (by kernel_rfl)) (fun _ _ _ h=>h) (Or.inl ⟨by rfl,?_⟩) ?_ ?_
            rotate_left
            · intro w'
              go_simp
              with_reducible rfl
            rotate_left
            · simp only [Act.put,List.setIfInBounds_toArray,List.set_cons_zero,List.set_cons_succ,i64_w,i32_w]
              rfl
            refine pure_ (i:=2) (N:=some 13) (v:=?_) (a':=?_) #[true,true,true,false,false,false,false,false,false,false,false,false,false,false,false] rfl rfl (any_of HT_.out (by kernel_rfl)) (fun _ _ _ h=>h) (Or.inl ⟨by rfl,?_⟩) ?_ ?_
            rotate_left
            · intro w'
              go_simp
              with_reducible rfl
            rotate_left
            · simp only [Act.put,List.setIfInBounds_toArray,List.set_cons_zero,List.set_cons_succ,i64_w,i32_w]
              rfl
            refine pure_ (i:=3) (N:=some 14) (v:=?_) (a':=?_) #[true,true,true,true,false,false,false,false,false,false,false,false,false,false,false] rfl rfl (any_of HT_.out (by kernel_rfl)) (fun _ _ _ h=>h) (Or.inl ⟨by rfl,?_⟩) ?_ ?_
            rotate_left
            · intro w'
              go_simp
              with_reducible rfl
            rotate_left
            · simp only [Act.put,List.setIfInBounds_toArray,List.set_cons_zero,List.set_cons_succ,i64_w,i32_w]
              rfl
            refine pure_ (i:=6) (N:=some 17) (v:=?_) (a':=?_) #[true,true,true,true,false,false,true,false,false,false,false,false,false,false,false] rfl rfl (any_of HT_.out (by kernel_rfl)) (fun _ _ _ h=>h) (Or.inl ⟨by rfl,?_⟩) ?_ ?_
            rotate_left
            · intro w'
              go_simp
              with_reducible rfl
            rotate_left
            · simp only [Act.put,List.setIfInBounds_toArray,List.set_cons_zero,List.set_cons_succ,i64_w,i32_w]
              rfl
            refine pure_ (i:=7) (N:=some 18) (v:=?_) (a':=?_) #[true,true,true,true,false,false,true,true,false,false,false,false,false,false,false] rfl rfl (any_of HT_.out (by kernel_rfl)) (fun _ _ _ h=>h) (Or.inl ⟨by rfl,?_⟩) ?_ ?_
            rotate_left
            · intro w'
              go_simp
              with_reducible rfl
            rotate_left
            · simp only [Act.put,List.setIfInBounds_toArray,List.set_cons_zero,List.set_cons_succ,i64_w,i32_w]
              rfl
            refine pure_ (i:=8) (N:=some 19) (v:=?_) (a':=?_) #[true,true,true,true,false,false,true,true,true,false,false,false,false,false,false] rfl rfl (any_of HT_.out (by kernel_rfl)) (fun _ _ _ h=>h) (Or.inl ⟨by rfl,?_⟩) ?_ ?_
            rotate_left
            · intro w'
              go_simp
              with_reducible rfl
            rotate_left
            · simp only [Act.put,List.setIfInBounds_toArray,List.set_cons_zero,List.set_cons_succ,i64_w,i32_w]
              rfl
            refine take_ (i:=4) (N:=some 15) (v:=?_) (a':=?_) #[true,true,true,true,true,false,true,true,true,false,false,false,false,false,false] rfl rfl (take_ofW HT_.out HW_.out (by kernel_rfl)) (fun _ _ _ h=>h) (Or.inl ⟨by rfl,?_⟩) hHeld ?_ ?_
            rotate_left
            · rintro w' ⟨s0,s1⟩
              go_simp
              with_reducible rfl
            rotate_left
            · simp only [Act.put,List.setIfInBounds_toArray,List.set_cons_zero,List.set_cons_succ,i64_w,i32_w]
              rfl
            refine pure_ (i:=5) (N:=some 16) (v:=?_) (a':=?_) #[true,true,true,true,true,true,true,true,true,false,false,false,false,false,false] rfl rfl (any_of HT_.out (by kernel_rfl)) (fun _ _ _ h=>h) (Or.inl ⟨by rfl,?_⟩) ?_ ?_
            rotate_left
            · intro w'
              go_simp
              with_reducible rfl
            rotate_left
            · simp only [Act.put,List.setIfInBounds_toArray,List.set_cons_zero,List.set_cons_succ,i64_w,i32_w]
              rfl
            refine take_ (i:=9) (N:=some 20) (v:=?_) (a':=?_) #[true,true,true,true,true,true,true,true,true,true,false,false,false,false,false] rfl rfl (take_ofW HT_.out HW_.out (by kernel_rfl)) (fun _ _ _ h=>h) (Or.inl ⟨by rfl,?_⟩) hHeld ?_ ?_
            rotate_left
            · rintro w' ⟨s0,s1⟩
              go_simp
              with_reducible rfl
            rotate_left
            · simp only [Act.put,List.setIfInBounds_toArray,List.set_cons_zero,List.set_cons_succ,i64_w,i32_w]
              rfl
            refine pure_ (i:=10) (N:=some 21) (v:=?_) (a':=?_) #[true,true,true,true,true,true,true,true,true,true,true,false,false,false,false] rfl rfl (any_of HT_.out (by kernel_rfl)) (fun _ _ _ h=>h) (Or.inl ⟨by rfl,?_⟩) ?_ ?_
            rotate_left
            · intro w'
              go_simp
              with_reducible rfl
            rotate_left
            · simp only [Act.put,List.setIfInBounds_toArray,List.set_cons_zero,List.set_cons_succ,i64_w,i32_w]
              rfl
            refine pure_ (i:=11) (N:=some 22) (v:=?_) (a':=?_) #[true,true,true,true,true,true,true,true,true,true,true,true,false,false,false] rfl rfl (any_of HT_.out (by kernel_rfl)) (fun _ _ _ h=>h) (Or.inl ⟨by rfl,?_⟩) ?_ ?_
            rotate_left
            · intro w'
              go_simp
              with_reducible rfl
            rotate_left
            · simp only [Act.put,List.setIfInBounds_toArray,List.set_cons_zero,List.set_cons_succ,i64_w,i32_w]
              rfl
            refine one_ (i:=12) (N:=some 23) #[true,true,true,true,true,true,true,true,true,true,true,true,true,false,false] rfl rfl (one_of HT_.out (by kernel_rfl)) (by decide) (fun K hK=>?_)
            refine Kd.R_lit_step (Kd.int .u32) _ 130 ?hg (N:=23) ?hd (xs:=([(rd l0 x4_1)%4294967296,((rd l0 x4_1)/4294967296)%4294967296]:List Int)) (inner:=[.int .u32 ((rd l0 x4_1)%4294967296),.int .u32 (((rd l0 x4_1)/4294967296)%4294967296)]) (ok:=fun _=>True) (okp:=fun _=>True) ?hr ?hp (fun _ hk=>hk) trivial (Below.refl _ _) (Nat.le_refl _) (by simp) ?_;(case hd=>rfl);(case hg=>rfl);(case hr=>first|(go_simp;done)|(go_simp;rfl));(case hp=>exact (Reps.one (show Kd.M (Kd.int .u32) _ _ _ ((rd l0 x4_1)%4294967296) [.int .u32 ((rd l0 x4_1)%4294967296)] from rfl) (Reps.one (show Kd.M (Kd.int .u32) _ _ _ (((rd l0 x4_1)/4294967296)%4294967296) [.int .u32 (((rd l0 x4_1)/4294967296)%4294967296)] from rfl) (Reps.none _ _))))
            intro v158 w6 ho7 hb hg_ hnew_
            clear hg_ hnew_
            (first|rw [← Ny157.out] at ho7|(simp only [Int.reduceToNat] at ho7;rw [← Ny157.out] at ho7))
            have n0_:=Aside0.mk (Kd.R_elder' (by (with_reducible repeat (first|apply Kd.R_alloc|apply Kd.R_drewN|apply Kd.R_drew));exact HO_3.out) (Kd.R_base ho7) hb)
            have n1_:=Aside0.mk (Kd.R_lower (Kd.R_new' ho7 (Kd.R_lt (by (with_reducible repeat (first|apply Kd.R_alloc|apply Kd.R_drewN|apply Kd.R_drew));exact HO_3.out))) (below_size (by repeat (first|(with_reducible first|exact HB.out|apply below_alloc|apply pw_below_drewN|apply below_drew1)|exact HB.out))))
            have n2_:=Aside0.mk (below_step (by repeat (first|(with_reducible first|exact HB.out|apply below_alloc|apply pw_below_drewN|apply below_drew1)|exact HB.out)) hb)
            clear HO_3
            clear HB
            have HO_3:=n0_
            have HO159:=n1_
            have HB:=n2_
            clear n0_ n1_ n2_
            clear hb ho7
            obtain ⟨Ao9,co9,eo9⟩:=Kd.R_slice HO159.out
            (first|subst eo9|(injection eo9 with f1_ f2_ f3_;have f4_:=f1_.symm;have f5_:=f3_.symm;clear f1_ f2_ f3_;subst f4_;subst f5_))
            refine hK.out _ _ ⟨((HB.out.cell (World.block_lt_of_cell? w _ hw155_0)).trans hw155_0),((HB.out.cell (World.block_lt_of_cell? w _ hw156_0)).trans hw156_0)⟩ (fun hHeld=>?_)
            clear hK K
            refine norm_ (a':=?_) ?_ ?_
            rotate_left
            · show Act.put _ (some 23) _=_
              simp only [Act.put,List.setIfInBounds_toArray,List.set_cons_zero,List.set_cons_succ,i64_w,i32_w]
              rfl
            refine one_ (i:=13) (N:=some 24) #[true,true,true,true,true,true,true,true,true,true,true,true,true,true,false] rfl rfl (one_of HT_.out (by kernel_rfl)) (by decide) (fun K hK=>?_)
            refine Kd.R_append_rows_step (Kd.int .u32) (w0:=w) w.heap.size (by rfl) (.tmp 11) (.tmp 23) 128 130 (.int .u32 0) 4 rfl Tryz.underlying128 info130 rfl (by decide) (by omega) u3 x3_1 y157 _ _ _ (fun k_=>some k_≠(.slice Ao9 y157.length co9:Value).ownBlock) (fun _=>False) rfl rfl ?aO ?aR (fun _ _ h=>h) (fun _ h=>h.elim) ?aF ?aB ?aS ?aL ?_
            (case aR=>repeat (first|exact (Kd.R_reads' HO159.out).2.2|(with_reducible refine Kd.C_alloc ?_ _)|(with_reducible refine Kd.C_drewN ?_ _)|(with_reducible refine Kd.C_drew ?_)))
            (case aB=>exact (by repeat (first|(with_reducible first|exact HB.out|apply below_alloc|apply pw_below_drewN|apply below_drew1)|exact HB.out)))
            (case aF=>exact (fun k_ hk=>Kd.fresh' (Kd.R_lt (by (with_reducible repeat (first|apply Kd.R_alloc|apply Kd.R_drewN|apply Kd.R_drew));exact HO159.out)) k_ hk))
            (case aO=>exact (by (with_reducible repeat (first|apply Kd.R_alloc|apply Kd.R_drewN|apply Kd.R_drew));exact Kd.R_mono HO_3.out (fun _ hk=>hk.2)))
            (case aS=>exact (below_size (by repeat (first|(with_reducible first|exact HB.out|apply below_alloc|apply pw_below_drewN|apply below_drew1)|exact HB.out))))
            (case aL=>have:=LMc4.out;omega)
            intro v161 w8 ho hb hg hat
            rw [← Ny160.out] at ho
            have n0_:=Aside0.mk (Kd.R_after (ok:=(fun _=>True)) (by (with_reducible repeat (first|apply Kd.R_alloc|apply Kd.R_drewN|apply Kd.R_drew));exact HO159.out) hg hat)
            have n1_:=Aside0.mk (hb)
            have n2_:=Aside0.mk (ho)
            clear HO159
            clear HB
            clear HO_3
            have HO159:=n0_
            have HB:=n1_
            have HO162:=n2_
            clear n0_ n1_ n2_
            clear ho hb hg hat
            refine hK.out _ _ ⟨((HB.out.cell (World.block_lt_of_cell? w _ hw155_0)).trans hw155_0),((HB.out.cell (World.block_lt_of_cell? w _ hw156_0)).trans hw156_0)⟩ (fun hHeld=>?_)
            clear hK K
            refine norm_ (a':=?_) ?_ ?_
            rotate_left
            · show Act.put _ (some 24) _=_
              simp only [Act.put,List.setIfInBounds_toArray,List.set_cons_zero,List.set_cons_succ,i64_w,i32_w]
              rfl
            refine pure_ (i:=14) (N:=some 3) (v:=?_) (a':=?_) #[true,true,true,true,true,true,true,true,true,true,true,true,true,true,true] rfl rfl (any_of HT_.out (by kernel_rfl)) (fun _ _ _ h=>h) (Or.inl ⟨by rfl,?_⟩) ?_ ?_
            rotate_left
            · intro w'
              go_simp
              with_reducible rfl
            rotate_left
            · simp only [Act.put,List.setIfInBounds_toArray,List.set_cons_zero,List.set_cons_succ,i64_w,i32_w]
              rfl
            refine done_ (done_of HT_.out (by kernel_rfl)) ?_
            try go_wp2
            go_roundg k1
            case measure=>have:=HK1.out;omega
            case rel=>exact ⟨(y160),(wrap64 (x4_1+1)),(by first|rfl|(simp;done)|(simp [*];done)),H',⟨by have:=HK1.out;omega⟩,⟨by (with_reducible repeat (first|apply Kd.R_alloc|apply Kd.R_drewN|apply Kd.R_drew));exact Kd.R_mono HO162.out (fun _ hk=>trivial)⟩,⟨by repeat (first|(with_reducible first|exact HB.out|apply below_alloc|apply pw_below_drewN|apply below_drew1)|exact HB.out)⟩⟩
          · rw [if_neg c4] at H
            exact absurd H (by simp)
        · rw [if_neg c3] at H
          exact absurd H (by simp)
      · rw [if_neg c2] at H
        have c2b0:decide (x4_1<(l0.length:Int))=false:=decide_eq_false c2
        clear c2
        replace H:=Option.bind_eq_some_iff.mp H
        obtain ⟨t163,A100,H⟩:=H
        replace H:(some t163)=some r:=H
        have A10:=Aside0.mk A100
        clear A100
        obtain rfl:=Option.some.inj H
        obtain ⟨Ao11,co11,eo11⟩:=Kd.R_slice HO_3.out
        subst eo11
        go_wp2_with (first|((with_reducible refine gate_callee (f:=120) rfl ?_);refine goesL_ (some 26) rfl rfl Tryz.func120 (by kernel_rfl) rfl #[.slice Ao11 x3_1.length co11] rfl (by (try simp only [List.map_toArray,List.map_cons,List.map_nil]);first|done|rfl|(simp only [List.length_drop,List.length_take];rfl)) ?_;(with_reducible refine (gimbalref90_cut.calls k1 (fun k_=>some k_=(.slice Ao11 x3_1.length co11:Value).ownBlock) (.slice Ao11 x3_1.length co11) x3_1 t163 w _ ?side1 ?side2 A10.out).mono ?_);(case side1=>repeat (first|(with_reducible first|exact HB.out|apply below_alloc|apply pw_below_drewN|apply below_drew1)|exact HB.out));(case side2=>exact Kd.R_tight rfl HO_3.out);rintro e w12 ⟨v164,rfl,ho0,hb,hkp⟩;refine ⟨_,rfl,?_⟩;have n0_:=Aside0.mk (Kd.R_mono (ok':=fun k_=>True) ho0 (fun k_ hk_=>trivial));have n1_:=Aside0.mk (hb);clear HB;clear HO_3;have HO165:=n0_;have HB:=n1_;clear n0_ n1_;(try clear hb);(try clear hkp);(try clear ho0)))
        go_ret
        exact ⟨_,by first|rfl|(simp [errW_none,errW_some]<;>rfl)|(simp [*,errW_none,errW_some]<;>rfl),by (with_reducible repeat (first|apply Kd.R_alloc|apply Kd.R_drewN|apply Kd.R_drew));exact HO165.out,by repeat (first|(with_reducible first|exact HB.out|apply below_alloc|apply pw_below_drewN|apply below_drew1)|exact HB.out)⟩
def gimbalref90_whole.l0:Nat→List Int→List Int→Int→Option (List Int)
  | 0,_,_,_=>none
  | k+1,x0,x3,x4=>if x4<(x0.length:Int) then (if 0≤x4 then (if (wrap64 (x4+1))<(x0.length:Int) then (if 0≤(wrap64 (x4+1)) then (if x3.length<17592186044416 then (gimbalref90_whole.l0 k x0 (x3++[Go.bits .or .u64 (IntKind.u64.wrap (rd x0 x4)) (IntKind.u64.wrap ((IntKind.u64.wrap (rd x0 (wrap64 (x4+1))))*4294967296))]) (wrap64 (x4+2))) else (none)) else (none)) else (if x3.length<17592186044416 then (gimbalref90_whole.l0 k x0 (x3++[IntKind.u64.wrap (rd x0 x4)]) (wrap64 (x4+2))) else (none))) else (none)) else ((gimbalref90_NTrim.f k x3).bind fun t174=>(some t174))
def gimbalref90_whole.f (k:Nat) (l0:List Int):Option (List Int):=gimbalref90_whole.l0 k l0 ([]:List Int) 0
theorem gimbalref90_whole.mono_l:∀ k,(∀ y0 y1 y2,LeO (gimbalref90_whole.l0 k y0 y1 y2) (gimbalref90_whole.l0 (k+1) y0 y1 y2))
  | 0=>fun _ _ _ r h=>by simp [gimbalref90_whole.l0] at h
  | k + 1 => by
    have ih0:=gimbalref90_whole.mono_l k
    · intro y0 y1 y2
      unfold gimbalref90_whole.l0
      repeat' first
      | (with_reducible exact ih0 _ _ _)
      | (with_reducible exact gimbalref90_NTrim.mono _ _)
      | (with_reducible exact LeO.refl _)
      | (with_reducible exact LeO.none _)
      | (with_reducible refine LeO.ite ?_ ?_)
      | (with_reducible refine LeO.bind ?_ (fun _=>?_))
      | exact ih0 _ _ _
      | exact gimbalref90_NTrim.mono _ _
      | exact LeO.none _
      | refine LeO.ite ?_ ?_
      | refine LeO.bind ?_ (fun _=>?_)
theorem gimbalref90_whole.mono:∀ a0 k,LeO (gimbalref90_whole.f k a0) (gimbalref90_whole.f (k+1) a0):=by
  intro a0 k
  have ih0:=gimbalref90_whole.mono_l k
  unfold gimbalref90_whole.f
  repeat' first
      | (with_reducible exact ih0 _ _ _)
      | (with_reducible exact gimbalref90_NTrim.mono _ _)
      | (with_reducible exact LeO.refl _)
      | (with_reducible exact LeO.none _)
      | (with_reducible refine LeO.ite ?_ ?_)
      | (with_reducible refine LeO.bind ?_ (fun _=>?_))
      | exact ih0 _ _ _
      | exact gimbalref90_NTrim.mono _ _
      | exact LeO.none _
      | refine LeO.ite ?_ ?_
      | refine LeO.bind ?_ (fun _=>?_)
set_option maxHeartbeats 8000000 in
set_option maxRecDepth 100000 in
theorem gimbalref90_whole.calls (k:Nat) (A0:Option Addr) (c0:Nat) (l0:List Int) (r:List Int) (w:World) (hr0:Kd.C (Kd.int .u32) w A0 l0.length l0) (hc0:l0.length≤c0) (h:gimbalref90_whole.f k l0=some r) :
    Calls Tryz.prog 117 #[.slice A0 l0.length c0] w fun e w'=>∃ v0_:Value,e = .returned (v0_)∧Kd.R (Kd.int .u64) 94 w' w.heap.size (fun _=>True) v0_ r∧Below w.heap.size w w':=by
  have HR0:=Aside0.mk hr0
  have HC0:=Aside0.mk hc0
  clear hr0 hc0
  have HB:=Aside0.mk (Below.refl w.heap.size w)
  have H:(gimbalref90_whole.l0 k l0 ([]:List Int) 0)=some r:=h
  clear h
  have H':=Aside0.mk H
  clear H
  go_enter Tryz.func117,Tryz.ntmps117
  go_wp2
  go_loopg [3,4] k (fun kq v3 v4 w'=>∃ (x3_1:List Int) (x4_1:Int),v4 = .int .i64 x4_1∧Aside0 (gimbalref90_whole.l0 kq l0 x3_1 x4_1=some r)∧Aside0 (kq≤k)∧Aside0 (Kd.R (Kd.int .u64) 94 w' w.heap.size (fun _=>True) v3 x3_1)∧Aside0 (Below w.heap.size w w'))
  case atStart=>exact ⟨(([]:List Int)),(0),(by first|rfl|(simp;done)|(simp [*];done)),H',⟨Nat.le_refl _⟩,⟨by first|exact Kd.R_nil _ _ _ _ _|exact Kd.N_nil _ _ _ _ _|exact Kd.V_nil _ _ _ _ _|exact Kd.Q_nil _ _ _ _ _|exact Kd.S_nil _ _ _ _ _⟩,⟨by repeat (first|(with_reducible first|exact HB.out|apply below_alloc|apply pw_below_drewN|apply below_drew1)|exact HB.out)⟩⟩
  case round =>
    clear H'
    try clear c1
    obtain ⟨x3_1,x4_1,rfl,HA,HK1,HO_3,HB⟩:=hrel
    cases gk with
    | zero=>exact absurd HA.out (by simp [gimbalref90_whole.l0])
    | succ k1 =>
      have H:=HA.out
      clear HA
      simp only [gimbalref90_whole.l0] at H
      by_cases c2:x4_1<(l0.length:Int)
      · rw [if_pos c2] at H
        have c2b0:decide (x4_1<(l0.length:Int))=true:=decide_eq_true c2
        clear c2
        by_cases c3:0≤x4_1
        · rw [if_pos c3] at H
          have c3b0:decide (0≤x4_1)=true:=decide_eq_true c3
          clear c3
          by_cases c4:(wrap64 (x4_1+1))<(l0.length:Int)
          · rw [if_pos c4] at H
            have c4b0:decide ((wrap64 (x4_1+1))<(l0.length:Int))=true:=decide_eq_true c4
            clear c4
            obtain ⟨ji5,hji5⟩:∃ j_:Int,(wrap64 (x4_1+1))=j_:=⟨_,rfl⟩
            replace H:(if 0≤(ji5) then (if x3_1.length<17592186044416 then (gimbalref90_whole.l0 k1 l0 (x3_1++[Go.bits .or .u64 (IntKind.u64.wrap (rd l0 x4_1)) (IntKind.u64.wrap ((IntKind.u64.wrap (rd l0 (ji5)))*4294967296))]) (wrap64 (x4_1+2))) else (none)) else (none))=some r:=by first|(rw [hji5] at H;exact H)|(simp only [hji5] at H ⊢;exact H)
            (try rw [hji5] at c4b0)
            have hji5w:(IntKind.i64.wrap (x4_1+1))=ji5:=(i64_w _).trans hji5
            by_cases c6:0≤(ji5)
            · rw [if_pos c6] at H
              have c6b0:decide (0≤(ji5))=true:=decide_eq_true c6
              clear c6
              by_cases c7:x3_1.length<17592186044416
              · rw [if_pos c7] at H
                have LMc7:=Aside0.mk c7
                clear c7
                obtain ⟨y168,hy168⟩:∃ y_:List Int,y_=(x3_1++[Go.bits .or .u64 (IntKind.u64.wrap (rd l0 x4_1)) (IntKind.u64.wrap ((IntKind.u64.wrap (rd l0 (ji5)))*4294967296))]):=⟨_,rfl⟩
                replace H:(gimbalref90_whole.l0 k1 l0 y168 (wrap64 (x4_1+2)))=some r:=by first|(rw [hy168];with_reducible exact H)|(have H2_:=(Option.bind_some _ _).symm.trans H;rw [hy168];with_reducible exact H2_)|(have H2_:=(Option.bind_some _ _).symm.trans H;with_reducible exact H2_)|with_reducible exact H|(rw [hy168];exact H)|exact H
                have Ny168:=Aside0.mk hy168
                clear hy168
                have H':=Aside0.mk H
                clear H
                have p166:0≤(x4_1:Int):=of_decide_eq_true (by first|(with_reducible assumption)|assumption)
                have q166:x4_1<(l0.length:Int):=of_decide_eq_true (by first|(with_reducible assumption)|assumption)
                obtain ⟨ad166,e166,hx166_0⟩:=Kd.at_int HR0.out x4_1 p166 q166
                cases e166
                replace hx166_0:=(HB.out.cell (World.block_lt_of_cell? w _ hx166_0)).trans hx166_0
                replace p166:=eq_true p166
                replace q166:=eq_true q166
                have p167:0≤((ji5):Int):=of_decide_eq_true (by first|(with_reducible assumption)|assumption)
                have q167:(ji5)<(l0.length:Int):=of_decide_eq_true (by first|(with_reducible assumption)|assumption)
                obtain ⟨ad167,e167,hx167_0⟩:=Kd.at_int HR0.out (ji5) p167 q167
                obtain rfl:ad166=ad167:=(by injection e167)
                replace hx167_0:=(HB.out.cell (World.block_lt_of_cell? w _ hx167_0)).trans hx167_0
                replace p167:=eq_true p167
                replace q167:=eq_true q167
                go_wp2_with (first|((with_reducible refine gate_builtin (b := .append) (xs:=#[.tmp 31,.tmp 33]) rfl ?_);at_builtin;refine Kd.R_append (Kd.int .u64) (w0:=w) w.heap.size rfl (.tmp 31) (.tmp 33) 55 94 (.int .u64 0) 8 rfl Tryz.underlying55 info94 rfl (by decide) (by omega) u3 x3_1 (Go.bits .or .u64 (IntKind.u64.wrap (rd l0 x4_1)) (IntKind.u64.wrap ((IntKind.u64.wrap (rd l0 (ji5)))*4294967296))) [.int .u64 (Go.bits .or .u64 (IntKind.u64.wrap (rd l0 x4_1)) (IntKind.u64.wrap ((IntKind.u64.wrap (rd l0 (ji5)))*4294967296)))] (fun _=>True) (fun _=>False) rfl rfl ?aP (fun _ hk=>hk.elim) ?aF ?aO ?aB ?aS ?aL ?_;(case aP=>exact rfl);(case aB=>exact (by repeat (first|(with_reducible first|exact HB.out|apply below_alloc|apply pw_below_drewN|apply below_drew1)|exact HB.out)));(case aF=>exact (fun _ _=>trivial));(case aO=>exact (by (with_reducible repeat (first|apply Kd.R_alloc|apply Kd.R_drewN|apply Kd.R_drew));exact HO_3.out));(case aS=>exact (below_size (by repeat (first|(with_reducible first|exact HB.out|apply below_alloc|apply pw_below_drewN|apply below_drew1)|exact HB.out))));(case aL=>have:=LMc7.out;omega);intro v169 w8 ho hb hg hat;rw [← Ny168.out] at ho;have n0_:=Aside0.mk (hb);have n1_:=Aside0.mk (ho);clear HB;clear HO_3;have HB:=n0_;have HO170:=n1_;clear n0_ n1_;clear ho hb hg hat))
                go_roundg k1
                case measure=>have:=HK1.out;omega
                case rel=>exact ⟨(y168),(wrap64 (x4_1+2)),(by first|rfl|(simp;done)|(simp [*];done)),H',⟨by have:=HK1.out;omega⟩,⟨by (with_reducible repeat (first|apply Kd.R_alloc|apply Kd.R_drewN|apply Kd.R_drew));exact HO170.out⟩,⟨by repeat (first|(with_reducible first|exact HB.out|apply below_alloc|apply pw_below_drewN|apply below_drew1)|exact HB.out)⟩⟩
              · rw [if_neg c7] at H
                exact absurd H (by simp)
            · rw [if_neg c6] at H
              exact absurd H (by simp)
          · rw [if_neg c4] at H
            have c4b0:decide ((wrap64 (x4_1+1))<(l0.length:Int))=false:=decide_eq_false c4
            clear c4
            by_cases c9:x3_1.length<17592186044416
            · rw [if_pos c9] at H
              have LMc9:=Aside0.mk c9
              clear c9
              obtain ⟨y171,hy171⟩:∃ y_:List Int,y_=(x3_1++[IntKind.u64.wrap (rd l0 x4_1)]):=⟨_,rfl⟩
              replace H:(gimbalref90_whole.l0 k1 l0 y171 (wrap64 (x4_1+2)))=some r:=by first|(rw [hy171];with_reducible exact H)|(have H2_:=(Option.bind_some _ _).symm.trans H;rw [hy171];with_reducible exact H2_)|(have H2_:=(Option.bind_some _ _).symm.trans H;with_reducible exact H2_)|with_reducible exact H|(rw [hy171];exact H)|exact H
              have Ny171:=Aside0.mk hy171
              clear hy171
              have H':=Aside0.mk H
              clear H
              have p166:0≤(x4_1:Int):=of_decide_eq_true (by first|(with_reducible assumption)|assumption)
              have q166:x4_1<(l0.length:Int):=of_decide_eq_true (by first|(with_reducible assumption)|assumption)
              obtain ⟨ad166,e166,hx166_0⟩:=Kd.at_int HR0.out x4_1 p166 q166
              cases e166
              replace hx166_0:=(HB.out.cell (World.block_lt_of_cell? w _ hx166_0)).trans hx166_0
              replace p166:=eq_true p166
              replace q166:=eq_true q166
              go_wp2_with (first|((with_reducible refine gate_builtin (b := .append) (xs:=#[.tmp 31,.tmp 33]) rfl ?_);at_builtin;refine Kd.R_append (Kd.int .u64) (w0:=w) w.heap.size rfl (.tmp 31) (.tmp 33) 55 94 (.int .u64 0) 8 rfl Tryz.underlying55 info94 rfl (by decide) (by omega) u3 x3_1 (IntKind.u64.wrap (rd l0 x4_1)) [.int .u64 (IntKind.u64.wrap (rd l0 x4_1))] (fun _=>True) (fun _=>False) rfl rfl ?aP (fun _ hk=>hk.elim) ?aF ?aO ?aB ?aS ?aL ?_;(case aP=>exact rfl);(case aB=>exact (by repeat (first|(with_reducible first|exact HB.out|apply below_alloc|apply pw_below_drewN|apply below_drew1)|exact HB.out)));(case aF=>exact (fun _ _=>trivial));(case aO=>exact (by (with_reducible repeat (first|apply Kd.R_alloc|apply Kd.R_drewN|apply Kd.R_drew));exact HO_3.out));(case aS=>exact (below_size (by repeat (first|(with_reducible first|exact HB.out|apply below_alloc|apply pw_below_drewN|apply below_drew1)|exact HB.out))));(case aL=>have:=LMc9.out;omega);intro v172 w10 ho hb hg hat;rw [← Ny171.out] at ho;have n0_:=Aside0.mk (hb);have n1_:=Aside0.mk (ho);clear HB;clear HO_3;have HB:=n0_;have HO173:=n1_;clear n0_ n1_;clear ho hb hg hat))
              go_roundg k1
              case measure=>have:=HK1.out;omega
              case rel=>exact ⟨(y171),(wrap64 (x4_1+2)),(by first|rfl|(simp;done)|(simp [*];done)),H',⟨by have:=HK1.out;omega⟩,⟨by (with_reducible repeat (first|apply Kd.R_alloc|apply Kd.R_drewN|apply Kd.R_drew));exact HO173.out⟩,⟨by repeat (first|(with_reducible first|exact HB.out|apply below_alloc|apply pw_below_drewN|apply below_drew1)|exact HB.out)⟩⟩
            · rw [if_neg c9] at H
              exact absurd H (by simp)
        · rw [if_neg c3] at H
          exact absurd H (by simp)
      · rw [if_neg c2] at H
        have c2b0:decide (x4_1<(l0.length:Int))=false:=decide_eq_false c2
        clear c2
        replace H:=Option.bind_eq_some_iff.mp H
        obtain ⟨t174,A110,H⟩:=H
        replace H:(some t174)=some r:=H
        have A11:=Aside0.mk A110
        clear A110
        obtain rfl:=Option.some.inj H
        obtain ⟨Ao12,co12,eo12⟩:=Kd.R_slice HO_3.out
        subst eo12
        go_wp2_with (first|((with_reducible refine gate_callee (f:=94) rfl ?_);refine goesL_ (some 36) rfl rfl Tryz.func94 (by kernel_rfl) rfl #[.slice Ao12 x3_1.length co12] rfl (by (try simp only [List.map_toArray,List.map_cons,List.map_nil]);first|done|rfl|(simp only [List.length_drop,List.length_take];rfl)) ?_;(with_reducible refine (gimbalref90_NTrim.calls k1 (fun k_=>some k_=(.slice Ao12 x3_1.length co12:Value).ownBlock) (.slice Ao12 x3_1.length co12) x3_1 t174 w _ ?side1 ?side2 A11.out).mono ?_);(case side1=>repeat (first|(with_reducible first|exact HB.out|apply below_alloc|apply pw_below_drewN|apply below_drew1)|exact HB.out));(case side2=>exact Kd.R_tight rfl HO_3.out);rintro e w13 ⟨v175,rfl,ho0,hb,hkp⟩;refine ⟨_,rfl,?_⟩;have n0_:=Aside0.mk (Kd.R_mono (ok':=fun k_=>True) ho0 (fun k_ hk_=>trivial));have n1_:=Aside0.mk (hb);clear HB;clear HO_3;have HO176:=n0_;have HB:=n1_;clear n0_ n1_;(try clear hb);(try clear hkp);(try clear ho0)))
        go_ret
        exact ⟨_,by first|rfl|(simp [errW_none,errW_some]<;>rfl)|(simp [*,errW_none,errW_some]<;>rfl),by (with_reducible repeat (first|apply Kd.R_alloc|apply Kd.R_drewN|apply Kd.R_drew));exact HO176.out,by repeat (first|(with_reducible first|exact HB.out|apply below_alloc|apply pw_below_drewN|apply below_drew1)|exact HB.out)⟩
end Go.Proofs.YtmnkaldemjdcoaaGreat.QN90
end
section
namespace Go.Proofs.YtmnkaldemjdcoaaGreat.QN90
open RowKit YtmnkaldemjdcoaaGreatW.PrintWords YtmnkaldemjdcoaaGreatW.PrintLast YtmnkaldemjdcoaaGreatW.PrintMore
attribute [local go_sem] max2_int min2_int max_two min_two max_three min_three max_four min_four   -- for this text's walks alone
set_option linter.unusedVariables false
set_option linter.unusedSimpArgs false
def gimbalref90_NLess.l0:Nat→List Int→List Int→List Int→Int→Int→Option (List Int)
  | 0,_,_,_,_,_=>none
  | k+1,x5,x6,x7,x8,x9=>if x9<(x5.length:Int) then (if 0≤x9 then (if x9<(x6.length:Int) then (if x7.length<35184372088832 then (gimbalref90_NLess.l0 k x5 x6 (x7++[(IntKind.u64.wrap (wrap64 ((wrap64 (x8+(wrap64 (rd x5 x9))))-(wrap64 (rd x6 x9)))))%4294967296]) ((wrap64 ((wrap64 (x8+(wrap64 (rd x5 x9))))-(wrap64 (rd x6 x9))))/4294967296) (wrap64 (x9+1))) else (none)) else (if x7.length<35184372088832 then (gimbalref90_NLess.l0 k x5 x6 (x7++[(IntKind.u64.wrap (wrap64 (x8+(wrap64 (rd x5 x9)))))%4294967296]) ((wrap64 (x8+(wrap64 (rd x5 x9))))/4294967296) (wrap64 (x9+1))) else (none))) else (none)) else ((gimbalref90_cut.f k x7).bind fun t191=>((gimbalref90_whole.f k t191).bind fun t194=>(some t194)))
def gimbalref90_NLess.f (k:Nat) (l0:List Int) (l1:List Int):Option (List Int):=(gimbalref90_halves.f k l0).bind fun t177=>((gimbalref90_halves.f k l1).bind fun t180=>(gimbalref90_NLess.l0 k t177 t180 ([]:List Int) 0 0))
theorem gimbalref90_NLess.mono_l:∀ k,(∀ y0 y1 y2 y3 y4,LeO (gimbalref90_NLess.l0 k y0 y1 y2 y3 y4) (gimbalref90_NLess.l0 (k+1) y0 y1 y2 y3 y4))
  | 0=>fun _ _ _ _ _ r h=>by simp [gimbalref90_NLess.l0] at h
  | k + 1 => by
    have ih0:=gimbalref90_NLess.mono_l k
    · intro y0 y1 y2 y3 y4
      unfold gimbalref90_NLess.l0
      repeat' first
      | (with_reducible exact ih0 _ _ _ _ _)
      | (with_reducible exact gimbalref90_cut.mono _ _)
      | (with_reducible exact gimbalref90_halves.mono _ _)
      | (with_reducible exact gimbalref90_whole.mono _ _)
      | (with_reducible exact LeO.refl _)
      | (with_reducible exact LeO.none _)
      | (with_reducible refine LeO.ite ?_ ?_)
      | (with_reducible refine LeO.bind ?_ (fun _=>?_))
      | exact ih0 _ _ _ _ _
      | exact gimbalref90_cut.mono _ _
      | exact gimbalref90_halves.mono _ _
      | exact gimbalref90_whole.mono _ _
      | exact LeO.none _
      | refine LeO.ite ?_ ?_
      | refine LeO.bind ?_ (fun _=>?_)
theorem gimbalref90_NLess.mono:∀ a0 a1 k,LeO (gimbalref90_NLess.f k a0 a1) (gimbalref90_NLess.f (k+1) a0 a1):=by
  intro a0 a1 k
  have ih0:=gimbalref90_NLess.mono_l k
  unfold gimbalref90_NLess.f
  repeat' first
      | (with_reducible exact ih0 _ _ _ _ _)
      | (with_reducible exact gimbalref90_cut.mono _ _)
      | (with_reducible exact gimbalref90_halves.mono _ _)
      | (with_reducible exact gimbalref90_whole.mono _ _)
      | (with_reducible exact LeO.refl _)
      | (with_reducible exact LeO.none _)
      | (with_reducible refine LeO.ite ?_ ?_)
      | (with_reducible refine LeO.bind ?_ (fun _=>?_))
      | exact ih0 _ _ _ _ _
      | exact gimbalref90_cut.mono _ _
      | exact gimbalref90_halves.mono _ _
      | exact gimbalref90_whole.mono _ _
      | exact LeO.none _
      | refine LeO.ite ?_ ?_
      | refine LeO.bind ?_ (fun _=>?_)
set_option maxHeartbeats 8000000 in
set_option maxRecDepth 100000 in
theorem gimbalref90_NLess.calls (k:Nat) (A0:Option Addr) (c0:Nat) (l0:List Int) (A1:Option Addr) (c1:Nat) (l1:List Int) (r:List Int) (w:World) (hr0:Kd.C (Kd.int .u64) w A0 l0.length l0) (hc0:l0.length≤c0) (hr1:Kd.C (Kd.int .u64) w A1 l1.length l1) (hc1:l1.length≤c1) (h:gimbalref90_NLess.f k l0 l1=some r) :
    Calls Tryz.prog 97 #[.slice A0 l0.length c0,.slice A1 l1.length c1] w fun e w'=>∃ v0_:Value,e = .returned (v0_)∧Kd.R (Kd.int .u64) 94 w' w.heap.size (fun _=>True) v0_ r∧Below w.heap.size w w':=by
  have HR0:=Aside0.mk hr0
  have HC0:=Aside0.mk hc0
  clear hr0 hc0
  have HR1:=Aside0.mk hr1
  have HC1:=Aside0.mk hc1
  clear hr1 hc1
  have HB:=Aside0.mk (Below.refl w.heap.size w)
  have H:((gimbalref90_halves.f k l0).bind fun t177=>((gimbalref90_halves.f k l1).bind fun t180=>(gimbalref90_NLess.l0 k t177 t180 ([]:List Int) 0 0)))=some r:=h
  clear h
  replace H:=Option.bind_eq_some_iff.mp H
  obtain ⟨t177,A30,H⟩:=H
  replace H:((gimbalref90_halves.f k l1).bind fun t180=>(gimbalref90_NLess.l0 k t177 t180 ([]:List Int) 0 0))=some r:=H
  have A3:=Aside0.mk A30
  clear A30
  replace H:=Option.bind_eq_some_iff.mp H
  obtain ⟨t180,A40,H⟩:=H
  replace H:(gimbalref90_NLess.l0 k t177 t180 ([]:List Int) 0 0)=some r:=H
  have A4:=Aside0.mk A40
  clear A40
  have H':=Aside0.mk H
  clear H
  go_enter Tryz.func97,Tryz.ntmps97
  go_wp2_with (first|((with_reducible refine gate_callee (f:=115) rfl ?_);refine goesL_ (some 11) rfl rfl Tryz.func115 (by kernel_rfl) rfl #[.slice A0 l0.length c0] rfl (by (try simp only [List.map_toArray,List.map_cons,List.map_nil]);first|done|rfl|(simp only [List.length_drop,List.length_take];rfl)) ?_;(with_reducible refine (gimbalref90_halves.calls k _ _ l0 t177 _ ?side1 ?side2 A3.out).mono ?_);(case side1=>repeat (first|exact HR0.out|(with_reducible refine Kd.C_alloc ?_ _)|(with_reducible refine Kd.C_drewN ?_ _)|(with_reducible refine Kd.C_drew ?_)));(case side2=>exact HC0.out);rintro e w5 ⟨v178,rfl,ho0,hb⟩;refine ⟨_,rfl,?_⟩;have n0_:=Aside0.mk (Kd.R_lower ho0 (below_size (by repeat (first|(with_reducible first|exact HB.out|apply below_alloc|apply pw_below_drewN|apply below_drew1)|exact HB.out))));have n1_:=Aside0.mk (below_step (by repeat (first|(with_reducible first|exact HB.out|apply below_alloc|apply pw_below_drewN|apply below_drew1)|exact HB.out)) hb);clear HB;have HO179:=n0_;have HB:=n1_;clear n0_ n1_;(try clear hb);(try clear hb2);(try clear hk);(try clear hi);(try clear ho0))|((with_reducible refine gate_callee (f:=115) rfl ?_);refine goesL_ (some 13) rfl rfl Tryz.func115 (by kernel_rfl) rfl #[.slice A1 l1.length c1] rfl (by (try simp only [List.map_toArray,List.map_cons,List.map_nil]);first|done|rfl|(simp only [List.length_drop,List.length_take];rfl)) ?_;(with_reducible refine (gimbalref90_halves.calls k _ _ l1 t180 _ ?side1 ?side2 A4.out).mono ?_);(case side1=>repeat (first|exact (Kd.C_below HR1.out HB.out)|(with_reducible refine Kd.C_alloc ?_ _)|(with_reducible refine Kd.C_drewN ?_ _)|(with_reducible refine Kd.C_drew ?_)));(case side2=>exact HC1.out);rintro e w6 ⟨v181,rfl,ho0,hb⟩;refine ⟨_,rfl,?_⟩;have n0_:=Aside0.mk (Kd.R_elder' (by (with_reducible repeat (first|apply Kd.R_alloc|apply Kd.R_drewN|apply Kd.R_drew));exact HO179.out) (Kd.R_base ho0) hb);have n1_:=Aside0.mk (Kd.R_lower (Kd.R_new' ho0 (Kd.R_lt (by (with_reducible repeat (first|apply Kd.R_alloc|apply Kd.R_drewN|apply Kd.R_drew));exact HO179.out))) (below_size (by repeat (first|(with_reducible first|exact HB.out|apply below_alloc|apply pw_below_drewN|apply below_drew1)|exact HB.out))));have n2_:=Aside0.mk (below_step (by repeat (first|(with_reducible first|exact HB.out|apply below_alloc|apply pw_below_drewN|apply below_drew1)|exact HB.out)) hb);clear HO179;clear HB;have HO179:=n0_;have HO182:=n1_;have HB:=n2_;clear n0_ n1_ n2_;(try clear hb);(try clear hb2);(try clear hk);(try clear hi);(try clear ho0)))
  go_loopg [7,8,9] k (fun kq v7 v8 v9 w'=>∃ (x7_1:List Int) (x8_1:Int) (x9_1:Int),v8 = .int .i64 x8_1∧v9 = .int .i64 x9_1∧Aside0 (gimbalref90_NLess.l0 kq t177 t180 x7_1 x8_1 x9_1=some r)∧Aside0 (kq≤k)∧Aside0 (Kd.R (Kd.int .u32) 130 w' w.heap.size (fun k_=>some k_≠(v181:Value).ownBlock∧some k_≠(v7:Value).ownBlock) v178 t177)∧Aside0 (Kd.R (Kd.int .u32) 130 w' w.heap.size (fun k_=>some k_≠(v178:Value).ownBlock∧some k_≠(v7:Value).ownBlock) v181 t180)∧Aside0 (Kd.R (Kd.int .u32) 130 w' w.heap.size (fun k_=>some k_≠(v178:Value).ownBlock∧some k_≠(v181:Value).ownBlock) v7 x7_1)∧Aside0 (Below w.heap.size w w'))
  case atStart=>exact ⟨(([]:List Int)),(0),(0),(by first|rfl|(simp;done)|(simp [*];done)),(by first|rfl|(simp;done)|(simp [*];done)),H',⟨Nat.le_refl _⟩,⟨by (with_reducible repeat (first|apply Kd.R_alloc|apply Kd.R_drewN|apply Kd.R_drew));exact Kd.R_mono HO179.out (fun _ hk=>⟨hk.2,(by simp [Value.ownBlock])⟩)⟩,⟨by (with_reducible repeat (first|apply Kd.R_alloc|apply Kd.R_drewN|apply Kd.R_drew));exact Kd.R_mono HO182.out (fun _ hk=>⟨hk.2,(by simp [Value.ownBlock])⟩)⟩,⟨by first|exact Kd.R_nil _ _ _ _ _|exact Kd.N_nil _ _ _ _ _|exact Kd.V_nil _ _ _ _ _|exact Kd.Q_nil _ _ _ _ _|exact Kd.S_nil _ _ _ _ _⟩,⟨by repeat (first|(with_reducible first|exact HB.out|apply below_alloc|apply pw_below_drewN|apply below_drew1)|exact HB.out)⟩⟩
  case round =>
    clear H'
    try clear c1
    try clear p2
    obtain ⟨x7_1,x8_1,x9_1,rfl,rfl,HA,HK1,HO_5,HO_6,HO_7,HB⟩:=hrel
    cases gk with
    | zero=>exact absurd HA.out (by simp [gimbalref90_NLess.l0])
    | succ k1 =>
      have H:=HA.out
      clear HA
      simp only [gimbalref90_NLess.l0] at H
      by_cases c7:x9_1<(t177.length:Int)
      · rw [if_pos c7] at H
        have c7b0:decide (x9_1<(t177.length:Int))=true:=decide_eq_true c7
        clear c7
        by_cases c8:0≤x9_1
        · rw [if_pos c8] at H
          have c8b0:decide (0≤x9_1)=true:=decide_eq_true c8
          clear c8
          by_cases c9:x9_1<(t180.length:Int)
          · rw [if_pos c9] at H
            have c9b0:decide (x9_1<(t180.length:Int))=true:=decide_eq_true c9
            clear c9
            by_cases c10:x7_1.length<35184372088832
            · rw [if_pos c10] at H
              have LMc10:=Aside0.mk c10
              clear c10
              obtain ⟨y185,hy185⟩:∃ y_:List Int,y_=(x7_1++[(IntKind.u64.wrap (wrap64 ((wrap64 (x8_1+(wrap64 (rd t177 x9_1))))-(wrap64 (rd t180 x9_1)))))%4294967296]):=⟨_,rfl⟩
              replace H:(gimbalref90_NLess.l0 k1 t177 t180 y185 ((wrap64 ((wrap64 (x8_1+(wrap64 (rd t177 x9_1))))-(wrap64 (rd t180 x9_1))))/4294967296) (wrap64 (x9_1+1)))=some r:=by first|(rw [hy185];with_reducible exact H)|(have H2_:=(Option.bind_some _ _).symm.trans H;rw [hy185];with_reducible exact H2_)|(have H2_:=(Option.bind_some _ _).symm.trans H;with_reducible exact H2_)|with_reducible exact H|(rw [hy185];exact H)|exact H
              have Ny185:=Aside0.mk hy185
              clear hy185
              have H':=Aside0.mk H
              clear H
              obtain ⟨Ao11,co11,eo11⟩:=Kd.R_slice HO_5.out
              subst eo11
              have p183:0≤(x9_1:Int):=of_decide_eq_true (by first|(with_reducible assumption)|assumption)
              have q183:x9_1<(t177.length:Int):=of_decide_eq_true (by first|(with_reducible assumption)|assumption)
              obtain ⟨ad183,e183,hx183_0⟩:=Kd.at_int (Kd.R_reads' HO_5.out).2.2 x9_1 p183 q183
              cases e183
              replace p183:=eq_true p183
              replace q183:=eq_true q183
              obtain ⟨Ao12,co12,eo12⟩:=Kd.R_slice HO_6.out
              subst eo12
              have p184:0≤(x9_1:Int):=of_decide_eq_true (by first|(with_reducible assumption)|assumption)
              have q184:x9_1<(t180.length:Int):=of_decide_eq_true (by first|(with_reducible assumption)|assumption)
              obtain ⟨ad184,e184,hx184_0⟩:=Kd.at_int (Kd.R_reads' HO_6.out).2.2 x9_1 p184 q184
              cases e184
              replace p184:=eq_true p184
              replace q184:=eq_true q184
              go_wp2_with (first|((with_reducible refine gate_builtin (b := .append) (xs:=#[.tmp 38,.tmp 42]) rfl ?_);at_builtin;refine Kd.R_append (Kd.int .u32) (w0:=w) w.heap.size rfl (.tmp 38) (.tmp 42) 128 130 (.int .u32 0) 4 rfl Tryz.underlying128 info130 rfl (by decide) (by omega) u7 x7_1 ((IntKind.u64.wrap (wrap64 ((wrap64 (x8_1+(wrap64 (rd t177 x9_1))))-(wrap64 (rd t180 x9_1)))))%4294967296) [.int .u32 ((IntKind.u64.wrap (wrap64 ((wrap64 (x8_1+(wrap64 (rd t177 x9_1))))-(wrap64 (rd t180 x9_1)))))%4294967296)] (fun k_=>some k_≠(.slice (some ad183) t177.length co11:Value).ownBlock∧some k_≠(.slice (some ad184) t180.length co12:Value).ownBlock) (fun _=>False) rfl rfl ?aP (fun _ hk=>hk.elim) ?aF ?aO ?aB ?aS ?aL ?_;(case aP=>exact rfl);(case aB=>exact (by repeat (first|(with_reducible first|exact HB.out|apply below_alloc|apply pw_below_drewN|apply below_drew1)|exact HB.out)));(case aF=>exact (fun k_ hk=>⟨Kd.fresh' (Kd.R_lt (by (with_reducible repeat (first|apply Kd.R_alloc|apply Kd.R_drewN|apply Kd.R_drew));exact HO_5.out)) k_ hk,Kd.fresh' (Kd.R_lt (by (with_reducible repeat (first|apply Kd.R_alloc|apply Kd.R_drewN|apply Kd.R_drew));exact HO_6.out)) k_ hk⟩));(case aO=>exact (by (with_reducible repeat (first|apply Kd.R_alloc|apply Kd.R_drewN|apply Kd.R_drew));exact HO_7.out));(case aS=>exact (below_size (by repeat (first|(with_reducible first|exact HB.out|apply below_alloc|apply pw_below_drewN|apply below_drew1)|exact HB.out))));(case aL=>have:=LMc10.out;omega);intro v186 w13 ho hb hg hat;rw [← Ny185.out] at ho;have n0_:=Aside0.mk (Kd.R_after (ok:=(fun k_=>some k_≠(.slice (some ad184) t180.length co12:Value).ownBlock)) (by (with_reducible repeat (first|apply Kd.R_alloc|apply Kd.R_drewN|apply Kd.R_drew));exact HO_5.out) hg hat);have n1_:=Aside0.mk (Kd.R_after (ok:=(fun k_=>some k_≠(.slice (some ad183) t177.length co11:Value).ownBlock)) (by (with_reducible repeat (first|apply Kd.R_alloc|apply Kd.R_drewN|apply Kd.R_drew));exact HO_6.out) hg hat);have n2_:=Aside0.mk (hb);have n3_:=Aside0.mk (ho);clear HO_5;clear HO_6;clear HB;clear HO_7;have HO_5:=n0_;have HO_6:=n1_;have HB:=n2_;have HO187:=n3_;clear n0_ n1_ n2_ n3_;clear ho hb hg hat))
              go_roundg k1
              case measure=>have:=HK1.out;omega
              case rel=>exact ⟨(y185),((wrap64 ((wrap64 (x8_1+(wrap64 (rd t177 x9_1))))-(wrap64 (rd t180 x9_1))))/4294967296),(wrap64 (x9_1+1)),(by first|rfl|(simp;done)|(simp [*];done)),(by first|rfl|(simp;done)|(simp [*];done)),H',⟨by have:=HK1.out;omega⟩,⟨by (with_reducible repeat (first|apply Kd.R_alloc|apply Kd.R_drewN|apply Kd.R_drew));exact HO_5.out⟩,⟨by (with_reducible repeat (first|apply Kd.R_alloc|apply Kd.R_drewN|apply Kd.R_drew));exact HO_6.out⟩,⟨by (with_reducible repeat (first|apply Kd.R_alloc|apply Kd.R_drewN|apply Kd.R_drew));exact HO187.out⟩,⟨by repeat (first|(with_reducible first|exact HB.out|apply below_alloc|apply pw_below_drewN|apply below_drew1)|exact HB.out)⟩⟩
            · rw [if_neg c10] at H
              exact absurd H (by simp)
          · rw [if_neg c9] at H
            have c9b0:decide (x9_1<(t180.length:Int))=false:=decide_eq_false c9
            clear c9
            by_cases c14:x7_1.length<35184372088832
            · rw [if_pos c14] at H
              have LMc14:=Aside0.mk c14
              clear c14
              obtain ⟨y188,hy188⟩:∃ y_:List Int,y_=(x7_1++[(IntKind.u64.wrap (wrap64 (x8_1+(wrap64 (rd t177 x9_1)))))%4294967296]):=⟨_,rfl⟩
              replace H:(gimbalref90_NLess.l0 k1 t177 t180 y188 ((wrap64 (x8_1+(wrap64 (rd t177 x9_1))))/4294967296) (wrap64 (x9_1+1)))=some r:=by first|(rw [hy188];with_reducible exact H)|(have H2_:=(Option.bind_some _ _).symm.trans H;rw [hy188];with_reducible exact H2_)|(have H2_:=(Option.bind_some _ _).symm.trans H;with_reducible exact H2_)|with_reducible exact H|(rw [hy188];exact H)|exact H
              have Ny188:=Aside0.mk hy188
              clear hy188
              have H':=Aside0.mk H
              clear H
              obtain ⟨Ao15,co15,eo15⟩:=Kd.R_slice HO_5.out
              subst eo15
              have p183:0≤(x9_1:Int):=of_decide_eq_true (by first|(with_reducible assumption)|assumption)
              have q183:x9_1<(t177.length:Int):=of_decide_eq_true (by first|(with_reducible assumption)|assumption)
              obtain ⟨ad183,e183,hx183_0⟩:=Kd.at_int (Kd.R_reads' HO_5.out).2.2 x9_1 p183 q183
              cases e183
              replace p183:=eq_true p183
              replace q183:=eq_true q183
              obtain ⟨Ao16,co16,eo16⟩:=Kd.R_slice HO_6.out
              subst eo16
              go_wp2_with (first|((with_reducible refine gate_builtin (b := .append) (xs:=#[.tmp 38,.tmp 42]) rfl ?_);at_builtin;refine Kd.R_append (Kd.int .u32) (w0:=w) w.heap.size rfl (.tmp 38) (.tmp 42) 128 130 (.int .u32 0) 4 rfl Tryz.underlying128 info130 rfl (by decide) (by omega) u7 x7_1 ((IntKind.u64.wrap (wrap64 (x8_1+(wrap64 (rd t177 x9_1)))))%4294967296) [.int .u32 ((IntKind.u64.wrap (wrap64 (x8_1+(wrap64 (rd t177 x9_1)))))%4294967296)] (fun k_=>some k_≠(.slice (some ad183) t177.length co15:Value).ownBlock∧some k_≠(.slice Ao16 t180.length co16:Value).ownBlock) (fun _=>False) rfl rfl ?aP (fun _ hk=>hk.elim) ?aF ?aO ?aB ?aS ?aL ?_;(case aP=>exact rfl);(case aB=>exact (by repeat (first|(with_reducible first|exact HB.out|apply below_alloc|apply pw_below_drewN|apply below_drew1)|exact HB.out)));(case aF=>exact (fun k_ hk=>⟨Kd.fresh' (Kd.R_lt (by (with_reducible repeat (first|apply Kd.R_alloc|apply Kd.R_drewN|apply Kd.R_drew));exact HO_5.out)) k_ hk,Kd.fresh' (Kd.R_lt (by (with_reducible repeat (first|apply Kd.R_alloc|apply Kd.R_drewN|apply Kd.R_drew));exact HO_6.out)) k_ hk⟩));(case aO=>exact (by (with_reducible repeat (first|apply Kd.R_alloc|apply Kd.R_drewN|apply Kd.R_drew));exact HO_7.out));(case aS=>exact (below_size (by repeat (first|(with_reducible first|exact HB.out|apply below_alloc|apply pw_below_drewN|apply below_drew1)|exact HB.out))));(case aL=>have:=LMc14.out;omega);intro v189 w17 ho hb hg hat;rw [← Ny188.out] at ho;have n0_:=Aside0.mk (Kd.R_after (ok:=(fun k_=>some k_≠(.slice Ao16 t180.length co16:Value).ownBlock)) (by (with_reducible repeat (first|apply Kd.R_alloc|apply Kd.R_drewN|apply Kd.R_drew));exact HO_5.out) hg hat);have n1_:=Aside0.mk (Kd.R_after (ok:=(fun k_=>some k_≠(.slice (some ad183) t177.length co15:Value).ownBlock)) (by (with_reducible repeat (first|apply Kd.R_alloc|apply Kd.R_drewN|apply Kd.R_drew));exact HO_6.out) hg hat);have n2_:=Aside0.mk (hb);have n3_:=Aside0.mk (ho);clear HO_5;clear HO_6;clear HB;clear HO_7;have HO_5:=n0_;have HO_6:=n1_;have HB:=n2_;have HO190:=n3_;clear n0_ n1_ n2_ n3_;clear ho hb hg hat))
              go_roundg k1
              case measure=>have:=HK1.out;omega
              case rel=>exact ⟨(y188),((wrap64 (x8_1+(wrap64 (rd t177 x9_1))))/4294967296),(wrap64 (x9_1+1)),(by first|rfl|(simp;done)|(simp [*];done)),(by first|rfl|(simp;done)|(simp [*];done)),H',⟨by have:=HK1.out;omega⟩,⟨by (with_reducible repeat (first|apply Kd.R_alloc|apply Kd.R_drewN|apply Kd.R_drew));exact HO_5.out⟩,⟨by (with_reducible repeat (first|apply Kd.R_alloc|apply Kd.R_drewN|apply Kd.R_drew));exact HO_6.out⟩,⟨by (with_reducible repeat (first|apply Kd.R_alloc|apply Kd.R_drewN|apply Kd.R_drew));exact HO190.out⟩,⟨by repeat (first|(with_reducible first|exact HB.out|apply below_alloc|apply pw_below_drewN|apply below_drew1)|exact HB.out)⟩⟩
            · rw [if_neg c14] at H
              exact absurd H (by simp)
        · rw [if_neg c8] at H
          exact absurd H (by simp)
      · rw [if_neg c7] at H
        have c7b0:decide (x9_1<(t177.length:Int))=false:=decide_eq_false c7
        clear c7
        replace H:=Option.bind_eq_some_iff.mp H
        obtain ⟨t191,A180,H⟩:=H
        replace H:((gimbalref90_whole.f k1 t191).bind fun t194=>(some t194))=some r:=H
        have A18:=Aside0.mk A180
        clear A180
        replace H:=Option.bind_eq_some_iff.mp H
        obtain ⟨t194,A190,H⟩:=H
        replace H:(some t194)=some r:=H
        have A19:=Aside0.mk A190
        clear A190
        obtain rfl:=Option.some.inj H
        obtain ⟨Ao20,co20,eo20⟩:=Kd.R_slice HO_5.out
        subst eo20
        obtain ⟨Ao21,co21,eo21⟩:=Kd.R_slice HO_7.out
        subst eo21
        go_wp2_with (first|((with_reducible refine gate_callee (f:=120) rfl ?_);refine goesL_ (some 47) rfl rfl Tryz.func120 (by kernel_rfl) rfl #[.slice Ao21 x7_1.length co21] rfl (by (try simp only [List.map_toArray,List.map_cons,List.map_nil]);first|done|rfl|(simp only [List.length_drop,List.length_take];rfl)) ?_;(with_reducible refine (gimbalref90_cut.calls k1 (fun k_=>some k_=(.slice Ao21 x7_1.length co21:Value).ownBlock) (.slice Ao21 x7_1.length co21) x7_1 t191 w _ ?side1 ?side2 A18.out).mono ?_);(case side1=>repeat (first|(with_reducible first|exact HB.out|apply below_alloc|apply pw_below_drewN|apply below_drew1)|exact HB.out));(case side2=>exact Kd.R_tight rfl HO_7.out);rintro e w22 ⟨v192,rfl,ho0,hb,hkp⟩;refine ⟨_,rfl,?_⟩;have n0_:=Aside0.mk (Kd.R_mono (ok':=fun k_=>some k_≠(v181:Value).ownBlock∧some k_≠(v192:Value).ownBlock) (Kd.R_keptB (HO_5.out) hkp (fun k_ hk_ hs_=>(hk_.2) hs_)) (fun k_ hk_=>⟨hk_.1.1,fun e_=>Or.elim (ho0.1 k_ e_.symm) (fun hs_=>hk_.2.1 hs_) (fun hn_=>Nat.not_le.2 hk_.2.2 hn_)⟩));have n1_:=Aside0.mk (Kd.R_mono (ok':=fun k_=>some k_≠(.slice Ao20 t177.length co20:Value).ownBlock∧some k_≠(v192:Value).ownBlock) (Kd.R_keptB (HO_6.out) hkp (fun k_ hk_ hs_=>(hk_.2) hs_)) (fun k_ hk_=>⟨hk_.1.1,fun e_=>Or.elim (ho0.1 k_ e_.symm) (fun hs_=>hk_.2.1 hs_) (fun hn_=>Nat.not_le.2 hk_.2.2 hn_)⟩));have n2_:=Aside0.mk (Kd.R_mono (ok':=fun k_=>some k_≠(.slice Ao20 t177.length co20:Value).ownBlock∧some k_≠(v181:Value).ownBlock) ho0 (fun k_ hk_=>⟨Or.elim hk_ (fun hs_=>fun e_=>(((HO_5.out).1 k_ e_.symm).2) hs_) (fun hn_=>(Kd.fresh' (Kd.R_lt (by (with_reducible repeat (first|apply Kd.R_alloc|apply Kd.R_drewN|apply Kd.R_drew));exact HO_5.out)) k_ hn_)),Or.elim hk_ (fun hs_=>fun e_=>(((HO_6.out).1 k_ e_.symm).2) hs_) (fun hn_=>(Kd.fresh' (Kd.R_lt (by (with_reducible repeat (first|apply Kd.R_alloc|apply Kd.R_drewN|apply Kd.R_drew));exact HO_6.out)) k_ hn_))⟩));have n3_:=Aside0.mk (hb);clear HO_5;clear HO_6;clear HB;clear HO_7;have HO_5:=n0_;have HO_6:=n1_;have HO193:=n2_;have HB:=n3_;clear n0_ n1_ n2_ n3_;(try clear hb);(try clear hkp);(try clear ho0);obtain ⟨Ao23,co23,eo23⟩:=Kd.R_slice HO193.out;subst eo23)|((with_reducible refine gate_callee (f:=117) rfl ?_);refine goesL_ (some 48) rfl rfl Tryz.func117 (by kernel_rfl) rfl #[.slice Ao23 t191.length co23] rfl (by (try simp only [List.map_toArray,List.map_cons,List.map_nil]);first|done|rfl|(simp only [List.length_drop,List.length_take];rfl)) ?_;(with_reducible refine (gimbalref90_whole.calls k1 _ _ t191 t194 _ ?side1 ?side2 A19.out).mono ?_);(case side1=>repeat (first|exact (Kd.R_reads' HO193.out).2.2|(with_reducible refine Kd.C_alloc ?_ _)|(with_reducible refine Kd.C_drewN ?_ _)|(with_reducible refine Kd.C_drew ?_)));(case side2=>exact (Kd.R_reads' HO193.out).2.1);rintro e w24 ⟨v195,rfl,ho0,hb⟩;refine ⟨_,rfl,?_⟩;have n0_:=Aside0.mk (Kd.R_below (by (with_reducible repeat (first|apply Kd.R_alloc|apply Kd.R_drewN|apply Kd.R_drew));exact HO_5.out) hb);have n1_:=Aside0.mk (Kd.R_below (by (with_reducible repeat (first|apply Kd.R_alloc|apply Kd.R_drewN|apply Kd.R_drew));exact HO_6.out) hb);have n2_:=Aside0.mk (Kd.R_below (by (with_reducible repeat (first|apply Kd.R_alloc|apply Kd.R_drewN|apply Kd.R_drew));exact HO193.out) hb);have n3_:=Aside0.mk (Kd.R_lower ho0 (below_size (by repeat (first|(with_reducible first|exact HB.out|apply below_alloc|apply pw_below_drewN|apply below_drew1)|exact HB.out))));have n4_:=Aside0.mk (below_step (by repeat (first|(with_reducible first|exact HB.out|apply below_alloc|apply pw_below_drewN|apply below_drew1)|exact HB.out)) hb);clear HO_5;clear HO_6;clear HO193;clear HB;have HO_5:=n0_;have HO_6:=n1_;have HO193:=n2_;have HO196:=n3_;have HB:=n4_;clear n0_ n1_ n2_ n3_ n4_;(try clear hb);(try clear hb2);(try clear hk);(try clear hi);(try clear ho0)))
        go_ret
        exact ⟨_,by first|rfl|(simp [errW_none,errW_some]<;>rfl)|(simp [*,errW_none,errW_some]<;>rfl),by (with_reducible repeat (first|apply Kd.R_alloc|apply Kd.R_drewN|apply Kd.R_drew));exact HO196.out,by repeat (first|(with_reducible first|exact HB.out|apply below_alloc|apply pw_below_drewN|apply below_drew1)|exact HB.out)⟩
def gimbalref90_short.l0:Nat→List Int→Int→List Int→Int→Int→Option (List Int × Int)
  | 0,_,_,_,_,_=>none
  | k+1,x0,x1,x6,x7,x8=>if x8≥0 then (if 0≤x8 then (if x8<(x0.length:Int) then (if (IntKind.u64.wrap (x1))=0 then (none) else (if x8<(x6.length:Int) then (gimbalref90_short.l0 k x0 x1 (x6.set (x8:Int).toNat ((IntKind.u64.wrap (Int.tdiv (Go.bits .or .u64 (IntKind.u64.wrap (x7*4294967296)) (IntKind.u64.wrap (rd x0 x8))) (IntKind.u64.wrap (x1))))%4294967296)) (Int.tmod (Go.bits .or .u64 (IntKind.u64.wrap (x7*4294967296)) (IntKind.u64.wrap (rd x0 x8))) (IntKind.u64.wrap (x1))) (wrap64 (x8-1))) else (none))) else (none)) else (none)) else ((gimbalref90_cut.f k x6).bind fun t202=>(some (t202,(x7)%4294967296)))
def gimbalref90_short.f (k:Nat) (l0:List Int) (a1:Int):Option (List Int × Int):=if 0≤(l0.length:Int) then (if ((l0.length:Int):Int).toNat≤70368744177664 then (gimbalref90_short.l0 k l0 a1 (List.replicate ((l0.length:Int):Int).toNat 0) 0 (wrap64 ((l0.length:Int)-1))) else (none)) else (none)
theorem gimbalref90_short.mono_l:∀ k,(∀ y0 y1 y2 y3 y4,LeO (gimbalref90_short.l0 k y0 y1 y2 y3 y4) (gimbalref90_short.l0 (k+1) y0 y1 y2 y3 y4))
  | 0=>fun _ _ _ _ _ r h=>by simp [gimbalref90_short.l0] at h
  | k + 1 => by
    have ih0:=gimbalref90_short.mono_l k
    · intro y0 y1 y2 y3 y4
      unfold gimbalref90_short.l0
      repeat' first
      | (with_reducible exact ih0 _ _ _ _ _)
      | (with_reducible exact gimbalref90_cut.mono _ _)
      | (with_reducible exact LeO.refl _)
      | (with_reducible exact LeO.none _)
      | (with_reducible refine LeO.ite ?_ ?_)
      | (with_reducible refine LeO.bind ?_ (fun _=>?_))
      | exact ih0 _ _ _ _ _
      | exact gimbalref90_cut.mono _ _
      | exact LeO.none _
      | refine LeO.ite ?_ ?_
      | refine LeO.bind ?_ (fun _=>?_)
theorem gimbalref90_short.mono:∀ a0 a1 k,LeO (gimbalref90_short.f k a0 a1) (gimbalref90_short.f (k+1) a0 a1):=by
  intro a0 a1 k
  have ih0:=gimbalref90_short.mono_l k
  unfold gimbalref90_short.f
  repeat' first
      | (with_reducible exact ih0 _ _ _ _ _)
      | (with_reducible exact gimbalref90_cut.mono _ _)
      | (with_reducible exact LeO.refl _)
      | (with_reducible exact LeO.none _)
      | (with_reducible refine LeO.ite ?_ ?_)
      | (with_reducible refine LeO.bind ?_ (fun _=>?_))
      | exact ih0 _ _ _ _ _
      | exact gimbalref90_cut.mono _ _
      | exact LeO.none _
      | refine LeO.ite ?_ ?_
      | refine LeO.bind ?_ (fun _=>?_)
set_option maxHeartbeats 8000000 in
set_option maxRecDepth 100000 in
theorem gimbalref90_short.calls (k:Nat) (A0:Option Addr) (c0:Nat) (l0:List Int) (a1:Int) (r1:List Int) (r2:Int) (w:World) (hr0:Kd.C (Kd.int .u32) w A0 l0.length l0) (hc0:l0.length≤c0) (h:gimbalref90_short.f k l0 a1=some (r1,r2)) :
    Calls Tryz.prog 116 #[.slice A0 l0.length c0,.int .u32 a1] w fun e w'=>∃ v0_:Value,e = .returned (.tuple #[v0_,.int .u32 r2])∧Kd.R (Kd.int .u32) 130 w' w.heap.size (fun _=>True) v0_ r1∧Below w.heap.size w w':=by
  have HR0:=Aside0.mk hr0
  have HC0:=Aside0.mk hc0
  clear hr0 hc0
  have HB:=Aside0.mk (Below.refl w.heap.size w)
  have H:(if 0≤(l0.length:Int) then (if ((l0.length:Int):Int).toNat≤70368744177664 then (gimbalref90_short.l0 k l0 a1 (List.replicate ((l0.length:Int):Int).toNat 0) 0 (wrap64 ((l0.length:Int)-1))) else (none)) else (none))=some (r1,r2):=h
  clear h
  by_cases c3:0≤(l0.length:Int)
  · rw [if_pos c3] at H
    have c3b0:=eq_true c3
    have c3b1:decide (0≤(l0.length:Int))=true:=decide_eq_true c3
    clear c3
    by_cases c4:((l0.length:Int):Int).toNat≤70368744177664
    · rw [if_pos c4] at H
      have c4b0:=eq_true c4
      have c4b1:decide (((l0.length:Int):Int).toNat≤70368744177664)=true:=decide_eq_true c4
      clear c4
      obtain ⟨y197,hy197⟩:∃ y_:List Int,y_=(List.replicate ((l0.length:Int):Int).toNat 0):=⟨_,rfl⟩
      replace H:(gimbalref90_short.l0 k l0 a1 y197 0 (wrap64 ((l0.length:Int)-1)))=some (r1,r2):=by first|(rw [hy197];with_reducible exact H)|(have H2_:=(Option.bind_some _ _).symm.trans H;rw [hy197];with_reducible exact H2_)|(have H2_:=(Option.bind_some _ _).symm.trans H;with_reducible exact H2_)|with_reducible exact H|(rw [hy197];exact H)|exact H
      have Ny197:=Aside0.mk hy197
      clear hy197
      have H':=Aside0.mk H
      clear H
      go_enter Tryz.func116,Tryz.ntmps116
      go_wp2_with (first|((with_reducible refine gate_dst (N:=11) rfl ?_);refine Kd.R_make (Kd.int .u32) _ 130 rfl (N:=11) rfl 128 _ _ rfl (l0.length:Int) rfl rfl Tryz.underlying128 (.int .u32 0) 4 info130 rfl (by decide) (by omega) 0 (ok:=fun _=>True) (okp:=fun _=>True) rfl (fun _ hk=>hk) trivial (of_decide_eq_true (by first|(with_reducible assumption)|assumption)) (Nat.le_trans (Nat.mul_le_mul_right _ (of_decide_eq_true (by first|(with_reducible assumption)|assumption):(l0.length:Int).toNat≤70368744177664)) (by omega)) (Below.refl _ _) (Nat.le_refl _) ?_;intro v198 w5 ho6 hb hg_ hnew_;clear hg_ hnew_;(first|rw [← Ny197.out] at ho6|(simp only [Int.reduceToNat] at ho6;rw [← Ny197.out] at ho6));have n0_:=Aside0.mk (Kd.R_lower ho6 (below_size (by repeat (first|(with_reducible first|exact HB.out|apply below_alloc|apply pw_below_drewN|apply below_drew1)|exact HB.out))));have n1_:=Aside0.mk (below_step (by repeat (first|(with_reducible first|exact HB.out|apply below_alloc|apply pw_below_drewN|apply below_drew1)|exact HB.out)) hb);clear HB;have HO199:=n0_;have HB:=n1_;clear n0_ n1_;clear hb ho6))
      go_loopg [7,8] k (fun kq v7 v8 w'=>∃ (x6_1:List Int) (x7_1:Int) (x8_1:Int),v7 = .int .u64 x7_1∧v8 = .int .i64 x8_1∧Aside0 (gimbalref90_short.l0 kq l0 a1 x6_1 x7_1 x8_1=some (r1,r2))∧Aside0 (kq≤k)∧Aside0 (Kd.R (Kd.int .u32) 130 w' w.heap.size (fun _=>True) v198 x6_1)∧Aside0 (Below w.heap.size w w'))
      case atStart=>exact ⟨(y197),(0),(wrap64 ((l0.length:Int)-1)),(by first|rfl|(simp;done)|(simp [*];done)),(by first|rfl|(simp;done)|(simp [*];done)),H',⟨Nat.le_refl _⟩,⟨by (with_reducible repeat (first|apply Kd.R_alloc|apply Kd.R_drewN|apply Kd.R_drew));exact HO199.out⟩,⟨by repeat (first|(with_reducible first|exact HB.out|apply below_alloc|apply pw_below_drewN|apply below_drew1)|exact HB.out)⟩⟩
      case round =>
        clear H'
        try clear c1
        try clear p2
        try clear c3
        try clear c3b0
        try clear c3b1
        try clear c4
        try clear c4b0
        try clear c4b1
        try clear p6
        obtain ⟨x6_1,x7_1,x8_1,rfl,rfl,HA,HK1,HO_6,HB⟩:=hrel
        cases gk with
        | zero=>exact absurd HA.out (by simp [gimbalref90_short.l0])
        | succ k1 =>
          have H:=HA.out
          clear HA
          simp only [gimbalref90_short.l0] at H
          by_cases c7:x8_1≥0
          · rw [if_pos c7] at H
            have c7b0:decide (0≤x8_1)=true:=decide_eq_true c7
            clear c7
            by_cases c8:0≤x8_1
            · rw [if_pos c8] at H
              have c8b0:decide (0≤x8_1)=true:=decide_eq_true c8
              clear c8
              by_cases c9:x8_1<(l0.length:Int)
              · rw [if_pos c9] at H
                have c9b0:decide (x8_1<(l0.length:Int))=true:=decide_eq_true c9
                clear c9
                by_cases c10:(IntKind.u64.wrap (a1))=0
                · rw [if_pos c10] at H
                  exact absurd H (by simp)
                · rw [if_neg c10] at H
                  have c10b0:((IntKind.u64.wrap (a1)) == 0)=false:=beq_eq_false_iff_ne.mpr c10
                  have c10b1:((IntKind.u64.wrap (a1)) != 0)=true:=bne_iff_ne.mpr c10
                  by_cases c11:x8_1<(x6_1.length:Int)
                  · rw [if_pos c11] at H
                    have c11b0:decide (x8_1<(x6_1.length:Int))=true:=decide_eq_true c11
                    clear c11
                    obtain ⟨y201,hy201⟩:∃ y_:List Int,y_=(x6_1.set (x8_1:Int).toNat ((IntKind.u64.wrap (Int.tdiv (Go.bits .or .u64 (IntKind.u64.wrap (x7_1*4294967296)) (IntKind.u64.wrap (rd l0 x8_1))) (IntKind.u64.wrap (a1))))%4294967296)):=⟨_,rfl⟩
                    replace H:(gimbalref90_short.l0 k1 l0 a1 y201 (Int.tmod (Go.bits .or .u64 (IntKind.u64.wrap (x7_1*4294967296)) (IntKind.u64.wrap (rd l0 x8_1))) (IntKind.u64.wrap (a1))) (wrap64 (x8_1-1)))=some (r1,r2):=by first|(rw [hy201];with_reducible exact H)|(have H2_:=(Option.bind_some _ _).symm.trans H;rw [hy201];with_reducible exact H2_)|(have H2_:=(Option.bind_some _ _).symm.trans H;with_reducible exact H2_)|with_reducible exact H|(rw [hy201];exact H)|exact H
                    have Ny201:=Aside0.mk hy201
                    clear hy201
                    have H':=Aside0.mk H
                    clear H
                    have p200:0≤(x8_1:Int):=of_decide_eq_true (by first|(with_reducible assumption)|assumption)
                    have q200:x8_1<(l0.length:Int):=of_decide_eq_true (by first|(with_reducible assumption)|assumption)
                    obtain ⟨ad200,e200,hx200_0⟩:=Kd.at_int HR0.out x8_1 p200 q200
                    cases e200
                    replace hx200_0:=(HB.out.cell (World.block_lt_of_cell? w _ hx200_0)).trans hx200_0
                    replace p200:=eq_true p200
                    replace q200:=eq_true q200
                    have p12:0≤(x8_1:Int):=of_decide_eq_true (by first|(with_reducible assumption)|assumption)
                    have q12:(x8_1:Int)<((x6_1.length:Int):Int):=of_decide_eq_true (by first|(with_reducible assumption)|assumption)
                    obtain ⟨go12,co12,eo12,gb12,gl12,cl12,HG12⟩:=Kd.R_form HO_6.out (by omega)
                    (first|cases eo12|(injection eo12 with ea_ en_ ec_;(first|subst ea_|(injection ea_ with ea_;subst ea_));subst ec_;clear en_))
                    have GB12:=Aside0.mk gb12
                    have GG12:=Aside0.mk HG12
                    clear gb12 gl12 HG12
                    obtain ⟨hx12_0,hf12_0⟩:=Kd.R_celln 0 HO_6.out (x8_1:Int) p12 q12
                    replace p12:=eq_true p12
                    replace q12:=eq_true q12
                    have HP13:=Kd.R_putg HO_6.out (x8_1:Int) ((IntKind.u64.wrap (Int.tdiv (Go.bits .or .u64 (IntKind.u64.wrap (x7_1*4294967296)) (IntKind.u64.wrap (rd l0 x8_1))) (IntKind.u64.wrap (a1))))%4294967296)
                    go_wp2_with (first|((with_reducible refine gate_store (t:=130) (p:=34) rfl ?_);refine store_event (t:=130) (p:=34) (v:=?vo_w14) (w1:=(wr.setCell ⟨go12,(x8_1:Int).toNat,none⟩ (.int .u32 ((IntKind.u64.wrap (Int.tdiv (Go.bits .or .u64 (IntKind.u64.wrap (x7_1*4294967296)) (IntKind.u64.wrap (rd l0 x8_1))) (IntKind.u64.wrap (a1))))%4294967296)))) ?hg ?ho ?hn ?hr ?_;(case ho=>rfl);(case hg=>rfl);(case hn=>rfl);(case hr=>first|(go_simp;done)|(go_simp;rfl));intro w14 hw;have hg:wr.grownBy w14 (some go12):=(by rw [hw];exact HP13.2);have hp_:Kd.R (Kd.int .u32) 130 w14 w.heap.size (fun _=>True) (.slice (some ⟨go12,0,none⟩) x6_1.length co12) y201:=(by rw [hw,Ny201.out];exact HP13.1);clear HP13;have n0_:=Aside0.mk (hp_);have n1_:=Aside0.mk ((by rw [hw];exact below_set (HB.out) GB12.out:Below w.heap.size w w14));clear HO_6;clear HB;have HO_6:=n0_;have HB:=n1_;clear n0_ n1_;clear hg hw hp_))
                    go_roundg k1
                    case measure=>have:=HK1.out;omega
                    case rel=>exact ⟨(y201),(Int.tmod (Go.bits .or .u64 (IntKind.u64.wrap (x7_1*4294967296)) (IntKind.u64.wrap (rd l0 x8_1))) (IntKind.u64.wrap (a1))),(wrap64 (x8_1-1)),(by first|rfl|(simp;done)|(simp [*];done)),(by first|rfl|(simp;done)|(simp [*];done)),H',⟨by have:=HK1.out;omega⟩,⟨by (with_reducible repeat (first|apply Kd.R_alloc|apply Kd.R_drewN|apply Kd.R_drew));exact HO_6.out⟩,⟨by repeat (first|(with_reducible first|exact HB.out|apply below_alloc|apply pw_below_drewN|apply below_drew1)|exact HB.out)⟩⟩
                  · rw [if_neg c11] at H
                    exact absurd H (by simp)
              · rw [if_neg c9] at H
                exact absurd H (by simp)
            · rw [if_neg c8] at H
              exact absurd H (by simp)
          · rw [if_neg c7] at H
            have c7b0:decide (0≤x8_1)=false:=decide_eq_false c7
            clear c7
            replace H:=Option.bind_eq_some_iff.mp H
            obtain ⟨t202,A150,H⟩:=H
            replace H:(some (t202,(x7_1)%4294967296))=some (r1,r2):=H
            have A15:=Aside0.mk A150
            clear A150
            simp only [Option.some.injEq,Prod.mk.injEq] at H
            obtain ⟨rfl,rfl⟩:=H
            obtain ⟨Ao16,co16,eo16⟩:=Kd.R_slice HO_6.out
            subst eo16
            go_wp2_with (first|((with_reducible refine gate_callee (f:=120) rfl ?_);refine goesL_ (some 40) rfl rfl Tryz.func120 (by kernel_rfl) rfl #[.slice Ao16 x6_1.length co16] rfl (by (try simp only [List.map_toArray,List.map_cons,List.map_nil]);first|done|rfl|(simp only [List.length_drop,List.length_take];rfl)) ?_;(with_reducible refine (gimbalref90_cut.calls k1 (fun k_=>some k_=(.slice Ao16 x6_1.length co16:Value).ownBlock) (.slice Ao16 x6_1.length co16) x6_1 t202 w _ ?side1 ?side2 A15.out).mono ?_);(case side1=>repeat (first|(with_reducible first|exact HB.out|apply below_alloc|apply pw_below_drewN|apply below_drew1)|exact HB.out));(case side2=>exact Kd.R_tight rfl HO_6.out);rintro e w17 ⟨v203,rfl,ho0,hb,hkp⟩;refine ⟨_,rfl,?_⟩;have n0_:=Aside0.mk (Kd.R_mono (ok':=fun k_=>True) ho0 (fun k_ hk_=>trivial));have n1_:=Aside0.mk (hb);clear HB;clear HO_6;have HO204:=n0_;have HB:=n1_;clear n0_ n1_;(try clear hb);(try clear hkp);(try clear ho0)))
            go_ret2
            exact ⟨_,by first|rfl|(simp [errW_none,errW_some]<;>rfl)|(simp [*,errW_none,errW_some]<;>rfl),by (with_reducible repeat (first|apply Kd.R_alloc|apply Kd.R_drewN|apply Kd.R_drew));exact HO204.out,by repeat (first|(with_reducible first|exact HB.out|apply below_alloc|apply pw_below_drewN|apply below_drew1)|exact HB.out)⟩
    · rw [if_neg c4] at H
      exact absurd H (by simp)
  · rw [if_neg c3] at H
    exact absurd H (by simp)
end Go.Proofs.YtmnkaldemjdcoaaGreat.QN90
end
section
namespace Go.Proofs.YtmnkaldemjdcoaaGreat.QN90
open RowKit YtmnkaldemjdcoaaGreatW.PrintWords YtmnkaldemjdcoaaGreatW.PrintLast YtmnkaldemjdcoaaGreatW.PrintMore
attribute [local go_sem] max2_int min2_int max_two min_two max_three min_three max_four min_four   -- for this text's walks alone
set_option linter.unusedVariables false
set_option linter.unusedSimpArgs false
def gimbalref90_NDivide.l0:Nat→List Int→List Int→List Int→Int→Option (List Int × List Int)
  | 0,_,_,_,_=>none
  | k+1,x10,x11,x12,x13=>if x13≥0 then ((gimbalref90_NCmp.f k x11 x12).bind fun t233=>(if t233≥0 then ((gimbalref90_NLess.f k x11 x12).bind fun t234=>(if 0≤(wrap64 (Int.tdiv x13 64)) then (if (wrap64 (Int.tdiv x13 64))<(x10.length:Int) then (if 0≤(IntKind.u64.wrap (Int.tmod x13 64)) then ((gimbalref90_Down2.f k x12 1).bind fun t239=>(gimbalref90_NDivide.l0 k (x10.set ((wrap64 (Int.tdiv x13 64)):Int).toNat (Go.bits .or .u64 (rd x10 (wrap64 (Int.tdiv x13 64))) (shl .u64 1 (IntKind.u64.wrap (Int.tmod x13 64))))) t234 t239 (wrap64 (x13-1)))) else (none)) else (none)) else (none))) else ((gimbalref90_Down2.f k x12 1).bind fun t242=>(gimbalref90_NDivide.l0 k x10 x11 t242 (wrap64 (x13-1)))))) else ((gimbalref90_NTrim.f k x10).bind fun t230=>(some (t230,x11)))
def gimbalref90_NDivide.f (k:Nat) (l0:List Int) (l1:List Int):Option (List Int × List Int):=(gimbalref90_halves.f k l1).bind fun t205=>(if (t205.length:Int)=1 then ((gimbalref90_halves.f k l0).bind fun t208=>(if 0<(t205.length:Int) then ((gimbalref90_short.f k t208 (rd t205 0)).bind fun bt212=>((gimbalref90_whole.f k bt212.1).bind fun t216=>((gimbalref90_NOf.f k (IntKind.u64.wrap (bt212.2))).bind fun t219=>(some (t216,t219))))) else (none))) else ((gimbalref90_NLen.f k l0).bind fun t222=>((gimbalref90_NLen.f k l1).bind fun t223=>(if (wrap64 (t222-t223))<0 then (some (([]:List Int),l0)) else (if 0≤(wrap64 ((wrap64 (Int.tdiv (wrap64 (t222-t223)) 64))+1)) then (if (wrap64 ((wrap64 (Int.tdiv (wrap64 (t222-t223)) 64))+1):Int).toNat≤35184372088832 then ((gimbalref90_Up2.f k l1 (wrap64 (t222-t223))).bind fun t227=>(gimbalref90_NDivide.l0 k (List.replicate (wrap64 ((wrap64 (Int.tdiv (wrap64 (t222-t223)) 64))+1):Int).toNat 0) l0 t227 (wrap64 (t222-t223)))) else (none)) else (none))))))
theorem gimbalref90_NDivide.mono_l:∀ k,(∀ y0 y1 y2 y3,LeO (gimbalref90_NDivide.l0 k y0 y1 y2 y3) (gimbalref90_NDivide.l0 (k+1) y0 y1 y2 y3))
  | 0=>fun _ _ _ _ r h=>by simp [gimbalref90_NDivide.l0] at h
  | k + 1 => by
    have ih0:=gimbalref90_NDivide.mono_l k
    · intro y0 y1 y2 y3
      unfold gimbalref90_NDivide.l0
      repeat' first
      | (with_reducible exact ih0 _ _ _ _)
      | (with_reducible exact gimbalref90_Down2.mono _ _ _)
      | (with_reducible exact gimbalref90_NCmp.mono _ _ _)
      | (with_reducible exact gimbalref90_NLen.mono _ _)
      | (with_reducible exact gimbalref90_NLess.mono _ _ _)
      | (with_reducible exact gimbalref90_NOf.mono _ _)
      | (with_reducible exact gimbalref90_NTrim.mono _ _)
      | (with_reducible exact gimbalref90_Up2.mono _ _ _)
      | (with_reducible exact gimbalref90_halves.mono _ _)
      | (with_reducible exact gimbalref90_short.mono _ _ _)
      | (with_reducible exact gimbalref90_whole.mono _ _)
      | (with_reducible exact LeO.refl _)
      | (with_reducible exact LeO.none _)
      | (with_reducible refine LeO.ite ?_ ?_)
      | (with_reducible refine LeO.bind ?_ (fun _=>?_))
      | exact ih0 _ _ _ _
      | exact gimbalref90_Down2.mono _ _ _
      | exact gimbalref90_NCmp.mono _ _ _
      | exact gimbalref90_NLen.mono _ _
      | exact gimbalref90_NLess.mono _ _ _
      | exact gimbalref90_NOf.mono _ _
      | exact gimbalref90_NTrim.mono _ _
      | exact gimbalref90_Up2.mono _ _ _
      | exact gimbalref90_halves.mono _ _
      | exact gimbalref90_short.mono _ _ _
      | exact gimbalref90_whole.mono _ _
      | exact LeO.none _
      | refine LeO.ite ?_ ?_
      | refine LeO.bind ?_ (fun _=>?_)
theorem gimbalref90_NDivide.mono:∀ a0 a1 k,LeO (gimbalref90_NDivide.f k a0 a1) (gimbalref90_NDivide.f (k+1) a0 a1):=by
  intro a0 a1 k
  have ih0:=gimbalref90_NDivide.mono_l k
  unfold gimbalref90_NDivide.f
  repeat' first
      | (with_reducible exact ih0 _ _ _ _)
      | (with_reducible exact gimbalref90_Down2.mono _ _ _)
      | (with_reducible exact gimbalref90_NCmp.mono _ _ _)
      | (with_reducible exact gimbalref90_NLen.mono _ _)
      | (with_reducible exact gimbalref90_NLess.mono _ _ _)
      | (with_reducible exact gimbalref90_NOf.mono _ _)
      | (with_reducible exact gimbalref90_NTrim.mono _ _)
      | (with_reducible exact gimbalref90_Up2.mono _ _ _)
      | (with_reducible exact gimbalref90_halves.mono _ _)
      | (with_reducible exact gimbalref90_short.mono _ _ _)
      | (with_reducible exact gimbalref90_whole.mono _ _)
      | (with_reducible exact LeO.refl _)
      | (with_reducible exact LeO.none _)
      | (with_reducible refine LeO.ite ?_ ?_)
      | (with_reducible refine LeO.bind ?_ (fun _=>?_))
      | exact ih0 _ _ _ _
      | exact gimbalref90_Down2.mono _ _ _
      | exact gimbalref90_NCmp.mono _ _ _
      | exact gimbalref90_NLen.mono _ _
      | exact gimbalref90_NLess.mono _ _ _
      | exact gimbalref90_NOf.mono _ _
      | exact gimbalref90_NTrim.mono _ _
      | exact gimbalref90_Up2.mono _ _ _
      | exact gimbalref90_halves.mono _ _
      | exact gimbalref90_short.mono _ _ _
      | exact gimbalref90_whole.mono _ _
      | exact LeO.none _
      | refine LeO.ite ?_ ?_
      | refine LeO.bind ?_ (fun _=>?_)
def gimbalref90_NDivide.T3:Bool × List (List Nat × List Nat):=(true,[([],[]),([0],[0]),([],[]),([2],[2]),([3],[3]),([1,4,1],[1,4]),([5],[5]),([6],[6]),([6],[6]),([7,5,0,1,2,3,4,5,6,7],[7]),([8,9,0,1,2,3,4,5,6,7,8,9],[8])])
def gimbalref90_NDivide.B3:List Nat:=[0,1,0,4,12,31,63,127,127,255,1023]
theorem gimbalref90_NDivide.tab3:rtab .any (opsOf Tryz.f93 3)=gimbalref90_NDivide.T3:=by kernel_rfl
theorem gimbalref90_NDivide.bits3:waitsOk gimbalref90_NDivide.T3.2 gimbalref90_NDivide.B3=true:=by kernel_rfl
set_option maxHeartbeats 8000000 in
set_option maxRecDepth 100000 in
theorem gimbalref90_NDivide.calls (k:Nat) (P0_:Nat→Prop) (A0:Option Addr) (c0:Nat) (l0:List Int) (A1:Option Addr) (c1:Nat) (l1:List Int) (r1:List Int) (r2:List Int) (w:World) (hs0:Kd.V (Kd.int .u64) 94 w w.heap.size (fun k_=>P0_ k_) (.slice A0 l0.length c0) l0) (hr1:Kd.C (Kd.int .u64) w A1 l1.length l1) (hc1:l1.length≤c1) (h:gimbalref90_NDivide.f k l0 l1=some (r1,r2)) :
    Calls Tryz.prog 93 #[.slice A0 l0.length c0,.slice A1 l1.length c1] w fun e w'=>∃ v0_ v1_:Value,e = .returned (.tuple #[v0_,v1_])∧Kd.R (Kd.int .u64) 94 w' w.heap.size (fun k_=>(w.heap.size≤k_)) v0_ r1∧Kd.V (Kd.int .u64) 94 w' w.heap.size (fun k_=>(P0_ k_∨w.heap.size≤k_)∧some k_≠(v0_:Value).ownBlock) v1_ r2∧Below w.heap.size w w':=by
  have HO0:=Aside0.mk (show Kd.V (Kd.int .u64) 94 w w.heap.size (fun k_=>(P0_ k_∨w.heap.size≤k_)) (.slice A0 l0.length c0) l0 from Kd.V_mono hs0 (fun k_ hk => .inl hk))
  have HR1:=Aside0.mk hr1
  have HC1:=Aside0.mk hc1
  clear hr1 hc1
  have HB:=Aside0.mk (Below.refl w.heap.size w)
  have H:((gimbalref90_halves.f k l1).bind fun t205=>(if (t205.length:Int)=1 then ((gimbalref90_halves.f k l0).bind fun t208=>(if 0<(t205.length:Int) then ((gimbalref90_short.f k t208 (rd t205 0)).bind fun bt212=>((gimbalref90_whole.f k bt212.1).bind fun t216=>((gimbalref90_NOf.f k (IntKind.u64.wrap (bt212.2))).bind fun t219=>(some (t216,t219))))) else (none))) else ((gimbalref90_NLen.f k l0).bind fun t222=>((gimbalref90_NLen.f k l1).bind fun t223=>(if (wrap64 (t222-t223))<0 then (some (([]:List Int),l0)) else (if 0≤(wrap64 ((wrap64 (Int.tdiv (wrap64 (t222-t223)) 64))+1)) then (if (wrap64 ((wrap64 (Int.tdiv (wrap64 (t222-t223)) 64))+1):Int).toNat≤35184372088832 then ((gimbalref90_Up2.f k l1 (wrap64 (t222-t223))).bind fun t227=>(gimbalref90_NDivide.l0 k (List.replicate (wrap64 ((wrap64 (Int.tdiv (wrap64 (t222-t223)) 64))+1):Int).toNat 0) l0 t227 (wrap64 (t222-t223)))) else (none)) else (none)))))))=some (r1,r2):=h
  clear h
  replace H:=Option.bind_eq_some_iff.mp H
  obtain ⟨t205,A30,H⟩:=H
  replace H:(if (t205.length:Int)=1 then ((gimbalref90_halves.f k l0).bind fun t208=>(if 0<(t205.length:Int) then ((gimbalref90_short.f k t208 (rd t205 0)).bind fun bt212=>((gimbalref90_whole.f k bt212.1).bind fun t216=>((gimbalref90_NOf.f k (IntKind.u64.wrap (bt212.2))).bind fun t219=>(some (t216,t219))))) else (none))) else ((gimbalref90_NLen.f k l0).bind fun t222=>((gimbalref90_NLen.f k l1).bind fun t223=>(if (wrap64 (t222-t223))<0 then (some (([]:List Int),l0)) else (if 0≤(wrap64 ((wrap64 (Int.tdiv (wrap64 (t222-t223)) 64))+1)) then (if (wrap64 ((wrap64 (Int.tdiv (wrap64 (t222-t223)) 64))+1):Int).toNat≤35184372088832 then ((gimbalref90_Up2.f k l1 (wrap64 (t222-t223))).bind fun t227=>(gimbalref90_NDivide.l0 k (List.replicate (wrap64 ((wrap64 (Int.tdiv (wrap64 (t222-t223)) 64))+1):Int).toNat 0) l0 t227 (wrap64 (t222-t223)))) else (none)) else (none))))))=some (r1,r2):=H
  have A3:=Aside0.mk A30
  clear A30
  by_cases c4:(t205.length:Int)=1
  · rw [if_pos c4] at H
    have c4b0:((t205.length:Int) == 1)=true:=beq_iff_eq.mpr c4
    have c4b1:((t205.length:Int) != 1)=false:=bne_eq_false_iff_eq.mpr c4
    clear c4
    replace H:=Option.bind_eq_some_iff.mp H
    obtain ⟨t208,A50,H⟩:=H
    replace H:(if 0<(t205.length:Int) then ((gimbalref90_short.f k t208 (rd t205 0)).bind fun bt212=>((gimbalref90_whole.f k bt212.1).bind fun t216=>((gimbalref90_NOf.f k (IntKind.u64.wrap (bt212.2))).bind fun t219=>(some (t216,t219))))) else (none))=some (r1,r2):=H
    have A5:=Aside0.mk A50
    clear A50
    by_cases c6:0<(t205.length:Int)
    · rw [if_pos c6] at H
      have c6b0:decide (0<(t205.length:Int))=true:=decide_eq_true c6
      have c6b1:decide (0<t205.length)=true:=decide_eq_true (by omega)
      clear c6
      replace H:=Option.bind_eq_some_iff.mp H
      obtain ⟨⟨t212,t213⟩,A70,H⟩:=H
      replace H:((gimbalref90_whole.f k t212).bind fun t216=>((gimbalref90_NOf.f k (IntKind.u64.wrap (t213))).bind fun t219=>(some (t216,t219))))=some (r1,r2):=H
      have A7:=Aside0.mk A70
      clear A70
      replace H:=Option.bind_eq_some_iff.mp H
      obtain ⟨t216,A80,H⟩:=H
      replace H:((gimbalref90_NOf.f k (IntKind.u64.wrap (t213))).bind fun t219=>(some (t216,t219)))=some (r1,r2):=H
      have A8:=Aside0.mk A80
      clear A80
      replace H:=Option.bind_eq_some_iff.mp H
      obtain ⟨t219,A90,H⟩:=H
      replace H:(some (t216,t219))=some (r1,r2):=H
      have A9:=Aside0.mk A90
      clear A90
      simp only [Option.some.injEq,Prod.mk.injEq] at H
      obtain ⟨rfl,rfl⟩:=H
      go_enter Tryz.func93,Tryz.ntmps93
      try go_wp2_with (first|((with_reducible refine gate_callee (f:=115) rfl ?_);refine goesL_ (some 15) rfl rfl Tryz.func115 (by kernel_rfl) rfl #[.slice A1 l1.length c1] rfl (by (try simp only [List.map_toArray,List.map_cons,List.map_nil]);first|done|rfl|(simp only [List.length_drop,List.length_take];rfl)) ?_;(with_reducible refine (gimbalref90_halves.calls k _ _ l1 t205 _ ?side1 ?side2 A3.out).mono ?_);(case side1=>repeat (first|exact HR1.out|(with_reducible refine Kd.C_alloc ?_ _)|(with_reducible refine Kd.C_drewN ?_ _)|(with_reducible refine Kd.C_drew ?_)));(case side2=>exact HC1.out);rintro e w10 ⟨v206,rfl,ho0,hb⟩;refine ⟨_,rfl,?_⟩;have n0_:=Aside0.mk (Kd.V_elder' (by (with_reducible repeat (first|apply Kd.V_alloc|apply Kd.V_drewN|apply Kd.V_drew));exact HO0.out) (Kd.R_base ho0) hb);have n1_:=Aside0.mk (Kd.R_lower (Kd.R_newM (M:=fun k_=>(w.heap.size≤k_)) ho0 (below_size (by repeat (first|(with_reducible first|exact HB.out|apply below_alloc|apply pw_below_drewN|apply below_drew1)|exact HB.out))) (fun k_ h_=>h_)) (below_size (by repeat (first|(with_reducible first|exact HB.out|apply below_alloc|apply pw_below_drewN|apply below_drew1)|exact HB.out))));have n2_:=Aside0.mk (below_step (by repeat (first|(with_reducible first|exact HB.out|apply below_alloc|apply pw_below_drewN|apply below_drew1)|exact HB.out)) hb);clear HO0;clear HB;have HO0:=n0_;have HO207:=n1_;have HB:=n2_;clear n0_ n1_ n2_;(try clear hb);(try clear hb2);(try clear hk);(try clear hi);(try clear ho0);obtain ⟨Ao11,co11,eo11⟩:=Kd.R_slice HO207.out;subst eo11))
      have n0_:=Aside0.mk (Kd.V_drew HO0.out)
      have n1_:=Aside0.mk (Kd.R_drew HO207.out)
      have n2_:=Aside0.mk (below_drew1 HB.out)
      clear HO0
      clear HO207
      clear HB
      have HO0:=n0_
      have HO207:=n1_
      have HB:=n2_
      clear n0_ n1_ n2_
      have p211:0≤(0:Int):=(by omega)
      have q211:0<(t205.length:Int):=of_decide_eq_true (by first|(with_reducible assumption)|assumption)
      obtain ⟨ad211,e211,hx211_0⟩:=Kd.at_int (Kd.R_reads' HO207.out).2.2 0 p211 q211
      cases e211
      have qi211:(0<t205.length)=True:=eq_true (by omega)
      (try rw [show ((0:Int)).toNat=0 from rfl] at hx211_0)
      (try rw [Addr.add_zero'] at hx211_0)
      replace p211:=eq_true p211
      replace q211:=eq_true q211
      refine start_ (n:=11) (S:=fun w'=>w'.cell? ad211=some (.int .u32 (rd t205 0))) (ds:=[]) #[false,false,false,false,false,false,false,false,false,false,false] (by kernel_rfl) rfl rfl (hx211_0) (fun hHeld=>?_);refine with_tabW gimbalref90_NDivide.tab3 gimbalref90_NDivide.bits3 (fun HT_ HW_=>?_)
      generalize w10.drew=w12 at HO0 HO207 HB hx211_0 hHeld ⊢
      refine pure_ (i:=0) (N:=some 20) (v:=?_) (a':=?_) #[true,false,false,false,false,false,false,false,false,false,false] rfl rfl (any_of HT_.out (by kernel_rfl)) (fun _ _ _ h=>h) (Or.inl ⟨by rfl,?_⟩) ?_ ?_
      rotate_left
      · intro w'
        go_simp
        with_reducible rfl
      rotate_left
      · simp only [Act.put,List.setIfInBounds_toArray,List.set_cons_zero,List.set_cons_succ,i64_w,i32_w]
        rfl
      refine pure_ (i:=2) (N:=some 22) (v:=?_) (a':=?_) #[true,false,true,false,false,false,false,false,false,false,false] rfl rfl (any_of HT_.out (by kernel_rfl)) (fun _ _ _ h=>h) (Or.inl ⟨by rfl,?_⟩) ?_ ?_
      rotate_left
      · intro w'
        go_simp
        with_reducible rfl
      rotate_left
      · simp only [Act.put,List.setIfInBounds_toArray,List.set_cons_zero,List.set_cons_succ,i64_w,i32_w]
        rfl
      refine pure_ (i:=3) (N:=some 23) (v:=?_) (a':=?_) #[true,false,true,true,false,false,false,false,false,false,false] rfl rfl (any_of HT_.out (by kernel_rfl)) (fun _ _ _ h=>h) (Or.inl ⟨by rfl,?_⟩) ?_ ?_
      rotate_left
      · intro w'
        go_simp
        with_reducible rfl
      rotate_left
      · simp only [Act.put,List.setIfInBounds_toArray,List.set_cons_zero,List.set_cons_succ,i64_w,i32_w]
        rfl
      refine take_ (i:=4) (N:=some 24) (v:=?_) (a':=?_) #[true,false,true,true,true,false,false,false,false,false,false] rfl rfl (take_ofW HT_.out HW_.out (by kernel_rfl)) (fun _ _ _ h=>h) (Or.inl ⟨by rfl,?_⟩) hHeld ?_ ?_
      rotate_left
      · intro w' s0
        go_simp
        with_reducible rfl
      rotate_left
      · simp only [Act.put,List.setIfInBounds_toArray,List.set_cons_zero,List.set_cons_succ,i64_w,i32_w]
        rfl
      refine one_ (i:=1) (N:=some 21) #[true,true,true,true,true,false,false,false,false,false,false] rfl rfl (one_of HT_.out (by kernel_rfl)) (by decide) (fun K hK=>?_)
      refine goes_ Tryz.func115 (by kernel_rfl) rfl #[.slice A0 l0.length c0] (by rfl) rfl rfl (by (try simp only [List.map_toArray,List.map_cons,List.map_nil]);first|done|rfl|(simp only [List.length_drop,List.length_take];rfl)) ?_
      with_reducible refine (gimbalref90_halves.calls k _ _ l0 t208 _ ?side1 ?side2 A5.out).mono ?_
      (case side1=>repeat (first|exact (Kd.V_reads' HO0.out).2.2|(with_reducible refine Kd.C_alloc ?_ _)|(with_reducible refine Kd.C_drewN ?_ _)|(with_reducible refine Kd.C_drew ?_)))
      (case side2=>exact (Kd.V_reads' HO0.out).2.1)
      rintro e w13 ⟨v209,rfl,ho0,hb⟩
      have HS0_:=(hb.cell (World.block_lt_of_cell? _ _ (hHeld))).trans (hHeld)
      refine ⟨_,rfl,?_⟩
      have n0_:=Aside0.mk (Kd.V_elder' (by (with_reducible repeat (first|apply Kd.V_alloc|apply Kd.V_drewN|apply Kd.V_drew));exact HO0.out) (Kd.R_base ho0) hb)
      have n1_:=Aside0.mk (Kd.R_elder' (by (with_reducible repeat (first|apply Kd.R_alloc|apply Kd.R_drewN|apply Kd.R_drew));exact HO207.out) (Kd.R_base ho0) hb)
      have n2_:=Aside0.mk (Kd.R_lower (Kd.R_new' (Kd.R_newM (M:=fun k_=>(w.heap.size≤k_)) ho0 (below_size (by repeat (first|(with_reducible first|exact HB.out|apply below_alloc|apply pw_below_drewN|apply below_drew1)|exact HB.out))) (fun k_ h_=>h_)) (Kd.R_lt (by (with_reducible repeat (first|apply Kd.R_alloc|apply Kd.R_drewN|apply Kd.R_drew));exact HO207.out))) (below_size (by repeat (first|(with_reducible first|exact HB.out|apply below_alloc|apply pw_below_drewN|apply below_drew1)|exact HB.out))))
      have n3_:=Aside0.mk (below_step (by repeat (first|(with_reducible first|exact HB.out|apply below_alloc|apply pw_below_drewN|apply below_drew1)|exact HB.out)) hb)
      clear HO0
      clear HO207
      clear HB
      have HO0:=n0_
      have HO207:=n1_
      have HO210:=n2_
      have HB:=n3_
      clear n0_ n1_ n2_ n3_
      (try clear hb)
      (try clear hb2)
      (try clear hk)
      (try clear hi)
      (try clear ho0)
      obtain ⟨Ao14,co14,eo14⟩:=Kd.R_slice HO210.out
      (first|subst eo14|(injection eo14 with f1_ f2_ f3_;have f4_:=f1_.symm;have f5_:=f3_.symm;clear f1_ f2_ f3_;subst f4_;subst f5_))
      refine hK.out _ _ (HS0_) (fun hHeld=>?_)
      clear hK K
      refine norm_ (a':=?_) ?_ ?_
      rotate_left
      · show Act.put _ (some 21) _=_
        simp only [Act.put,List.setIfInBounds_toArray,List.set_cons_zero,List.set_cons_succ,i64_w,i32_w]
        rfl
      refine one_ (i:=5) (N:=some 25) #[true,true,true,true,true,true,false,false,false,false,false] rfl rfl (one_of HT_.out (by kernel_rfl)) (by decide) (fun K hK=>?_)
      refine goes_ Tryz.func116 (by kernel_rfl) rfl #[.slice Ao14 t208.length co14,.int .u32 (rd t205 0)] (by rfl) rfl rfl (by (try simp only [List.map_toArray,List.map_cons,List.map_nil]);first|done|rfl|(simp only [List.length_drop,List.length_take];rfl)) ?_
      with_reducible refine (gimbalref90_short.calls k _ _ t208 (rd t205 0) t212 t213 _ ?side1 ?side2 A7.out).mono ?_
      (case side1=>repeat (first|exact (Kd.R_reads' HO210.out).2.2|(with_reducible refine Kd.C_alloc ?_ _)|(with_reducible refine Kd.C_drewN ?_ _)|(with_reducible refine Kd.C_drew ?_)))
      (case side2=>exact (Kd.R_reads' HO210.out).2.1)
      rintro e w15 ⟨v214,rfl,ho0,hb⟩
      have HS0_:=(hb.cell (World.block_lt_of_cell? _ _ (hHeld))).trans (hHeld)
      refine ⟨_,rfl,?_⟩
      have n0_:=Aside0.mk (Kd.V_elder' (by (with_reducible repeat (first|apply Kd.V_alloc|apply Kd.V_drewN|apply Kd.V_drew));exact HO0.out) (Kd.R_base ho0) hb)
      have n1_:=Aside0.mk (Kd.R_elder' (by (with_reducible repeat (first|apply Kd.R_alloc|apply Kd.R_drewN|apply Kd.R_drew));exact HO207.out) (Kd.R_base ho0) hb)
      have n2_:=Aside0.mk (Kd.R_elder' (by (with_reducible repeat (first|apply Kd.R_alloc|apply Kd.R_drewN|apply Kd.R_drew));exact HO210.out) (Kd.R_base ho0) hb)
      have n3_:=Aside0.mk (Kd.R_lower (Kd.R_new' (Kd.R_new' (Kd.R_newM (M:=fun k_=>(w.heap.size≤k_)) ho0 (below_size (by repeat (first|(with_reducible first|exact HB.out|apply below_alloc|apply pw_below_drewN|apply below_drew1)|exact HB.out))) (fun k_ h_=>h_)) (Kd.R_lt (by (with_reducible repeat (first|apply Kd.R_alloc|apply Kd.R_drewN|apply Kd.R_drew));exact HO207.out))) (Kd.R_lt (by (with_reducible repeat (first|apply Kd.R_alloc|apply Kd.R_drewN|apply Kd.R_drew));exact HO210.out))) (below_size (by repeat (first|(with_reducible first|exact HB.out|apply below_alloc|apply pw_below_drewN|apply below_drew1)|exact HB.out))))
      have n4_:=Aside0.mk (below_step (by repeat (first|(with_reducible first|exact HB.out|apply below_alloc|apply pw_below_drewN|apply below_drew1)|exact HB.out)) hb)
      clear HO0
      clear HO207
      clear HO210
      clear HB
      have HO0:=n0_
      have HO207:=n1_
      have HO210:=n2_
      have HO215:=n3_
      have HB:=n4_
      clear n0_ n1_ n2_ n3_ n4_
      (try clear hb)
      (try clear hb2)
      (try clear hk)
      (try clear hi)
      (try clear ho0)
      refine hK.out _ _ (HS0_) (fun hHeld=>?_)
      clear hK K
      refine norm_ (a':=?_) ?_ ?_
      rotate_left
      · show Act.put _ (some 25) _=_
        simp only [Act.put,List.setIfInBounds_toArray,List.set_cons_zero,List.set_cons_succ,i64_w,i32_w]
        rfl
      refine pure_ (i:=6) (N:=some 19) (v:=?_) (a':=?_) #[true,true,true,true,true,true,true,false,false,false,false] rfl rfl (any_of HT_.out (by kernel_rfl)) (fun _ _ _ h=>h) (Or.inl ⟨by rfl,?_⟩) ?_ ?_
      rotate_left
      · intro w'
        go_simp
        with_reducible rfl
      rotate_left
      · simp only [Act.put,List.setIfInBounds_toArray,List.set_cons_zero,List.set_cons_succ,i64_w,i32_w]
        rfl
      refine pure_ (i:=7) (N:=some 26) (v:=?_) (a':=?_) #[true,true,true,true,true,true,true,true,false,false,false] rfl rfl (any_of HT_.out (by kernel_rfl)) (fun _ _ _ h=>h) (Or.inl ⟨by rfl,?_⟩) ?_ ?_
      rotate_left
      · intro w'
        go_simp
        with_reducible rfl
      rotate_left
      · simp only [Act.put,List.setIfInBounds_toArray,List.set_cons_zero,List.set_cons_succ,i64_w,i32_w]
        rfl
      refine pure_ (i:=8) (N:=some 27) (v:=?_) (a':=?_) #[true,true,true,true,true,true,true,true,true,false,false] rfl rfl (any_of HT_.out (by kernel_rfl)) (fun _ _ _ h=>h) (Or.inl ⟨by rfl,?_⟩) ?_ ?_
      rotate_left
      · intro w'
        go_simp
        with_reducible rfl
      rotate_left
      · simp only [Act.put,List.setIfInBounds_toArray,List.set_cons_zero,List.set_cons_succ,i64_w,i32_w]
        rfl
      refine pure_ (i:=9) (N:=some 7) (v:=?_) (a':=?_) #[true,true,true,true,true,true,true,true,true,true,false] rfl rfl (any_of HT_.out (by kernel_rfl)) (fun _ _ _ h=>h) (Or.inl ⟨by rfl,?_⟩) ?_ ?_
      rotate_left
      · intro w'
        go_simp
        with_reducible rfl
      rotate_left
      · simp only [Act.put,List.setIfInBounds_toArray,List.set_cons_zero,List.set_cons_succ,i64_w,i32_w]
        rfl
      refine pure_ (i:=10) (N:=some 8) (v:=?_) (a':=?_) #[true,true,true,true,true,true,true,true,true,true,true] rfl rfl (any_of HT_.out (by kernel_rfl)) (fun _ _ _ h=>h) (Or.inl ⟨by rfl,?_⟩) ?_ ?_
      rotate_left
      · intro w'
        go_simp
        with_reducible rfl
      rotate_left
      · simp only [Act.put,List.setIfInBounds_toArray,List.set_cons_zero,List.set_cons_succ,i64_w,i32_w]
        rfl
      refine done_ (done_of HT_.out (by kernel_rfl)) ?_
      obtain ⟨Ao16,co16,eo16⟩:=Kd.R_slice HO215.out
      subst eo16
      try go_wp2_with (first|((with_reducible refine gate_callee (f:=117) rfl ?_);refine goesL_ (some 29) rfl rfl Tryz.func117 (by kernel_rfl) rfl #[.slice Ao16 t212.length co16] rfl (by (try simp only [List.map_toArray,List.map_cons,List.map_nil]);first|done|rfl|(simp only [List.length_drop,List.length_take];rfl)) ?_;(with_reducible refine (gimbalref90_whole.calls k _ _ t212 t216 _ ?side1 ?side2 A8.out).mono ?_);(case side1=>repeat (first|exact (Kd.R_reads' HO215.out).2.2|(with_reducible refine Kd.C_alloc ?_ _)|(with_reducible refine Kd.C_drewN ?_ _)|(with_reducible refine Kd.C_drew ?_)));(case side2=>exact (Kd.R_reads' HO215.out).2.1);rintro e w17 ⟨v217,rfl,ho0,hb⟩;refine ⟨_,rfl,?_⟩;have n0_:=Aside0.mk (Kd.V_elder' (by (with_reducible repeat (first|apply Kd.V_alloc|apply Kd.V_drewN|apply Kd.V_drew));exact HO0.out) (Kd.R_base ho0) hb);have n1_:=Aside0.mk (Kd.R_below (by (with_reducible repeat (first|apply Kd.R_alloc|apply Kd.R_drewN|apply Kd.R_drew));exact HO207.out) hb);have n2_:=Aside0.mk (Kd.R_below (by (with_reducible repeat (first|apply Kd.R_alloc|apply Kd.R_drewN|apply Kd.R_drew));exact HO210.out) hb);have n3_:=Aside0.mk (Kd.R_below (by (with_reducible repeat (first|apply Kd.R_alloc|apply Kd.R_drewN|apply Kd.R_drew));exact HO215.out) hb);have n4_:=Aside0.mk (Kd.R_lower (Kd.R_newM (M:=fun k_=>(w.heap.size≤k_)) ho0 (below_size (by repeat (first|(with_reducible first|exact HB.out|apply below_alloc|apply pw_below_drewN|apply below_drew1)|exact HB.out))) (fun k_ h_=>h_)) (below_size (by repeat (first|(with_reducible first|exact HB.out|apply below_alloc|apply pw_below_drewN|apply below_drew1)|exact HB.out))));have n5_:=Aside0.mk (below_step (by repeat (first|(with_reducible first|exact HB.out|apply below_alloc|apply pw_below_drewN|apply below_drew1)|exact HB.out)) hb);clear HO0;clear HO207;clear HO210;clear HO215;clear HB;have HO0:=n0_;have HO207:=n1_;have HO210:=n2_;have HO215:=n3_;have HO218:=n4_;have HB:=n5_;clear n0_ n1_ n2_ n3_ n4_ n5_;(try clear hb);(try clear hb2);(try clear hk);(try clear hi);(try clear ho0))|((with_reducible refine gate_callee (f:=65) rfl ?_);refine goesL_ (some 32) rfl rfl Tryz.func65 (by kernel_rfl) rfl #[.int .u64 (IntKind.u64.wrap (t213))] rfl (by (try simp only [List.map_toArray,List.map_cons,List.map_nil]);first|done|rfl|(simp only [List.length_drop,List.length_take];rfl)) ?_;(with_reducible refine (gimbalref90_NOf.calls k (IntKind.u64.wrap (t213)) t219 _ A9.out).mono ?_);rintro e w18 ⟨v220,rfl,ho0,hb⟩;refine ⟨_,rfl,?_⟩;have n0_:=Aside0.mk (Kd.V_elder' (by (with_reducible repeat (first|apply Kd.V_alloc|apply Kd.V_drewN|apply Kd.V_drew));exact HO0.out) (Kd.R_base ho0) hb);have n1_:=Aside0.mk (Kd.R_below (by (with_reducible repeat (first|apply Kd.R_alloc|apply Kd.R_drewN|apply Kd.R_drew));exact HO207.out) hb);have n2_:=Aside0.mk (Kd.R_below (by (with_reducible repeat (first|apply Kd.R_alloc|apply Kd.R_drewN|apply Kd.R_drew));exact HO210.out) hb);have n3_:=Aside0.mk (Kd.R_below (by (with_reducible repeat (first|apply Kd.R_alloc|apply Kd.R_drewN|apply Kd.R_drew));exact HO215.out) hb);have n4_:=Aside0.mk (Kd.R_elder' (by (with_reducible repeat (first|apply Kd.R_alloc|apply Kd.R_drewN|apply Kd.R_drew));exact HO218.out) (Kd.R_base ho0) hb);have n5_:=Aside0.mk (Kd.R_lower (Kd.R_new' (Kd.R_newM (M:=fun k_=>(w.heap.size≤k_)) ho0 (below_size (by repeat (first|(with_reducible first|exact HB.out|apply below_alloc|apply pw_below_drewN|apply below_drew1)|exact HB.out))) (fun k_ h_=>h_)) (Kd.R_lt (by (with_reducible repeat (first|apply Kd.R_alloc|apply Kd.R_drewN|apply Kd.R_drew));exact HO218.out))) (below_size (by repeat (first|(with_reducible first|exact HB.out|apply below_alloc|apply pw_below_drewN|apply below_drew1)|exact HB.out))));have n6_:=Aside0.mk (below_step (by repeat (first|(with_reducible first|exact HB.out|apply below_alloc|apply pw_below_drewN|apply below_drew1)|exact HB.out)) hb);clear HO0;clear HO207;clear HO210;clear HO215;clear HO218;clear HB;have HO0:=n0_;have HO207:=n1_;have HO210:=n2_;have HO215:=n3_;have HO218:=n4_;have HO221:=n5_;have HB:=n6_;clear n0_ n1_ n2_ n3_ n4_ n5_ n6_;(try clear hb);(try clear hb2);(try clear hk);(try clear hi);(try clear ho0)))
      go_ret2
      exact ⟨_,_,by first|rfl|(simp [errW_none,errW_some]<;>rfl)|(simp [*,errW_none,errW_some]<;>rfl),by (with_reducible repeat (first|apply Kd.R_alloc|apply Kd.R_drewN|apply Kd.R_drew));exact Kd.R_mono HO218.out (fun _ hk=>hk.1.1),(by refine Kd.V_mono (Kd.R_V (by (with_reducible repeat (first|apply Kd.R_alloc|apply Kd.R_drewN|apply Kd.R_drew));exact HO221.out)) ?_;exact fun k_ hk=>by first|exact ⟨.inr hk.1.1,hk.2⟩|exact ⟨.inr hk.1,hk.2⟩|exact ⟨.inr hk.1.1.1,⟨hk.1.2,hk.2⟩⟩|exact ⟨⟨.inr hk.1.1.1,hk.1.2⟩,hk.2⟩|exact .inr hk.1.1),by repeat (first|(with_reducible first|exact HB.out|apply below_alloc|apply pw_below_drewN|apply below_drew1)|exact HB.out)⟩
    · rw [if_neg c6] at H
      exact absurd H (by simp)
  · rw [if_neg c4] at H
    have c4b0:((t205.length:Int) == 1)=false:=beq_eq_false_iff_ne.mpr c4
    have c4b1:((t205.length:Int) != 1)=true:=bne_iff_ne.mpr c4
    replace H:=Option.bind_eq_some_iff.mp H
    obtain ⟨t222,A190,H⟩:=H
    replace H:((gimbalref90_NLen.f k l1).bind fun t223=>(if (wrap64 (t222-t223))<0 then (some (([]:List Int),l0)) else (if 0≤(wrap64 ((wrap64 (Int.tdiv (wrap64 (t222-t223)) 64))+1)) then (if (wrap64 ((wrap64 (Int.tdiv (wrap64 (t222-t223)) 64))+1):Int).toNat≤35184372088832 then ((gimbalref90_Up2.f k l1 (wrap64 (t222-t223))).bind fun t227=>(gimbalref90_NDivide.l0 k (List.replicate (wrap64 ((wrap64 (Int.tdiv (wrap64 (t222-t223)) 64))+1):Int).toNat 0) l0 t227 (wrap64 (t222-t223)))) else (none)) else (none))))=some (r1,r2):=H
    have A19:=Aside0.mk A190
    clear A190
    replace H:=Option.bind_eq_some_iff.mp H
    obtain ⟨t223,A200,H⟩:=H
    replace H:(if (wrap64 (t222-t223))<0 then (some (([]:List Int),l0)) else (if 0≤(wrap64 ((wrap64 (Int.tdiv (wrap64 (t222-t223)) 64))+1)) then (if (wrap64 ((wrap64 (Int.tdiv (wrap64 (t222-t223)) 64))+1):Int).toNat≤35184372088832 then ((gimbalref90_Up2.f k l1 (wrap64 (t222-t223))).bind fun t227=>(gimbalref90_NDivide.l0 k (List.replicate (wrap64 ((wrap64 (Int.tdiv (wrap64 (t222-t223)) 64))+1):Int).toNat 0) l0 t227 (wrap64 (t222-t223)))) else (none)) else (none)))=some (r1,r2):=H
    have A20:=Aside0.mk A200
    clear A200
    by_cases c21:(wrap64 (t222-t223))<0
    · rw [if_pos c21] at H
      have c21b0:decide ((wrap64 (t222-t223))<0)=true:=decide_eq_true c21
      clear c21
      simp only [Option.some.injEq,Prod.mk.injEq] at H
      obtain ⟨rfl,rfl⟩:=H
      go_enter Tryz.func93,Tryz.ntmps93
      go_wp2_with (first|((with_reducible refine gate_callee (f:=115) rfl ?_);refine goesL_ (some 15) rfl rfl Tryz.func115 (by kernel_rfl) rfl #[.slice A1 l1.length c1] rfl (by (try simp only [List.map_toArray,List.map_cons,List.map_nil]);first|done|rfl|(simp only [List.length_drop,List.length_take];rfl)) ?_;(with_reducible refine (gimbalref90_halves.calls k _ _ l1 t205 _ ?side1 ?side2 A3.out).mono ?_);(case side1=>repeat (first|exact HR1.out|(with_reducible refine Kd.C_alloc ?_ _)|(with_reducible refine Kd.C_drewN ?_ _)|(with_reducible refine Kd.C_drew ?_)));(case side2=>exact HC1.out);rintro e w22 ⟨v206,rfl,ho0,hb⟩;refine ⟨_,rfl,?_⟩;have n0_:=Aside0.mk (Kd.V_elder' (by (with_reducible repeat (first|apply Kd.V_alloc|apply Kd.V_drewN|apply Kd.V_drew));exact HO0.out) (Kd.R_base ho0) hb);have n1_:=Aside0.mk (Kd.R_lower (Kd.R_newM (M:=fun k_=>(w.heap.size≤k_)) ho0 (below_size (by repeat (first|(with_reducible first|exact HB.out|apply below_alloc|apply pw_below_drewN|apply below_drew1)|exact HB.out))) (fun k_ h_=>h_)) (below_size (by repeat (first|(with_reducible first|exact HB.out|apply below_alloc|apply pw_below_drewN|apply below_drew1)|exact HB.out))));have n2_:=Aside0.mk (below_step (by repeat (first|(with_reducible first|exact HB.out|apply below_alloc|apply pw_below_drewN|apply below_drew1)|exact HB.out)) hb);clear HO0;clear HB;have HO0:=n0_;have HO207:=n1_;have HB:=n2_;clear n0_ n1_ n2_;(try clear hb);(try clear hb2);(try clear hk);(try clear hi);(try clear ho0);obtain ⟨Ao23,co23,eo23⟩:=Kd.R_slice HO207.out;subst eo23)|((with_reducible refine gate_callee (f:=118) rfl ?_);refine goesL_ (some 34) rfl rfl Tryz.func118 (by kernel_rfl) rfl #[.slice A0 l0.length c0] rfl (by (try simp only [List.map_toArray,List.map_cons,List.map_nil]);first|done|rfl|(simp only [List.length_drop,List.length_take];rfl)) ?_;(with_reducible refine (gimbalref90_NLen.calls k _ _ l0 t222 _ ?side1 ?side2 A19.out).mono ?_);(case side1=>repeat (first|exact (Kd.V_reads' HO0.out).2.2|(with_reducible refine Kd.C_alloc ?_ _)|(with_reducible refine Kd.C_drewN ?_ _)|(with_reducible refine Kd.C_drew ?_)));(case side2=>exact (Kd.V_reads' HO0.out).2.1);rintro e w' ⟨rfl,⟨nd,rfl⟩⟩;refine ⟨_,rfl,?_⟩)|((with_reducible refine gate_callee (f:=118) rfl ?_);refine goesL_ (some 36) rfl rfl Tryz.func118 (by kernel_rfl) rfl #[.slice A1 l1.length c1] rfl (by (try simp only [List.map_toArray,List.map_cons,List.map_nil]);first|done|rfl|(simp only [List.length_drop,List.length_take];rfl)) ?_;(with_reducible refine (gimbalref90_NLen.calls k _ _ l1 t223 _ ?side1 ?side2 A20.out).mono ?_);(case side1=>repeat (first|exact (Kd.C_below HR1.out (by repeat (first|(with_reducible first|exact HB.out|apply below_alloc|apply pw_below_drewN|apply below_drew1)|exact HB.out)))|(with_reducible refine Kd.C_alloc ?_ _)|(with_reducible refine Kd.C_drewN ?_ _)|(with_reducible refine Kd.C_drew ?_)));(case side2=>exact HC1.out);rintro e w' ⟨rfl,⟨nd,rfl⟩⟩;refine ⟨_,rfl,?_⟩))
      go_ret2
      exact ⟨_,_,by first|rfl|(simp [errW_none,errW_some]<;>rfl)|(simp [*,errW_none,errW_some]<;>rfl),by first|exact Kd.R_nil _ _ _ _ _|exact Kd.N_nil _ _ _ _ _|exact Kd.V_nil _ _ _ _ _|exact Kd.Q_nil _ _ _ _ _|exact Kd.S_nil _ _ _ _ _,by (with_reducible repeat (first|apply Kd.V_alloc|apply Kd.V_drewN|apply Kd.V_drew));exact Kd.V_mono HO0.out (fun _ hk=>⟨hk.1,(by simp [Value.ownBlock])⟩),by repeat (first|(with_reducible first|exact HB.out|apply below_alloc|apply pw_below_drewN|apply below_drew1)|exact HB.out)⟩
    · rw [if_neg c21] at H
      have c21b0:decide ((wrap64 (t222-t223))<0)=false:=decide_eq_false c21
      clear c21
      obtain ⟨ji24,hji24⟩:∃ j_:Int,(wrap64 ((wrap64 (Int.tdiv (wrap64 (t222-t223)) 64))+1))=j_:=⟨_,rfl⟩
      replace H:(if 0≤(ji24) then (if (ji24:Int).toNat≤35184372088832 then ((gimbalref90_Up2.f k l1 (wrap64 (t222-t223))).bind fun t227=>(gimbalref90_NDivide.l0 k (List.replicate (ji24:Int).toNat 0) l0 t227 (wrap64 (t222-t223)))) else (none)) else (none))=some (r1,r2):=by first|(rw [hji24] at H;exact H)|(simp only [hji24] at H ⊢;exact H)
      (try rw [hji24] at A3)
      (try rw [hji24] at A19)
      (try rw [hji24] at A20)
      have hji24w:(IntKind.i64.wrap ((wrap64 (Int.tdiv (wrap64 (t222-t223)) 64))+1))=ji24:=(i64_w _).trans hji24
      by_cases c25:0≤(ji24)
      · rw [if_pos c25] at H
        have c25b0:=eq_true c25
        have c25b1:decide (0≤(ji24))=true:=decide_eq_true c25
        clear c25
        by_cases c26:(ji24:Int).toNat≤35184372088832
        · rw [if_pos c26] at H
          have c26b0:=eq_true c26
          have c26b1:decide ((ji24:Int).toNat≤35184372088832)=true:=decide_eq_true c26
          clear c26
          obtain ⟨y224,hy224⟩:∃ y_:List Int,y_=(List.replicate (ji24:Int).toNat 0):=⟨_,rfl⟩
          replace H:((gimbalref90_Up2.f k l1 (wrap64 (t222-t223))).bind fun t227=>(gimbalref90_NDivide.l0 k y224 l0 t227 (wrap64 (t222-t223))))=some (r1,r2):=by first|(rw [hy224];with_reducible exact H)|(have H2_:=(Option.bind_some _ _).symm.trans H;rw [hy224];with_reducible exact H2_)|(have H2_:=(Option.bind_some _ _).symm.trans H;with_reducible exact H2_)|with_reducible exact H|(rw [hy224];exact H)|exact H
          have Ny224:=Aside0.mk hy224
          clear hy224
          replace H:=Option.bind_eq_some_iff.mp H
          obtain ⟨t227,A270,H⟩:=H
          replace H:(gimbalref90_NDivide.l0 k y224 l0 t227 (wrap64 (t222-t223)))=some (r1,r2):=H
          have A27:=Aside0.mk A270
          clear A270
          have H':=Aside0.mk H
          clear H
          go_enter Tryz.func93,Tryz.ntmps93
          go_wp2_with (first|((with_reducible refine gate_callee (f:=115) rfl ?_);refine goesL_ (some 15) rfl rfl Tryz.func115 (by kernel_rfl) rfl #[.slice A1 l1.length c1] rfl (by (try simp only [List.map_toArray,List.map_cons,List.map_nil]);first|done|rfl|(simp only [List.length_drop,List.length_take];rfl)) ?_;(with_reducible refine (gimbalref90_halves.calls k _ _ l1 t205 _ ?side1 ?side2 A3.out).mono ?_);(case side1=>repeat (first|exact HR1.out|(with_reducible refine Kd.C_alloc ?_ _)|(with_reducible refine Kd.C_drewN ?_ _)|(with_reducible refine Kd.C_drew ?_)));(case side2=>exact HC1.out);rintro e w28 ⟨v206,rfl,ho0,hb⟩;refine ⟨_,rfl,?_⟩;have n0_:=Aside0.mk (Kd.V_elder' (by (with_reducible repeat (first|apply Kd.V_alloc|apply Kd.V_drewN|apply Kd.V_drew));exact HO0.out) (Kd.R_base ho0) hb);have n1_:=Aside0.mk (Kd.R_lower (Kd.R_newM (M:=fun k_=>(w.heap.size≤k_)) ho0 (below_size (by repeat (first|(with_reducible first|exact HB.out|apply below_alloc|apply pw_below_drewN|apply below_drew1)|exact HB.out))) (fun k_ h_=>h_)) (below_size (by repeat (first|(with_reducible first|exact HB.out|apply below_alloc|apply pw_below_drewN|apply below_drew1)|exact HB.out))));have n2_:=Aside0.mk (below_step (by repeat (first|(with_reducible first|exact HB.out|apply below_alloc|apply pw_below_drewN|apply below_drew1)|exact HB.out)) hb);clear HO0;clear HB;have HO0:=n0_;have HO207:=n1_;have HB:=n2_;clear n0_ n1_ n2_;(try clear hb);(try clear hb2);(try clear hk);(try clear hi);(try clear ho0);obtain ⟨Ao29,co29,eo29⟩:=Kd.R_slice HO207.out;subst eo29)|((with_reducible refine gate_callee (f:=118) rfl ?_);refine goesL_ (some 34) rfl rfl Tryz.func118 (by kernel_rfl) rfl #[.slice A0 l0.length c0] rfl (by (try simp only [List.map_toArray,List.map_cons,List.map_nil]);first|done|rfl|(simp only [List.length_drop,List.length_take];rfl)) ?_;(with_reducible refine (gimbalref90_NLen.calls k _ _ l0 t222 _ ?side1 ?side2 A19.out).mono ?_);(case side1=>repeat (first|exact (Kd.V_reads' HO0.out).2.2|(with_reducible refine Kd.C_alloc ?_ _)|(with_reducible refine Kd.C_drewN ?_ _)|(with_reducible refine Kd.C_drew ?_)));(case side2=>exact (Kd.V_reads' HO0.out).2.1);rintro e w' ⟨rfl,⟨nd,rfl⟩⟩;refine ⟨_,rfl,?_⟩)|((with_reducible refine gate_callee (f:=118) rfl ?_);refine goesL_ (some 36) rfl rfl Tryz.func118 (by kernel_rfl) rfl #[.slice A1 l1.length c1] rfl (by (try simp only [List.map_toArray,List.map_cons,List.map_nil]);first|done|rfl|(simp only [List.length_drop,List.length_take];rfl)) ?_;(with_reducible refine (gimbalref90_NLen.calls k _ _ l1 t223 _ ?side1 ?side2 A20.out).mono ?_);(case side1=>repeat (first|exact (Kd.C_below HR1.out (by repeat (first|(with_reducible first|exact HB.out|apply below_alloc|apply pw_below_drewN|apply below_drew1)|exact HB.out)))|(with_reducible refine Kd.C_alloc ?_ _)|(with_reducible refine Kd.C_drewN ?_ _)|(with_reducible refine Kd.C_drew ?_)));(case side2=>exact HC1.out);rintro e w' ⟨rfl,⟨nd,rfl⟩⟩;refine ⟨_,rfl,?_⟩)|((with_reducible refine gate_dst (N:=44) rfl ?_);refine Kd.R_make (Kd.int .u64) _ 94 rfl (N:=44) rfl 55 _ _ rfl ji24 rfl rfl Tryz.underlying55 (.int .u64 0) 8 info94 rfl (by decide) (by omega) 0 (ok:=fun _=>True) (okp:=fun _=>True) rfl (fun _ hk=>hk) trivial (of_decide_eq_true (by first|(with_reducible assumption)|assumption)) (Nat.le_trans (Nat.mul_le_mul_right _ (of_decide_eq_true (by first|(with_reducible assumption)|assumption):ji24.toNat≤35184372088832)) (by omega)) (Below.refl _ _) (Nat.le_refl _) ?_;intro v225 w30 ho31 hb hg_ hnew_;clear hg_ hnew_;(first|rw [← Ny224.out] at ho31|(simp only [Int.reduceToNat] at ho31;rw [← Ny224.out] at ho31));have n0_:=Aside0.mk (Kd.V_elder' (by (with_reducible repeat (first|apply Kd.V_alloc|apply Kd.V_drewN|apply Kd.V_drew));exact HO0.out) (Kd.R_base ho31) hb);have n1_:=Aside0.mk (Kd.R_below (by (with_reducible repeat (first|apply Kd.R_alloc|apply Kd.R_drewN|apply Kd.R_drew));exact HO207.out) hb);have n2_:=Aside0.mk (Kd.R_lower (Kd.R_newM (M:=fun k_=>(w.heap.size≤k_)) ho31 (below_size (by repeat (first|(with_reducible first|exact HB.out|apply below_alloc|apply pw_below_drewN|apply below_drew1)|exact HB.out))) (fun k_ h_=>h_)) (below_size (by repeat (first|(with_reducible first|exact HB.out|apply below_alloc|apply pw_below_drewN|apply below_drew1)|exact HB.out))));have n3_:=Aside0.mk (below_step (by repeat (first|(with_reducible first|exact HB.out|apply below_alloc|apply pw_below_drewN|apply below_drew1)|exact HB.out)) hb);clear HO0;clear HO207;clear HB;have HO0:=n0_;have HO207:=n1_;have HO226:=n2_;have HB:=n3_;clear n0_ n1_ n2_ n3_;clear hb ho31)|((with_reducible refine gate_callee (f:=64) rfl ?_);refine goesL_ (some 48) rfl rfl Tryz.func64 (by kernel_rfl) rfl #[.slice A1 l1.length c1,.int .i64 (wrap64 (t222-t223))] rfl (by (try simp only [List.map_toArray,List.map_cons,List.map_nil]);first|done|rfl|(simp only [List.length_drop,List.length_take];rfl)) ?_;(with_reducible refine (gimbalref90_Up2.calls k _ _ l1 (wrap64 (t222-t223)) t227 _ ?side1 ?side2 A27.out).mono ?_);(case side1=>repeat (first|exact (Kd.C_below HR1.out HB.out)|(with_reducible refine Kd.C_alloc ?_ _)|(with_reducible refine Kd.C_drewN ?_ _)|(with_reducible refine Kd.C_drew ?_)));(case side2=>exact HC1.out);rintro e w32 ⟨v228,rfl,ho0,hb⟩;refine ⟨_,rfl,?_⟩;have n0_:=Aside0.mk (Kd.V_elder' (by (with_reducible repeat (first|apply Kd.V_alloc|apply Kd.V_drewN|apply Kd.V_drew));exact HO0.out) (Kd.R_base ho0) hb);have n1_:=Aside0.mk (Kd.R_below (by (with_reducible repeat (first|apply Kd.R_alloc|apply Kd.R_drewN|apply Kd.R_drew));exact HO207.out) hb);have n2_:=Aside0.mk (Kd.R_elder' (by (with_reducible repeat (first|apply Kd.R_alloc|apply Kd.R_drewN|apply Kd.R_drew));exact HO226.out) (Kd.R_base ho0) hb);have n3_:=Aside0.mk (Kd.R_lower (Kd.R_new' (Kd.R_newM (M:=fun k_=>(w.heap.size≤k_)) ho0 (below_size (by repeat (first|(with_reducible first|exact HB.out|apply below_alloc|apply pw_below_drewN|apply below_drew1)|exact HB.out))) (fun k_ h_=>h_)) (Kd.R_lt (by (with_reducible repeat (first|apply Kd.R_alloc|apply Kd.R_drewN|apply Kd.R_drew));exact HO226.out))) (below_size (by repeat (first|(with_reducible first|exact HB.out|apply below_alloc|apply pw_below_drewN|apply below_drew1)|exact HB.out))));have n4_:=Aside0.mk (below_step (by repeat (first|(with_reducible first|exact HB.out|apply below_alloc|apply pw_below_drewN|apply below_drew1)|exact HB.out)) hb);clear HO0;clear HO207;clear HO226;clear HB;have HO0:=n0_;have HO207:=n1_;have HO226:=n2_;have HO229:=n3_;have HB:=n4_;clear n0_ n1_ n2_ n3_ n4_;(try clear hb);(try clear hb2);(try clear hk);(try clear hi);(try clear ho0)))
          go_loopg [11,12,13] k (fun kq v11 v12 v13 w'=>∃ (x10_1:List Int) (x11_1:List Int) (x12_1:List Int) (x13_1:Int),v13 = .int .i64 x13_1∧Aside0 (gimbalref90_NDivide.l0 kq x10_1 x11_1 x12_1 x13_1=some (r1,r2))∧Aside0 (kq≤k)∧Aside0 (Kd.R (Kd.int .u64) 94 w' w.heap.size (fun k_=>(w.heap.size≤k_)∧some k_≠(v12:Value).ownBlock) v225 x10_1)∧Aside0 (Kd.V (Kd.int .u64) 94 w' w.heap.size (fun k_=>(P0_ k_∨w.heap.size≤k_)∧some k_≠(v225:Value).ownBlock∧some k_≠(v12:Value).ownBlock) v11 x11_1)∧Aside0 (Kd.R (Kd.int .u64) 94 w' w.heap.size (fun k_=>(w.heap.size≤k_)∧some k_≠(v225:Value).ownBlock) v12 x12_1)∧Aside0 (Below w.heap.size w w'))
          case atStart=>exact ⟨(y224),(l0),(t227),(wrap64 (t222-t223)),(by first|rfl|(simp;done)|(simp [*];done)),H',⟨Nat.le_refl _⟩,⟨by (with_reducible repeat (first|apply Kd.R_alloc|apply Kd.R_drewN|apply Kd.R_drew));exact Kd.R_mono HO226.out (fun _ hk=>⟨hk.1.1,hk.2⟩)⟩,⟨by (with_reducible repeat (first|apply Kd.V_alloc|apply Kd.V_drewN|apply Kd.V_drew));exact Kd.V_mono HO0.out (fun _ hk=>⟨hk.1.1.1,⟨hk.1.2,hk.2⟩⟩)⟩,⟨by (with_reducible repeat (first|apply Kd.R_alloc|apply Kd.R_drewN|apply Kd.R_drew));exact Kd.R_mono HO229.out (fun _ hk=>⟨hk.1.1,hk.2⟩)⟩,⟨by repeat (first|(with_reducible first|exact HB.out|apply below_alloc|apply pw_below_drewN|apply below_drew1)|exact HB.out)⟩⟩
          case round =>
            clear H'
            try clear c1
            try clear c2
            try clear p2
            try clear q2
            try clear hx2
            try clear qi2
            try clear c4
            try clear c4b0
            try clear c4b1
            try clear c6
            try clear c6b0
            try clear c6b1
            try clear p6
            try clear c9
            try clear c11
            try clear c21
            try clear c21b0
            try clear p21
            try clear q21
            try clear hx21
            try clear qi21
            try clear c25
            try clear c25b0
            try clear c25b1
            try clear c26
            try clear c26b0
            try clear c26b1
            try clear hx211_0
            try clear p211
            try clear q211
            obtain ⟨x10_1,x11_1,x12_1,x13_1,rfl,HA,HK1,HO_10,HO_11,HO_12,HB⟩:=hrel
            cases gk with
            | zero=>exact absurd HA.out (by simp [gimbalref90_NDivide.l0])
            | succ k1 =>
              have H:=HA.out
              clear HA
              simp only [gimbalref90_NDivide.l0] at H
              by_cases c33:x13_1≥0
              · rw [if_pos c33] at H
                have c33b0:decide (0≤x13_1)=true:=decide_eq_true c33
                clear c33
                replace H:=Option.bind_eq_some_iff.mp H
                obtain ⟨t233,A340,H⟩:=H
                replace H:(if t233≥0 then ((gimbalref90_NLess.f k1 x11_1 x12_1).bind fun t234=>(if 0≤(wrap64 (Int.tdiv x13_1 64)) then (if (wrap64 (Int.tdiv x13_1 64))<(x10_1.length:Int) then (if 0≤(IntKind.u64.wrap (Int.tmod x13_1 64)) then ((gimbalref90_Down2.f k1 x12_1 1).bind fun t239=>(gimbalref90_NDivide.l0 k1 (x10_1.set ((wrap64 (Int.tdiv x13_1 64)):Int).toNat (Go.bits .or .u64 (rd x10_1 (wrap64 (Int.tdiv x13_1 64))) (shl .u64 1 (IntKind.u64.wrap (Int.tmod x13_1 64))))) t234 t239 (wrap64 (x13_1-1)))) else (none)) else (none)) else (none))) else ((gimbalref90_Down2.f k1 x12_1 1).bind fun t242=>(gimbalref90_NDivide.l0 k1 x10_1 x11_1 t242 (wrap64 (x13_1-1)))))=some (r1,r2):=H
                have A34:=Aside0.mk A340
                clear A340
                by_cases c35:t233≥0
                · rw [if_pos c35] at H
                  have c35b0:decide (0≤t233)=true:=decide_eq_true c35
                  clear c35
                  replace H:=Option.bind_eq_some_iff.mp H
                  obtain ⟨t234,A360,H⟩:=H
                  replace H:(if 0≤(wrap64 (Int.tdiv x13_1 64)) then (if (wrap64 (Int.tdiv x13_1 64))<(x10_1.length:Int) then (if 0≤(IntKind.u64.wrap (Int.tmod x13_1 64)) then ((gimbalref90_Down2.f k1 x12_1 1).bind fun t239=>(gimbalref90_NDivide.l0 k1 (x10_1.set ((wrap64 (Int.tdiv x13_1 64)):Int).toNat (Go.bits .or .u64 (rd x10_1 (wrap64 (Int.tdiv x13_1 64))) (shl .u64 1 (IntKind.u64.wrap (Int.tmod x13_1 64))))) t234 t239 (wrap64 (x13_1-1)))) else (none)) else (none)) else (none))=some (r1,r2):=H
                  have A36:=Aside0.mk A360
                  clear A360
                  obtain ⟨ji37,hji37⟩:∃ j_:Int,(wrap64 (Int.tdiv x13_1 64))=j_:=⟨_,rfl⟩
                  replace H:(if 0≤(ji37) then (if (ji37)<(x10_1.length:Int) then (if 0≤(IntKind.u64.wrap (Int.tmod x13_1 64)) then ((gimbalref90_Down2.f k1 x12_1 1).bind fun t239=>(gimbalref90_NDivide.l0 k1 (x10_1.set ((ji37):Int).toNat (Go.bits .or .u64 (rd x10_1 (ji37)) (shl .u64 1 (IntKind.u64.wrap (Int.tmod x13_1 64))))) t234 t239 (wrap64 (x13_1-1)))) else (none)) else (none)) else (none))=some (r1,r2):=by first|(rw [hji37] at H;exact H)|(simp only [hji37] at H ⊢;exact H)
                  (try rw [hji37] at A34)
                  (try rw [hji37] at A36)
                  have hji37w:(IntKind.i64.wrap (Int.tdiv x13_1 64))=ji37:=(i64_w _).trans hji37
                  by_cases c38:0≤(ji37)
                  · rw [if_pos c38] at H
                    have c38b0:decide (0≤(ji37))=true:=decide_eq_true c38
                    clear c38
                    by_cases c39:(ji37)<(x10_1.length:Int)
                    · rw [if_pos c39] at H
                      have c39b0:decide ((ji37)<(x10_1.length:Int))=true:=decide_eq_true c39
                      clear c39
                      obtain ⟨ji40,hji40⟩:∃ j_:Int,(IntKind.u64.wrap (Int.tmod x13_1 64))=j_:=⟨_,rfl⟩
                      replace H:(if 0≤(ji40) then ((gimbalref90_Down2.f k1 x12_1 1).bind fun t239=>(gimbalref90_NDivide.l0 k1 (x10_1.set ((ji37):Int).toNat (Go.bits .or .u64 (rd x10_1 (ji37)) (shl .u64 1 (ji40)))) t234 t239 (wrap64 (x13_1-1)))) else (none))=some (r1,r2):=by first|(rw [hji40] at H;exact H)|(simp only [hji40] at H ⊢;exact H)
                      (try rw [hji40] at A34)
                      (try rw [hji40] at A36)
                      by_cases c41:0≤(ji40)
                      · rw [if_pos c41] at H
                        have c41b0:=eq_true c41
                        have c41b1:decide (0≤(ji40))=true:=decide_eq_true c41
                        clear c41
                        obtain ⟨ji42,hji42⟩:∃ j_:Int,(shl .u64 1 (ji40))=j_:=⟨_,rfl⟩
                        replace H:((gimbalref90_Down2.f k1 x12_1 1).bind fun t239=>(gimbalref90_NDivide.l0 k1 (x10_1.set ((ji37):Int).toNat (Go.bits .or .u64 (rd x10_1 (ji37)) (ji42))) t234 t239 (wrap64 (x13_1-1))))=some (r1,r2):=by first|(rw [hji42] at H;exact H)|(simp only [hji42] at H ⊢;exact H)
                        (try rw [hji42] at A34)
                        (try rw [hji42] at A36)
                        have hji42_:(IntKind.u64.wrap (1*2 ^ min (ji40).toNat 64))=ji42:=hji42
                        have hji42z:(ji40)≤64→(IntKind.u64.wrap (1*2 ^ (ji40).toNat))=ji42:=shl_small hji42
                        have hji42u:(IntKind.u64.wrap (2 ^ min (ji40).toNat 64))=ji42:=by have h_:=hji42_;rw [Int.one_mul] at h_;exact h_
                        have hji42v:(ji40)≤64→(IntKind.u64.wrap (2 ^ (ji40).toNat))=ji42:=fun hle_=>by have h_:=hji42z hle_;rw [Int.one_mul] at h_;exact h_
                        obtain ⟨y238,hy238⟩:∃ y_:List Int,y_=(x10_1.set ((ji37):Int).toNat (Go.bits .or .u64 (rd x10_1 (ji37)) (ji42))):=⟨_,rfl⟩
                        replace H:((gimbalref90_Down2.f k1 x12_1 1).bind fun t239=>(gimbalref90_NDivide.l0 k1 y238 t234 t239 (wrap64 (x13_1-1))))=some (r1,r2):=by first|(rw [hy238];with_reducible exact H)|(have H2_:=(Option.bind_some _ _).symm.trans H;rw [hy238];with_reducible exact H2_)|(have H2_:=(Option.bind_some _ _).symm.trans H;with_reducible exact H2_)|with_reducible exact H|(rw [hy238];exact H)|exact H
                        have Ny238:=Aside0.mk hy238
                        clear hy238
                        replace H:=Option.bind_eq_some_iff.mp H
                        obtain ⟨t239,A440,H⟩:=H
                        replace H:(gimbalref90_NDivide.l0 k1 y238 t234 t239 (wrap64 (x13_1-1)))=some (r1,r2):=H
                        have A44:=Aside0.mk A440
                        clear A440
                        have H':=Aside0.mk H
                        clear H
                        obtain ⟨Ao45,co45,eo45⟩:=Kd.V_slice HO_11.out
                        subst eo45
                        obtain ⟨Ao46,co46,eo46⟩:=Kd.R_slice HO_12.out
                        subst eo46
                        go_wp2_with (first|((with_reducible refine gate_callee (f:=96) rfl ?_);refine goesL_ (some 56) rfl rfl Tryz.func96 (by kernel_rfl) rfl #[.slice Ao45 x11_1.length co45,.slice Ao46 x12_1.length co46] rfl (by (try simp only [List.map_toArray,List.map_cons,List.map_nil]);first|done|rfl|(simp only [List.length_drop,List.length_take];rfl)) ?_;(with_reducible refine (gimbalref90_NCmp.calls k1 _ _ x11_1 _ _ x12_1 t233 _ ?side1 ?side2 ?side3 ?side4 A34.out).mono ?_);(case side1=>repeat (first|exact (Kd.V_reads' HO_11.out).2.2|(with_reducible refine Kd.C_alloc ?_ _)|(with_reducible refine Kd.C_drewN ?_ _)|(with_reducible refine Kd.C_drew ?_)));(case side2=>exact (Kd.V_reads' HO_11.out).2.1);(case side3=>repeat (first|exact (Kd.R_reads' HO_12.out).2.2|(with_reducible refine Kd.C_alloc ?_ _)|(with_reducible refine Kd.C_drewN ?_ _)|(with_reducible refine Kd.C_drew ?_)));(case side4=>exact (Kd.R_reads' HO_12.out).2.1);rintro e w' ⟨rfl,⟨nd,rfl⟩⟩;refine ⟨_,rfl,?_⟩;(try (rw [drewN_self wr];generalize hq_:World.drewN wr _=wr;have n0_:Aside0 (Kd.R (Kd.int .u64) 94 wr w.heap.size (fun k_=>(w.heap.size≤k_)∧some k_≠(.slice Ao46 x12_1.length co46:Value).ownBlock) v225 x10_1):=⟨by rw [← hq_];exact (by (with_reducible repeat (first|apply Kd.R_alloc|apply Kd.R_drewN|apply Kd.R_drew));exact HO_10.out)⟩;have n1_:Aside0 (Kd.V (Kd.int .u64) 94 wr w.heap.size (fun k_=>(P0_ k_∨w.heap.size≤k_)∧some k_≠(v225:Value).ownBlock∧some k_≠(.slice Ao46 x12_1.length co46:Value).ownBlock) (.slice Ao45 x11_1.length co45) x11_1):=⟨by rw [← hq_];exact (by (with_reducible repeat (first|apply Kd.V_alloc|apply Kd.V_drewN|apply Kd.V_drew));exact HO_11.out)⟩;have n2_:Aside0 (Kd.R (Kd.int .u64) 94 wr w.heap.size (fun k_=>(w.heap.size≤k_)∧some k_≠(v225:Value).ownBlock) (.slice Ao46 x12_1.length co46) x12_1):=⟨by rw [← hq_];exact (by (with_reducible repeat (first|apply Kd.R_alloc|apply Kd.R_drewN|apply Kd.R_drew));exact HO_12.out)⟩;have n3_:Aside0 (Below w.heap.size w wr):=⟨by rw [← hq_];exact (by repeat (first|(with_reducible first|exact HB.out|apply below_alloc|apply pw_below_drewN|apply below_drew1)|exact HB.out))⟩;clear HO_10 HO_11 HO_12 HB hq_;have HO_10:=n0_;have HO_11:=n1_;have HO_12:=n2_;have HB:=n3_;clear n0_ n1_ n2_ n3_)))|((with_reducible refine gate_callee (f:=97) rfl ?_);refine goesL_ (some 60) rfl rfl Tryz.func97 (by kernel_rfl) rfl #[.slice Ao45 x11_1.length co45,.slice Ao46 x12_1.length co46] rfl (by (try simp only [List.map_toArray,List.map_cons,List.map_nil]);first|done|rfl|(simp only [List.length_drop,List.length_take];rfl)) ?_;(with_reducible refine (gimbalref90_NLess.calls k1 _ _ x11_1 _ _ x12_1 t234 _ ?side1 ?side2 ?side3 ?side4 A36.out).mono ?_);(case side1=>repeat (first|exact (Kd.V_reads' HO_11.out).2.2|(with_reducible refine Kd.C_alloc ?_ _)|(with_reducible refine Kd.C_drewN ?_ _)|(with_reducible refine Kd.C_drew ?_)));(case side2=>exact (Kd.V_reads' HO_11.out).2.1);(case side3=>repeat (first|exact (Kd.R_reads' HO_12.out).2.2|(with_reducible refine Kd.C_alloc ?_ _)|(with_reducible refine Kd.C_drewN ?_ _)|(with_reducible refine Kd.C_drew ?_)));(case side4=>exact (Kd.R_reads' HO_12.out).2.1);rintro e w47 ⟨v235,rfl,ho0,hb⟩;refine ⟨_,rfl,?_⟩;have n0_:=Aside0.mk (Kd.R_elder' (by (with_reducible repeat (first|apply Kd.R_alloc|apply Kd.R_drewN|apply Kd.R_drew));exact HO_10.out) (Kd.R_base ho0) hb);have n1_:=Aside0.mk (Kd.V_elder' (by (with_reducible repeat (first|apply Kd.V_alloc|apply Kd.V_drewN|apply Kd.V_drew));exact HO_11.out) (Kd.R_base ho0) hb);have n2_:=Aside0.mk (Kd.R_elder' (by (with_reducible repeat (first|apply Kd.R_alloc|apply Kd.R_drewN|apply Kd.R_drew));exact HO_12.out) (Kd.R_base ho0) hb);have n3_:=Aside0.mk (Kd.R_lower (Kd.R_new' (Kd.R_new' (Kd.R_newM (M:=fun k_=>(w.heap.size≤k_)) ho0 (below_size (by repeat (first|(with_reducible first|exact HB.out|apply below_alloc|apply pw_below_drewN|apply below_drew1)|exact HB.out))) (fun k_ h_=>h_)) (Kd.R_lt (by (with_reducible repeat (first|apply Kd.R_alloc|apply Kd.R_drewN|apply Kd.R_drew));exact HO_10.out))) (Kd.R_lt (by (with_reducible repeat (first|apply Kd.R_alloc|apply Kd.R_drewN|apply Kd.R_drew));exact HO_12.out))) (below_size (by repeat (first|(with_reducible first|exact HB.out|apply below_alloc|apply pw_below_drewN|apply below_drew1)|exact HB.out))));have n4_:=Aside0.mk (below_step (by repeat (first|(with_reducible first|exact HB.out|apply below_alloc|apply pw_below_drewN|apply below_drew1)|exact HB.out)) hb);clear HO_10;clear HO_11;clear HO_12;clear HB;have HO_10:=n0_;have HO_11:=n1_;have HO_12:=n2_;have HO236:=n3_;have HB:=n4_;clear n0_ n1_ n2_ n3_ n4_;(try clear hb);(try clear hb2);(try clear hk);(try clear hi);(try clear ho0);obtain ⟨Ao48,co48,eo48⟩:=Kd.R_slice HO_10.out;subst eo48;have p237:0≤((ji37):Int):=of_decide_eq_true (by first|(with_reducible assumption)|assumption);have q237:(ji37)<(x10_1.length:Int):=of_decide_eq_true (by first|(with_reducible assumption)|assumption);obtain ⟨ad237,e237,hx237_0⟩:=Kd.at_int (Kd.R_reads' HO_10.out).2.2 (ji37) p237 q237;cases e237;replace p237:=eq_true p237;replace q237:=eq_true q237;have p43:0≤((ji37):Int):=of_decide_eq_true (by first|(with_reducible assumption)|assumption);have q43:((ji37):Int)<((x10_1.length:Int):Int):=of_decide_eq_true (by first|(with_reducible assumption)|assumption);obtain ⟨go43,co43,eo43,gb43,gl43,cl43,HG43⟩:=Kd.R_form HO_10.out (by omega);(first|cases eo43|(injection eo43 with ea_ en_ ec_;(first|subst ea_|(injection ea_ with ea_;subst ea_));subst ec_;clear en_));have GB43:=Aside0.mk gb43;have GG43:=Aside0.mk HG43;clear gb43 gl43 HG43;(first|simp only [add_plain] at hx237_0|skip);obtain ⟨hx43_0,hf43_0⟩:=Kd.R_celln 0 HO_10.out ((ji37):Int) p43 q43;replace p43:=eq_true p43;replace q43:=eq_true q43;have n_:=Aside0.mk (Kd.R_mono (ok':=(fun k_=>(w.heap.size≤k_)∧some k_≠(.slice Ao46 x12_1.length co46:Value).ownBlock∧some k_≠(v235:Value).ownBlock)) HO_10.out (fun k_ hk=>⟨hk.1.1,⟨hk.1.2,hk.2⟩⟩));clear HO_10;have HO_10:=n_;clear n_;obtain ⟨hy49_,hz49_⟩:=Kd.R_celln 0 HO_10.out ((ji37):Int) (of_decide_eq_true (by first|(with_reducible assumption)|assumption)) (of_decide_eq_true (by first|(with_reducible assumption)|assumption));have HP49:=Kd.R_putg HO_10.out ((ji37):Int) (Go.bits .or .u64 (rd x10_1 (ji37)) (ji42)))|((with_reducible refine gate_store (t:=94) (p:=74) rfl ?_);refine store_event (t:=94) (p:=74) (v:=?vo_w50) (w1:=(w47.setCell ⟨go43,((ji37):Int).toNat,none⟩ (.int .u64 (Go.bits .or .u64 (rd x10_1 (ji37)) (ji42))))) ?hg ?ho ?hn ?hr ?_;(case ho=>rfl);(case hg=>rfl);(case hn=>rfl);(case hr=>first|(go_simp;done)|(go_simp;rfl));intro w50 hw;have hg:w47.grownBy w50 (some go43):=(by rw [hw];exact HP49.2);have hp_:Kd.R (Kd.int .u64) 94 w50 w.heap.size (fun k_=>(w.heap.size≤k_)∧some k_≠(.slice Ao46 x12_1.length co46:Value).ownBlock∧some k_≠(v235:Value).ownBlock) (.slice (some ⟨go43,0,none⟩) x10_1.length co48) y238:=(by rw [hw,Ny238.out];exact HP49.1);clear HP49;have n0_:=Aside0.mk (hp_);have n1_:=Aside0.mk (Kd.V_afterv (v:=(.slice (some ⟨go43,0,none⟩) x10_1.length co48)) (v1:=(.slice (some ⟨go43,0,none⟩) x10_1.length co48)) (ok:=(fun k_=>(P0_ k_∨w.heap.size≤k_)∧some k_≠(.slice Ao46 x12_1.length co46:Value).ownBlock∧some k_≠(v235:Value).ownBlock)) (by (with_reducible repeat (first|apply Kd.V_alloc|apply Kd.V_drewN|apply Kd.V_drew));exact Kd.V_mono HO_11.out (fun _ hk=>⟨⟨hk.1.1,⟨hk.1.2.2,hk.2⟩⟩,hk.1.2.1⟩)) hg (.inl rfl));have n2_:=Aside0.mk (Kd.R_after (v:=(.slice (some ⟨go43,0,none⟩) x10_1.length co48)) (v1:=(.slice (some ⟨go43,0,none⟩) x10_1.length co48)) (ok:=(fun k_=>(w.heap.size≤k_)∧some k_≠(v235:Value).ownBlock)) (by (with_reducible repeat (first|apply Kd.R_alloc|apply Kd.R_drewN|apply Kd.R_drew));exact Kd.R_mono HO_12.out (fun _ hk=>⟨⟨hk.1.1,hk.2⟩,hk.1.2⟩)) hg (.inl rfl));have n3_:=Aside0.mk (Kd.R_after (v:=(.slice (some ⟨go43,0,none⟩) x10_1.length co48)) (v1:=(.slice (some ⟨go43,0,none⟩) x10_1.length co48)) (ok:=(fun k_=>(w.heap.size≤k_)∧some k_≠(.slice Ao46 x12_1.length co46:Value).ownBlock)) (by (with_reducible repeat (first|apply Kd.R_alloc|apply Kd.R_drewN|apply Kd.R_drew));exact Kd.R_mono HO236.out (fun _ hk=>⟨⟨hk.1.1.1,hk.2⟩,hk.1.2⟩)) hg (.inl rfl));have n4_:=Aside0.mk ((by rw [hw];exact below_set (HB.out) GB43.out:Below w.heap.size w w50));clear HO_10;clear HO_11;clear HO_12;clear HO236;clear HB;have HO_10:=n0_;have HO_11:=n1_;have HO_12:=n2_;have HO236:=n3_;have HB:=n4_;clear n0_ n1_ n2_ n3_ n4_;clear hg hw hp_)|((with_reducible refine gate_callee (f:=119) rfl ?_);refine goesL_ (some 76) rfl rfl Tryz.func119 (by kernel_rfl) rfl #[.slice Ao46 x12_1.length co46,.int .i64 1] rfl (by (try simp only [List.map_toArray,List.map_cons,List.map_nil]);first|done|rfl|(simp only [List.length_drop,List.length_take];rfl)) ?_;(with_reducible refine (gimbalref90_Down2.calls k1 _ _ x12_1 1 t239 _ ?side1 ?side2 A44.out).mono ?_);(case side1=>repeat (first|exact (Kd.R_reads' HO_12.out).2.2|(with_reducible refine Kd.C_alloc ?_ _)|(with_reducible refine Kd.C_drewN ?_ _)|(with_reducible refine Kd.C_drew ?_)));(case side2=>exact (Kd.R_reads' HO_12.out).2.1);rintro e w51 ⟨v240,rfl,ho0,hb⟩;refine ⟨_,rfl,?_⟩;have n0_:=Aside0.mk (Kd.R_elder' (by (with_reducible repeat (first|apply Kd.R_alloc|apply Kd.R_drewN|apply Kd.R_drew));exact HO_10.out) (Kd.R_base ho0) hb);have n1_:=Aside0.mk (Kd.V_elder' (by (with_reducible repeat (first|apply Kd.V_alloc|apply Kd.V_drewN|apply Kd.V_drew));exact HO_11.out) (Kd.R_base ho0) hb);have n2_:=Aside0.mk (Kd.R_elder' (by (with_reducible repeat (first|apply Kd.R_alloc|apply Kd.R_drewN|apply Kd.R_drew));exact HO_12.out) (Kd.R_base ho0) hb);have n3_:=Aside0.mk (Kd.R_elder' (by (with_reducible repeat (first|apply Kd.R_alloc|apply Kd.R_drewN|apply Kd.R_drew));exact HO236.out) (Kd.R_base ho0) hb);have n4_:=Aside0.mk (Kd.R_lower (Kd.R_new' (Kd.R_new' (Kd.R_new' (Kd.R_newM (M:=fun k_=>(w.heap.size≤k_)) ho0 (below_size (by repeat (first|(with_reducible first|exact HB.out|apply below_alloc|apply pw_below_drewN|apply below_drew1)|exact HB.out))) (fun k_ h_=>h_)) (Kd.R_lt (by (with_reducible repeat (first|apply Kd.R_alloc|apply Kd.R_drewN|apply Kd.R_drew));exact HO_10.out))) (Kd.R_lt (by (with_reducible repeat (first|apply Kd.R_alloc|apply Kd.R_drewN|apply Kd.R_drew));exact HO_12.out))) (Kd.R_lt (by (with_reducible repeat (first|apply Kd.R_alloc|apply Kd.R_drewN|apply Kd.R_drew));exact HO236.out))) (below_size (by repeat (first|(with_reducible first|exact HB.out|apply below_alloc|apply pw_below_drewN|apply below_drew1)|exact HB.out))));have n5_:=Aside0.mk (below_step (by repeat (first|(with_reducible first|exact HB.out|apply below_alloc|apply pw_below_drewN|apply below_drew1)|exact HB.out)) hb);clear HO_10;clear HO_11;clear HO_12;clear HO236;clear HB;have HO_10:=n0_;have HO_11:=n1_;have HO_12:=n2_;have HO236:=n3_;have HO241:=n4_;have HB:=n5_;clear n0_ n1_ n2_ n3_ n4_ n5_;(try clear hb);(try clear hb2);(try clear hk);(try clear hi);(try clear ho0)))
                        go_roundg k1
                        case measure=>have:=HK1.out;omega
                        case rel=>exact ⟨(y238),(t234),(t239),(wrap64 (x13_1-1)),(by first|rfl|(simp;done)|(simp [*];done)),H',⟨by have:=HK1.out;omega⟩,⟨by (with_reducible repeat (first|apply Kd.R_alloc|apply Kd.R_drewN|apply Kd.R_drew));exact Kd.R_mono HO_10.out (fun _ hk=>⟨hk.1.1,hk.2⟩)⟩,⟨(by refine Kd.V_mono (Kd.R_V (by (with_reducible repeat (first|apply Kd.R_alloc|apply Kd.R_drewN|apply Kd.R_drew));exact HO236.out)) ?_;exact fun k_ hk=>by first|exact ⟨.inr hk.1.1,hk.2⟩|exact ⟨.inr hk.1,hk.2⟩|exact ⟨.inr hk.1.1.1,⟨hk.1.2,hk.2⟩⟩|exact ⟨⟨.inr hk.1.1.1,hk.1.2⟩,hk.2⟩|exact .inr hk.1.1)⟩,⟨by (with_reducible repeat (first|apply Kd.R_alloc|apply Kd.R_drewN|apply Kd.R_drew));exact Kd.R_mono HO241.out (fun _ hk=>⟨hk.1.1.1.1,hk.1.1.2⟩)⟩,⟨by repeat (first|(with_reducible first|exact HB.out|apply below_alloc|apply pw_below_drewN|apply below_drew1)|exact HB.out)⟩⟩
                      · rw [if_neg c41] at H
                        exact absurd H (by simp)
                    · rw [if_neg c39] at H
                      exact absurd H (by simp)
                  · rw [if_neg c38] at H
                    exact absurd H (by simp)
                · rw [if_neg c35] at H
                  have c35b0:decide (0≤t233)=false:=decide_eq_false c35
                  clear c35
                  replace H:=Option.bind_eq_some_iff.mp H
                  obtain ⟨t242,A520,H⟩:=H
                  replace H:(gimbalref90_NDivide.l0 k1 x10_1 x11_1 t242 (wrap64 (x13_1-1)))=some (r1,r2):=H
                  have A52:=Aside0.mk A520
                  clear A520
                  have H':=Aside0.mk H
                  clear H
                  obtain ⟨Ao53,co53,eo53⟩:=Kd.V_slice HO_11.out
                  subst eo53
                  obtain ⟨Ao54,co54,eo54⟩:=Kd.R_slice HO_12.out
                  subst eo54
                  go_wp2_with (first|((with_reducible refine gate_callee (f:=96) rfl ?_);refine goesL_ (some 56) rfl rfl Tryz.func96 (by kernel_rfl) rfl #[.slice Ao53 x11_1.length co53,.slice Ao54 x12_1.length co54] rfl (by (try simp only [List.map_toArray,List.map_cons,List.map_nil]);first|done|rfl|(simp only [List.length_drop,List.length_take];rfl)) ?_;(with_reducible refine (gimbalref90_NCmp.calls k1 _ _ x11_1 _ _ x12_1 t233 _ ?side1 ?side2 ?side3 ?side4 A34.out).mono ?_);(case side1=>repeat (first|exact (Kd.V_reads' HO_11.out).2.2|(with_reducible refine Kd.C_alloc ?_ _)|(with_reducible refine Kd.C_drewN ?_ _)|(with_reducible refine Kd.C_drew ?_)));(case side2=>exact (Kd.V_reads' HO_11.out).2.1);(case side3=>repeat (first|exact (Kd.R_reads' HO_12.out).2.2|(with_reducible refine Kd.C_alloc ?_ _)|(with_reducible refine Kd.C_drewN ?_ _)|(with_reducible refine Kd.C_drew ?_)));(case side4=>exact (Kd.R_reads' HO_12.out).2.1);rintro e w' ⟨rfl,⟨nd,rfl⟩⟩;refine ⟨_,rfl,?_⟩)|((with_reducible refine gate_callee (f:=119) rfl ?_);refine goesL_ (some 76) rfl rfl Tryz.func119 (by kernel_rfl) rfl #[.slice Ao54 x12_1.length co54,.int .i64 1] rfl (by (try simp only [List.map_toArray,List.map_cons,List.map_nil]);first|done|rfl|(simp only [List.length_drop,List.length_take];rfl)) ?_;(with_reducible refine (gimbalref90_Down2.calls k1 _ _ x12_1 1 t242 _ ?side1 ?side2 A52.out).mono ?_);(case side1=>repeat (first|exact (Kd.R_reads' HO_12.out).2.2|(with_reducible refine Kd.C_alloc ?_ _)|(with_reducible refine Kd.C_drewN ?_ _)|(with_reducible refine Kd.C_drew ?_)));(case side2=>exact (Kd.R_reads' HO_12.out).2.1);rintro e w55 ⟨v243,rfl,ho0,hb⟩;refine ⟨_,rfl,?_⟩;have n0_:=Aside0.mk (Kd.R_elder' (by (with_reducible repeat (first|apply Kd.R_alloc|apply Kd.R_drewN|apply Kd.R_drew));exact HO_10.out) (Kd.R_base ho0) hb);have n1_:=Aside0.mk (Kd.V_elder' (by (with_reducible repeat (first|apply Kd.V_alloc|apply Kd.V_drewN|apply Kd.V_drew));exact HO_11.out) (Kd.R_base ho0) hb);have n2_:=Aside0.mk (Kd.R_elder' (by (with_reducible repeat (first|apply Kd.R_alloc|apply Kd.R_drewN|apply Kd.R_drew));exact HO_12.out) (Kd.R_base ho0) hb);have n3_:=Aside0.mk (Kd.R_lower (Kd.R_new' (Kd.R_new' (Kd.R_newM (M:=fun k_=>(w.heap.size≤k_)) ho0 (below_size (by repeat (first|(with_reducible first|exact HB.out|apply below_alloc|apply pw_below_drewN|apply below_drew1)|exact HB.out))) (fun k_ h_=>h_)) (Kd.R_lt (by (with_reducible repeat (first|apply Kd.R_alloc|apply Kd.R_drewN|apply Kd.R_drew));exact HO_10.out))) (Kd.R_lt (by (with_reducible repeat (first|apply Kd.R_alloc|apply Kd.R_drewN|apply Kd.R_drew));exact HO_12.out))) (below_size (by repeat (first|(with_reducible first|exact HB.out|apply below_alloc|apply pw_below_drewN|apply below_drew1)|exact HB.out))));have n4_:=Aside0.mk (below_step (by repeat (first|(with_reducible first|exact HB.out|apply below_alloc|apply pw_below_drewN|apply below_drew1)|exact HB.out)) hb);clear HO_10;clear HO_11;clear HO_12;clear HB;have HO_10:=n0_;have HO_11:=n1_;have HO_12:=n2_;have HO244:=n3_;have HB:=n4_;clear n0_ n1_ n2_ n3_ n4_;(try clear hb);(try clear hb2);(try clear hk);(try clear hi);(try clear ho0)))
                  go_roundg k1
                  case measure=>have:=HK1.out;omega
                  case rel=>exact ⟨(x10_1),(x11_1),(t242),(wrap64 (x13_1-1)),(by first|rfl|(simp;done)|(simp [*];done)),H',⟨by have:=HK1.out;omega⟩,⟨by (with_reducible repeat (first|apply Kd.R_alloc|apply Kd.R_drewN|apply Kd.R_drew));exact Kd.R_mono HO_10.out (fun _ hk=>⟨hk.1.1,hk.2⟩)⟩,⟨by (with_reducible repeat (first|apply Kd.V_alloc|apply Kd.V_drewN|apply Kd.V_drew));exact Kd.V_mono HO_11.out (fun _ hk=>⟨hk.1.1,⟨hk.1.2.1,hk.2⟩⟩)⟩,⟨by (with_reducible repeat (first|apply Kd.R_alloc|apply Kd.R_drewN|apply Kd.R_drew));exact Kd.R_mono HO244.out (fun _ hk=>⟨hk.1.1.1,hk.1.2⟩)⟩,⟨by repeat (first|(with_reducible first|exact HB.out|apply below_alloc|apply pw_below_drewN|apply below_drew1)|exact HB.out)⟩⟩
              · rw [if_neg c33] at H
                have c33b0:decide (0≤x13_1)=false:=decide_eq_false c33
                clear c33
                replace H:=Option.bind_eq_some_iff.mp H
                obtain ⟨t230,A560,H⟩:=H
                replace H:(some (t230,x11_1))=some (r1,r2):=H
                have A56:=Aside0.mk A560
                clear A560
                simp only [Option.some.injEq,Prod.mk.injEq] at H
                obtain ⟨rfl,rfl⟩:=H
                obtain ⟨Ao57,co57,eo57⟩:=Kd.R_slice HO_10.out
                subst eo57
                go_wp2_with (first|((with_reducible refine gate_callee (f:=94) rfl ?_);refine goesL_ (some 78) rfl rfl Tryz.func94 (by kernel_rfl) rfl #[.slice Ao57 x10_1.length co57] rfl (by (try simp only [List.map_toArray,List.map_cons,List.map_nil]);first|done|rfl|(simp only [List.length_drop,List.length_take];rfl)) ?_;(with_reducible refine (gimbalref90_NTrim.calls k1 (fun k_=>some k_=(.slice Ao57 x10_1.length co57:Value).ownBlock) (.slice Ao57 x10_1.length co57) x10_1 t230 w _ ?side1 ?side2 A56.out).mono ?_);(case side1=>repeat (first|(with_reducible first|exact HB.out|apply below_alloc|apply pw_below_drewN|apply below_drew1)|exact HB.out));(case side2=>exact Kd.R_tight rfl HO_10.out);rintro e w58 ⟨v231,rfl,ho0,hb,hkp⟩;refine ⟨_,rfl,?_⟩;have n0_:=Aside0.mk (Kd.V_mono (ok':=fun k_=>(P0_ k_∨w.heap.size≤k_)∧some k_≠(u12:Value).ownBlock∧some k_≠(v231:Value).ownBlock) (Kd.V_keptB (HO_11.out) hkp (fun k_ hk_ hs_=>(hk_.2.1) hs_)) (fun k_ hk_=>⟨hk_.1.1,hk_.1.2.2,fun e_=>Or.elim (ho0.1 k_ e_.symm) (fun hs_=>hk_.2.1 hs_) (fun hn_=>Nat.not_le.2 hk_.2.2 hn_)⟩));have n1_:=Aside0.mk (Kd.R_mono (ok':=fun k_=>(w.heap.size≤k_)∧some k_≠(v231:Value).ownBlock) (Kd.R_keptB (HO_12.out) hkp (fun k_ hk_ hs_=>(hk_.2) hs_)) (fun k_ hk_=>⟨hk_.1.1,fun e_=>Or.elim (ho0.1 k_ e_.symm) (fun hs_=>hk_.2.1 hs_) (fun hn_=>Nat.not_le.2 hk_.2.2 hn_)⟩));have n2_:=Aside0.mk (Kd.R_mono (ok':=fun k_=>(w.heap.size≤k_)∧some k_≠(u12:Value).ownBlock) ho0 (fun k_ hk_=>⟨Or.elim hk_ (fun hs_=>(HO_10.out.1 k_ (hs_).symm).1) (fun hn_=>(Nat.le_trans (below_size (by repeat (first|(with_reducible first|exact HB.out|apply below_alloc|apply pw_below_drewN|apply below_drew1)|exact HB.out))) hn_)),Or.elim hk_ (fun hs_=>fun e_=>(((HO_12.out).1 k_ e_.symm).2) hs_) (fun hn_=>(Kd.fresh' (Kd.R_lt (by (with_reducible repeat (first|apply Kd.R_alloc|apply Kd.R_drewN|apply Kd.R_drew));exact HO_12.out)) k_ hn_))⟩));have n3_:=Aside0.mk (hb);clear HO_11;clear HO_12;clear HB;clear HO_10;have HO_11:=n0_;have HO_12:=n1_;have HO232:=n2_;have HB:=n3_;clear n0_ n1_ n2_ n3_;(try clear hb);(try clear hkp);(try clear ho0)))
                go_ret2
                exact ⟨_,_,by first|rfl|(simp [errW_none,errW_some]<;>rfl)|(simp only [← hji24];first|rfl|(simp [errW_none,errW_some]<;>rfl))|(simp [*,errW_none,errW_some]<;>rfl),by (with_reducible repeat (first|apply Kd.R_alloc|apply Kd.R_drewN|apply Kd.R_drew));exact Kd.R_mono HO232.out (fun _ hk=>hk.1),by (with_reducible repeat (first|apply Kd.V_alloc|apply Kd.V_drewN|apply Kd.V_drew));exact Kd.V_mono HO_11.out (fun _ hk=>⟨hk.1,hk.2.2⟩),by repeat (first|(with_reducible first|exact HB.out|apply below_alloc|apply pw_below_drewN|apply below_drew1)|exact HB.out)⟩
        · rw [if_neg c26] at H
          exact absurd H (by simp)
      · rw [if_neg c25] at H
        exact absurd H (by simp)
end Go.Proofs.YtmnkaldemjdcoaaGreat.QN90
end
section
namespace Go.Proofs.YtmnkaldemjdcoaaGreat.QN90
open RowKit YtmnkaldemjdcoaaGreatW.PrintWords YtmnkaldemjdcoaaGreatW.PrintLast YtmnkaldemjdcoaaGreatW.PrintMore
attribute [local go_sem] max2_int min2_int max_two min_two max_three min_three max_four min_four   -- for this text's walks alone
set_option linter.unusedVariables false
set_option linter.unusedSimpArgs false
def gimbalref90_NGcd.l0:Nat→List Int→List Int→Option (List Int)
  | 0,_,_=>none
  | k+1,x0,x1=>if (x1.length:Int)>0 then ((gimbalref90_NDivide.f k x0 x1).bind fun bt245=>(gimbalref90_NGcd.l0 k x1 bt245.2)) else (some x0)
def gimbalref90_NGcd.f (k:Nat) (l0:List Int) (l1:List Int):Option (List Int):=gimbalref90_NGcd.l0 k l0 l1
theorem gimbalref90_NGcd.mono_l:∀ k,(∀ y0 y1,LeO (gimbalref90_NGcd.l0 k y0 y1) (gimbalref90_NGcd.l0 (k+1) y0 y1))
  | 0=>fun _ _ r h=>by simp [gimbalref90_NGcd.l0] at h
  | k + 1 => by
    have ih0:=gimbalref90_NGcd.mono_l k
    · intro y0 y1
      unfold gimbalref90_NGcd.l0
      repeat' first
      | (with_reducible exact ih0 _ _)
      | (with_reducible exact gimbalref90_NDivide.mono _ _ _)
      | (with_reducible exact LeO.refl _)
      | (with_reducible exact LeO.none _)
      | (with_reducible refine LeO.ite ?_ ?_)
      | (with_reducible refine LeO.bind ?_ (fun _=>?_))
      | exact ih0 _ _
      | exact gimbalref90_NDivide.mono _ _ _
      | exact LeO.none _
      | refine LeO.ite ?_ ?_
      | refine LeO.bind ?_ (fun _=>?_)
theorem gimbalref90_NGcd.mono:∀ a0 a1 k,LeO (gimbalref90_NGcd.f k a0 a1) (gimbalref90_NGcd.f (k+1) a0 a1):=by
  intro a0 a1 k
  have ih0:=gimbalref90_NGcd.mono_l k
  unfold gimbalref90_NGcd.f
  repeat' first
      | (with_reducible exact ih0 _ _)
      | (with_reducible exact gimbalref90_NDivide.mono _ _ _)
      | (with_reducible exact LeO.refl _)
      | (with_reducible exact LeO.none _)
      | (with_reducible refine LeO.ite ?_ ?_)
      | (with_reducible refine LeO.bind ?_ (fun _=>?_))
      | exact ih0 _ _
      | exact gimbalref90_NDivide.mono _ _ _
      | exact LeO.none _
      | refine LeO.ite ?_ ?_
      | refine LeO.bind ?_ (fun _=>?_)
set_option maxHeartbeats 8000000 in
set_option maxRecDepth 100000 in
theorem gimbalref90_NGcd.calls (k:Nat) (P0_:Nat→Prop) (A0:Option Addr) (c0:Nat) (l0:List Int) (P1_:Nat→Prop) (A1:Option Addr) (c1:Nat) (l1:List Int) (r:List Int) (w:World) (hs0:Kd.V (Kd.int .u64) 94 w w.heap.size (fun k_=>P0_ k_) (.slice A0 l0.length c0) l0) (hs1:Kd.V (Kd.int .u64) 94 w w.heap.size (fun k_=>P1_ k_) (.slice A1 l1.length c1) l1) (h:gimbalref90_NGcd.f k l0 l1=some r) :
    Calls Tryz.prog 92 #[.slice A0 l0.length c0,.slice A1 l1.length c1] w fun e w'=>∃ v0_:Value,e = .returned (v0_)∧Kd.V (Kd.int .u64) 94 w' w.heap.size (fun k_=>((P0_ k_∨P1_ k_)∨w.heap.size≤k_)) v0_ r∧Below w.heap.size w w':=by
  have HO0:=Aside0.mk (show Kd.V (Kd.int .u64) 94 w w.heap.size (fun k_=>((P0_ k_∨P1_ k_)∨w.heap.size≤k_)) (.slice A0 l0.length c0) l0 from Kd.V_mono hs0 (fun k_ hk => .inl (.inl hk)))
  have HO1:=Aside0.mk (show Kd.V (Kd.int .u64) 94 w w.heap.size (fun k_=>((P0_ k_∨P1_ k_)∨w.heap.size≤k_)) (.slice A1 l1.length c1) l1 from Kd.V_mono hs1 (fun k_ hk => .inl (.inr hk)))
  have HB:=Aside0.mk (Below.refl w.heap.size w)
  have H:(gimbalref90_NGcd.l0 k l0 l1)=some r:=h
  clear h
  have H':=Aside0.mk H
  clear H
  go_enter Tryz.func92,Tryz.ntmps92
  go_wp2
  go_loopg [0,1] k (fun kq v0 v1 w'=>∃ (x0_1:List Int) (x1_1:List Int),Aside0 (gimbalref90_NGcd.l0 kq x0_1 x1_1=some r)∧Aside0 (kq≤k)∧Aside0 (Kd.V (Kd.int .u64) 94 w' w.heap.size (fun k_=>((P0_ k_∨P1_ k_)∨w.heap.size≤k_)) v0 x0_1)∧Aside0 (Kd.V (Kd.int .u64) 94 w' w.heap.size (fun k_=>((P0_ k_∨P1_ k_)∨w.heap.size≤k_)) v1 x1_1)∧Aside0 (Below w.heap.size w w'))
  case atStart=>exact ⟨(l0),(l1),H',⟨Nat.le_refl _⟩,⟨by (with_reducible repeat (first|apply Kd.V_alloc|apply Kd.V_drewN|apply Kd.V_drew));exact HO0.out⟩,⟨by (with_reducible repeat (first|apply Kd.V_alloc|apply Kd.V_drewN|apply Kd.V_drew));exact HO1.out⟩,⟨by repeat (first|(with_reducible first|exact HB.out|apply below_alloc|apply pw_below_drewN|apply below_drew1)|exact HB.out)⟩⟩
  case round =>
    clear H'
    try clear c1
    try clear p2
    obtain ⟨x0_1,x1_1,HA,HK1,HO_0,HO_1,HB⟩:=hrel
    cases gk with
    | zero=>exact absurd HA.out (by simp [gimbalref90_NGcd.l0])
    | succ k1 =>
      have H:=HA.out
      clear HA
      simp only [gimbalref90_NGcd.l0] at H
      by_cases c3:(x1_1.length:Int)>0
      · rw [if_pos c3] at H
        have c3b0:decide (0<(x1_1.length:Int))=true:=decide_eq_true c3
        have c3b1:decide (0<x1_1.length)=true:=decide_eq_true (by omega)
        clear c3
        replace H:=Option.bind_eq_some_iff.mp H
        obtain ⟨⟨t245,t248⟩,A40,H⟩:=H
        replace H:(gimbalref90_NGcd.l0 k1 x1_1 t248)=some r:=H
        have A4:=Aside0.mk A40
        clear A40
        have H':=Aside0.mk H
        clear H
        obtain ⟨Ao5,co5,eo5⟩:=Kd.V_slice HO_1.out
        subst eo5
        obtain ⟨Ao6,co6,eo6⟩:=Kd.V_slice HO_0.out
        subst eo6
        go_wp2_with (first|((with_reducible refine gate_callee (f:=93) rfl ?_);refine goesL_ (some 13) rfl rfl Tryz.func93 (by kernel_rfl) rfl #[.slice Ao6 x0_1.length co6,.slice Ao5 x1_1.length co5] rfl (by (try simp only [List.map_toArray,List.map_cons,List.map_nil]);first|done|rfl|(simp only [List.length_drop,List.length_take];rfl)) ?_;(with_reducible refine (gimbalref90_NDivide.calls k1 (fun k_=>((P0_ k_∨P1_ k_)∨w.heap.size≤k_)) _ _ x0_1 _ _ x1_1 t245 t248 _ ?side1 ?side2 ?side3 A4.out).mono ?_);(case side1=>exact HO_0.out);(case side2=>repeat (first|exact (Kd.V_reads' HO_1.out).2.2|(with_reducible refine Kd.C_alloc ?_ _)|(with_reducible refine Kd.C_drewN ?_ _)|(with_reducible refine Kd.C_drew ?_)));(case side3=>exact (Kd.V_reads' HO_1.out).2.1);rintro e w7 ⟨v246,v249,rfl,ho0,ho1,hb⟩;refine ⟨_,rfl,?_⟩;have n0_:=Aside0.mk (Kd.V_elder' (by (with_reducible repeat (first|apply Kd.V_alloc|apply Kd.V_drewN|apply Kd.V_drew));exact HO_0.out) (Kd.R_base ho0) hb);have n1_:=Aside0.mk (Kd.V_elder' (by (with_reducible repeat (first|apply Kd.V_alloc|apply Kd.V_drewN|apply Kd.V_drew));exact HO_1.out) (Kd.R_base ho0) hb);have n2_:=Aside0.mk (Kd.R_lower (Kd.R_newM (M:=fun k_=>(w.heap.size≤k_)) (Kd.R_mono (ok':=fun k_=>True) ho0 (fun _ hk_=>trivial)) (below_size (by repeat (first|(with_reducible first|exact HB.out|apply below_alloc|apply pw_below_drewN|apply below_drew1)|exact HB.out))) (fun k_ h_=>h_)) (below_size (by repeat (first|(with_reducible first|exact HB.out|apply below_alloc|apply pw_below_drewN|apply below_drew1)|exact HB.out))));have n3_:=Aside0.mk (Kd.V_lower (Kd.V_mono (ok':=fun k_=>((P0_ k_∨P1_ k_)∨w.heap.size≤k_)∧some k_≠(v246:Value).ownBlock) ho1 (fun k_ hk_=>⟨Or.elim hk_.1 (fun hs_=>hs_) (fun hn_=>(.inr (Nat.le_trans (below_size (by repeat (first|(with_reducible first|exact HB.out|apply below_alloc|apply pw_below_drewN|apply below_drew1)|exact HB.out))) hn_))),hk_.2⟩)) (below_size (by repeat (first|(with_reducible first|exact HB.out|apply below_alloc|apply pw_below_drewN|apply below_drew1)|exact HB.out))));have n4_:=Aside0.mk (below_step (by repeat (first|(with_reducible first|exact HB.out|apply below_alloc|apply pw_below_drewN|apply below_drew1)|exact HB.out)) hb);clear HO_0;clear HO_1;clear HB;have HO_0:=n0_;have HO_1:=n1_;have HO247:=n2_;have HO250:=n3_;have HB:=n4_;clear n0_ n1_ n2_ n3_ n4_;(try clear hb);(try clear hb2);(try clear hk);(try clear hi);(try clear ho0);(try clear ho1)))
        go_roundg k1
        case measure=>have:=HK1.out;omega
        case rel=>exact ⟨(x1_1),(t248),H',⟨by have:=HK1.out;omega⟩,⟨by (with_reducible repeat (first|apply Kd.V_alloc|apply Kd.V_drewN|apply Kd.V_drew));exact Kd.V_mono HO_1.out (fun _ hk=>hk.1)⟩,⟨by (with_reducible repeat (first|apply Kd.V_alloc|apply Kd.V_drewN|apply Kd.V_drew));exact Kd.V_mono HO250.out (fun _ hk=>hk.1)⟩,⟨by repeat (first|(with_reducible first|exact HB.out|apply below_alloc|apply pw_below_drewN|apply below_drew1)|exact HB.out)⟩⟩
      · rw [if_neg c3] at H
        have c3b0:decide (0<(x1_1.length:Int))=false:=decide_eq_false c3
        have c3b1:decide (0<x1_1.length)=false:=decide_eq_false (by omega)
        clear c3
        obtain rfl:=Option.some.inj H
        obtain ⟨Ao8,co8,eo8⟩:=Kd.V_slice HO_1.out
        subst eo8
        go_wp2
        go_ret
        exact ⟨_,by first|rfl|(simp [errW_none,errW_some]<;>rfl)|(simp [*,errW_none,errW_some]<;>rfl),by (with_reducible repeat (first|apply Kd.V_alloc|apply Kd.V_drewN|apply Kd.V_drew));exact HO_0.out,by repeat (first|(with_reducible first|exact HB.out|apply below_alloc|apply pw_below_drewN|apply below_drew1)|exact HB.out)⟩
mutual
def gimbalref90_NPlus.l0:Nat→List Int→List Int→List Int→Int→Int→Option (List Int)
  | 0,_,_,_,_,_=>none
  | k+1,x5,x6,x7,x8,x9=>if x9<(x5.length:Int) then (gimbalref90_NPlus.j1 k x5 x6 x7 x8 x9 true) else (gimbalref90_NPlus.j1 k x5 x6 x7 x8 x9 (decide (x9<(x6.length:Int))))
def gimbalref90_NPlus.j1:Nat→List Int→List Int→List Int→Int→Int→Bool→Option (List Int)
  | 0,_,_,_,_,_,_=>none
  | k+1,x5,x6,x7,x8,x9,x23=>if x23=true then (if x9<(x5.length:Int) then (if 0≤x9 then (if x9<(x6.length:Int) then (if x7.length<35184372088832 then (gimbalref90_NPlus.l0 k x5 x6 (x7++[(IntKind.u64.wrap ((IntKind.u64.wrap (x8+(IntKind.u64.wrap (rd x5 x9))))+(IntKind.u64.wrap (rd x6 x9))))%4294967296]) ((IntKind.u64.wrap ((IntKind.u64.wrap (x8+(IntKind.u64.wrap (rd x5 x9))))+(IntKind.u64.wrap (rd x6 x9))))/4294967296) (wrap64 (x9+1))) else (none)) else (if x7.length<35184372088832 then (gimbalref90_NPlus.l0 k x5 x6 (x7++[(IntKind.u64.wrap (x8+(IntKind.u64.wrap (rd x5 x9))))%4294967296]) ((IntKind.u64.wrap (x8+(IntKind.u64.wrap (rd x5 x9))))/4294967296) (wrap64 (x9+1))) else (none))) else (none)) else (if x9<(x6.length:Int) then (if 0≤x9 then (if x7.length<35184372088832 then (gimbalref90_NPlus.l0 k x5 x6 (x7++[(IntKind.u64.wrap (x8+(IntKind.u64.wrap (rd x6 x9))))%4294967296]) ((IntKind.u64.wrap (x8+(IntKind.u64.wrap (rd x6 x9))))/4294967296) (wrap64 (x9+1))) else (none)) else (none)) else (if x7.length<35184372088832 then (gimbalref90_NPlus.l0 k x5 x6 (x7++[(x8)%4294967296]) (x8/4294967296) (wrap64 (x9+1))) else (none)))) else (if x7.length<35184372088832 then ((gimbalref90_cut.f k (x7++[(x8)%4294967296])).bind fun t260=>((gimbalref90_whole.f k t260).bind fun t263=>(some t263))) else (none))
end
def gimbalref90_NPlus.f (k:Nat) (l0:List Int) (l1:List Int):Option (List Int):=(gimbalref90_halves.f k l0).bind fun t251=>((gimbalref90_halves.f k l1).bind fun t254=>(gimbalref90_NPlus.l0 k t251 t254 ([]:List Int) 0 0))
theorem gimbalref90_NPlus.mono_l:∀ k,(∀ y0 y1 y2 y3 y4,LeO (gimbalref90_NPlus.l0 k y0 y1 y2 y3 y4) (gimbalref90_NPlus.l0 (k+1) y0 y1 y2 y3 y4))∧(∀ y0 y1 y2 y3 y4 y5,LeO (gimbalref90_NPlus.j1 k y0 y1 y2 y3 y4 y5) (gimbalref90_NPlus.j1 (k+1) y0 y1 y2 y3 y4 y5))
  | 0=>⟨fun _ _ _ _ _ r h=>by simp [gimbalref90_NPlus.l0] at h,fun _ _ _ _ _ _ r h=>by simp [gimbalref90_NPlus.j1] at h⟩
  | k + 1 => by
    obtain ⟨ih0,ih1⟩:=gimbalref90_NPlus.mono_l k
    refine ⟨?_,?_⟩
    · intro y0 y1 y2 y3 y4
      unfold gimbalref90_NPlus.l0
      repeat' first
      | (with_reducible exact ih0 _ _ _ _ _)
      | (with_reducible exact ih1 _ _ _ _ _ _)
      | (with_reducible exact gimbalref90_cut.mono _ _)
      | (with_reducible exact gimbalref90_halves.mono _ _)
      | (with_reducible exact gimbalref90_whole.mono _ _)
      | (with_reducible exact LeO.refl _)
      | (with_reducible exact LeO.none _)
      | (with_reducible refine LeO.ite ?_ ?_)
      | (with_reducible refine LeO.bind ?_ (fun _=>?_))
      | exact ih0 _ _ _ _ _
      | exact ih1 _ _ _ _ _ _
      | exact gimbalref90_cut.mono _ _
      | exact gimbalref90_halves.mono _ _
      | exact gimbalref90_whole.mono _ _
      | exact LeO.none _
      | refine LeO.ite ?_ ?_
      | refine LeO.bind ?_ (fun _=>?_)
    · intro y0 y1 y2 y3 y4 y5
      unfold gimbalref90_NPlus.j1
      repeat' first
      | (with_reducible exact ih0 _ _ _ _ _)
      | (with_reducible exact ih1 _ _ _ _ _ _)
      | (with_reducible exact gimbalref90_cut.mono _ _)
      | (with_reducible exact gimbalref90_halves.mono _ _)
      | (with_reducible exact gimbalref90_whole.mono _ _)
      | (with_reducible exact LeO.refl _)
      | (with_reducible exact LeO.none _)
      | (with_reducible refine LeO.ite ?_ ?_)
      | (with_reducible refine LeO.bind ?_ (fun _=>?_))
      | exact ih0 _ _ _ _ _
      | exact ih1 _ _ _ _ _ _
      | exact gimbalref90_cut.mono _ _
      | exact gimbalref90_halves.mono _ _
      | exact gimbalref90_whole.mono _ _
      | exact LeO.none _
      | refine LeO.ite ?_ ?_
      | refine LeO.bind ?_ (fun _=>?_)
theorem gimbalref90_NPlus.mono:∀ a0 a1 k,LeO (gimbalref90_NPlus.f k a0 a1) (gimbalref90_NPlus.f (k+1) a0 a1):=by
  intro a0 a1 k
  obtain ⟨ih0,ih1⟩:=gimbalref90_NPlus.mono_l k
  unfold gimbalref90_NPlus.f
  repeat' first
      | (with_reducible exact ih0 _ _ _ _ _)
      | (with_reducible exact ih1 _ _ _ _ _ _)
      | (with_reducible exact gimbalref90_cut.mono _ _)
      | (with_reducible exact gimbalref90_halves.mono _ _)
      | (with_reducible exact gimbalref90_whole.mono _ _)
      | (with_reducible exact LeO.refl _)
      | (with_reducible exact LeO.none _)
      | (with_reducible refine LeO.ite ?_ ?_)
      | (with_reducible refine LeO.bind ?_ (fun _=>?_))
      | exact ih0 _ _ _ _ _
      | exact ih1 _ _ _ _ _ _
      | exact gimbalref90_cut.mono _ _
      | exact gimbalref90_halves.mono _ _
      | exact gimbalref90_whole.mono _ _
      | exact LeO.none _
      | refine LeO.ite ?_ ?_
      | refine LeO.bind ?_ (fun _=>?_)
set_option maxHeartbeats 8000000 in
set_option maxRecDepth 100000 in
theorem gimbalref90_NPlus.calls (k:Nat) (A0:Option Addr) (c0:Nat) (l0:List Int) (A1:Option Addr) (c1:Nat) (l1:List Int) (r:List Int) (w:World) (hr0:Kd.C (Kd.int .u64) w A0 l0.length l0) (hc0:l0.length≤c0) (hr1:Kd.C (Kd.int .u64) w A1 l1.length l1) (hc1:l1.length≤c1) (h:gimbalref90_NPlus.f k l0 l1=some r) :
    Calls Tryz.prog 95 #[.slice A0 l0.length c0,.slice A1 l1.length c1] w fun e w'=>∃ v0_:Value,e = .returned (v0_)∧Kd.R (Kd.int .u64) 94 w' w.heap.size (fun _=>True) v0_ r∧Below w.heap.size w w':=by
  have HR0:=Aside0.mk hr0
  have HC0:=Aside0.mk hc0
  clear hr0 hc0
  have HR1:=Aside0.mk hr1
  have HC1:=Aside0.mk hc1
  clear hr1 hc1
  have HB:=Aside0.mk (Below.refl w.heap.size w)
  have H:((gimbalref90_halves.f k l0).bind fun t251=>((gimbalref90_halves.f k l1).bind fun t254=>(gimbalref90_NPlus.l0 k t251 t254 ([]:List Int) 0 0)))=some r:=h
  clear h
  replace H:=Option.bind_eq_some_iff.mp H
  obtain ⟨t251,A30,H⟩:=H
  replace H:((gimbalref90_halves.f k l1).bind fun t254=>(gimbalref90_NPlus.l0 k t251 t254 ([]:List Int) 0 0))=some r:=H
  have A3:=Aside0.mk A30
  clear A30
  replace H:=Option.bind_eq_some_iff.mp H
  obtain ⟨t254,A40,H⟩:=H
  replace H:(gimbalref90_NPlus.l0 k t251 t254 ([]:List Int) 0 0)=some r:=H
  have A4:=Aside0.mk A40
  clear A40
  have H':=Aside0.mk H
  clear H
  go_enter Tryz.func95,Tryz.ntmps95
  go_wp2_with (first|((with_reducible refine gate_callee (f:=115) rfl ?_);refine goesL_ (some 11) rfl rfl Tryz.func115 (by kernel_rfl) rfl #[.slice A0 l0.length c0] rfl (by (try simp only [List.map_toArray,List.map_cons,List.map_nil]);first|done|rfl|(simp only [List.length_drop,List.length_take];rfl)) ?_;(with_reducible refine (gimbalref90_halves.calls k _ _ l0 t251 _ ?side1 ?side2 A3.out).mono ?_);(case side1=>repeat (first|exact HR0.out|(with_reducible refine Kd.C_alloc ?_ _)|(with_reducible refine Kd.C_drewN ?_ _)|(with_reducible refine Kd.C_drew ?_)));(case side2=>exact HC0.out);rintro e w5 ⟨v252,rfl,ho0,hb⟩;refine ⟨_,rfl,?_⟩;have n0_:=Aside0.mk (Kd.R_lower ho0 (below_size (by repeat (first|(with_reducible first|exact HB.out|apply below_alloc|apply pw_below_drewN|apply below_drew1)|exact HB.out))));have n1_:=Aside0.mk (below_step (by repeat (first|(with_reducible first|exact HB.out|apply below_alloc|apply pw_below_drewN|apply below_drew1)|exact HB.out)) hb);clear HB;have HO253:=n0_;have HB:=n1_;clear n0_ n1_;(try clear hb);(try clear hb2);(try clear hk);(try clear hi);(try clear ho0))|((with_reducible refine gate_callee (f:=115) rfl ?_);refine goesL_ (some 13) rfl rfl Tryz.func115 (by kernel_rfl) rfl #[.slice A1 l1.length c1] rfl (by (try simp only [List.map_toArray,List.map_cons,List.map_nil]);first|done|rfl|(simp only [List.length_drop,List.length_take];rfl)) ?_;(with_reducible refine (gimbalref90_halves.calls k _ _ l1 t254 _ ?side1 ?side2 A4.out).mono ?_);(case side1=>repeat (first|exact (Kd.C_below HR1.out HB.out)|(with_reducible refine Kd.C_alloc ?_ _)|(with_reducible refine Kd.C_drewN ?_ _)|(with_reducible refine Kd.C_drew ?_)));(case side2=>exact HC1.out);rintro e w6 ⟨v255,rfl,ho0,hb⟩;refine ⟨_,rfl,?_⟩;have n0_:=Aside0.mk (Kd.R_elder' (by (with_reducible repeat (first|apply Kd.R_alloc|apply Kd.R_drewN|apply Kd.R_drew));exact HO253.out) (Kd.R_base ho0) hb);have n1_:=Aside0.mk (Kd.R_lower (Kd.R_new' ho0 (Kd.R_lt (by (with_reducible repeat (first|apply Kd.R_alloc|apply Kd.R_drewN|apply Kd.R_drew));exact HO253.out))) (below_size (by repeat (first|(with_reducible first|exact HB.out|apply below_alloc|apply pw_below_drewN|apply below_drew1)|exact HB.out))));have n2_:=Aside0.mk (below_step (by repeat (first|(with_reducible first|exact HB.out|apply below_alloc|apply pw_below_drewN|apply below_drew1)|exact HB.out)) hb);clear HO253;clear HB;have HO253:=n0_;have HO256:=n1_;have HB:=n2_;clear n0_ n1_ n2_;(try clear hb);(try clear hb2);(try clear hk);(try clear hi);(try clear ho0)))
  go_loopg [7,8,9] k (fun kq v7 v8 v9 w'=>∃ (x7_1:List Int) (x8_1:Int) (x9_1:Int),v8 = .int .u64 x8_1∧v9 = .int .i64 x9_1∧Aside0 (gimbalref90_NPlus.l0 kq t251 t254 x7_1 x8_1 x9_1=some r)∧Aside0 (kq≤k)∧Aside0 (Kd.R (Kd.int .u32) 130 w' w.heap.size (fun k_=>some k_≠(v255:Value).ownBlock∧some k_≠(v7:Value).ownBlock) v252 t251)∧Aside0 (Kd.R (Kd.int .u32) 130 w' w.heap.size (fun k_=>some k_≠(v252:Value).ownBlock∧some k_≠(v7:Value).ownBlock) v255 t254)∧Aside0 (Kd.R (Kd.int .u32) 130 w' w.heap.size (fun k_=>some k_≠(v252:Value).ownBlock∧some k_≠(v255:Value).ownBlock) v7 x7_1)∧Aside0 (Below w.heap.size w w'))
  case atStart=>exact ⟨(([]:List Int)),(0),(0),(by first|rfl|(simp;done)|(simp [*];done)),(by first|rfl|(simp;done)|(simp [*];done)),H',⟨Nat.le_refl _⟩,⟨by (with_reducible repeat (first|apply Kd.R_alloc|apply Kd.R_drewN|apply Kd.R_drew));exact Kd.R_mono HO253.out (fun _ hk=>⟨hk.2,(by simp [Value.ownBlock])⟩)⟩,⟨by (with_reducible repeat (first|apply Kd.R_alloc|apply Kd.R_drewN|apply Kd.R_drew));exact Kd.R_mono HO256.out (fun _ hk=>⟨hk.2,(by simp [Value.ownBlock])⟩)⟩,⟨by first|exact Kd.R_nil _ _ _ _ _|exact Kd.N_nil _ _ _ _ _|exact Kd.V_nil _ _ _ _ _|exact Kd.Q_nil _ _ _ _ _|exact Kd.S_nil _ _ _ _ _⟩,⟨by repeat (first|(with_reducible first|exact HB.out|apply below_alloc|apply pw_below_drewN|apply below_drew1)|exact HB.out)⟩⟩
  case round =>
    clear H'
    try clear c1
    try clear p2
    obtain ⟨x7_1,x8_1,x9_1,rfl,rfl,HA,HK1,HO_5,HO_6,HO_7,HB⟩:=hrel
    cases gk with
    | zero=>exact absurd HA.out (by simp [gimbalref90_NPlus.l0])
    | succ k1 =>
      have H:=HA.out
      clear HA
      simp only [gimbalref90_NPlus.l0] at H
      have HC7:=Aside0.mk H
      clear H
      go_upto_region 6 with (fail)
      go_cut [23] (fun v23 wc=>∃ (kq:Nat) (x23_6:Bool),v23 = .bool x23_6∧Aside0 (gimbalref90_NPlus.j1 kq t251 t254 x7_1 x8_1 x9_1 x23_6=some r)∧Aside0 (kq≤k1)∧Aside0 (Kd.R (Kd.int .u32) 130 wc w.heap.size (fun k_=>some k_≠(v255:Value).ownBlock∧some k_≠(u7:Value).ownBlock) v252 t251)∧Aside0 (Kd.R (Kd.int .u32) 130 wc w.heap.size (fun k_=>some k_≠(v252:Value).ownBlock∧some k_≠(u7:Value).ownBlock) v255 t254)∧Aside0 (Kd.R (Kd.int .u32) 130 wc w.heap.size (fun k_=>some k_≠(v252:Value).ownBlock∧some k_≠(v255:Value).ownBlock) u7 x7_1)∧Aside0 (Below w.heap.size w wc))
      case first =>
        have H:=HC7.out
        clear HC7
        by_cases c8:x9_1<(t251.length:Int)
        · rw [if_pos c8] at H
          have c8b0:decide (x9_1<(t251.length:Int))=true:=decide_eq_true c8
          clear c8
          (first|rw [c8b0]|(simp only [i64_w,i32_w];rw [c8b0])|skip)
          have H':=Aside0.mk H
          clear H
          obtain ⟨Ao9,co9,eo9⟩:=Kd.R_slice HO_5.out
          subst eo9
          go_wp2
          go_meet
          case rel=>exact ⟨_,(true),(by first|rfl|(simp;done)|(simp [*];done)),H',⟨by have:=HK1.out;first|omega|exact Nat.le_refl _⟩,⟨by (with_reducible repeat (first|apply Kd.R_alloc|apply Kd.R_drewN|apply Kd.R_drew));exact HO_5.out⟩,⟨by (with_reducible repeat (first|apply Kd.R_alloc|apply Kd.R_drewN|apply Kd.R_drew));exact HO_6.out⟩,⟨by (with_reducible repeat (first|apply Kd.R_alloc|apply Kd.R_drewN|apply Kd.R_drew));exact HO_7.out⟩,⟨by repeat (first|(with_reducible first|exact HB.out|apply below_alloc|apply pw_below_drewN|apply below_drew1)|exact HB.out)⟩⟩
        · rw [if_neg c8] at H
          have c8b0:decide (x9_1<(t251.length:Int))=false:=decide_eq_false c8
          clear c8
          (first|rw [c8b0]|(simp only [i64_w,i32_w];rw [c8b0])|skip)
          have H':=Aside0.mk H
          clear H
          obtain ⟨Ao10,co10,eo10⟩:=Kd.R_slice HO_5.out
          subst eo10
          obtain ⟨Ao11,co11,eo11⟩:=Kd.R_slice HO_6.out
          subst eo11
          go_wp2
          go_meet
          case rel=>exact ⟨_,(decide (x9_1<(t254.length:Int))),(by first|rfl|(simp;done)|(simp [*];done)),H',⟨by have:=HK1.out;first|omega|exact Nat.le_refl _⟩,⟨by (with_reducible repeat (first|apply Kd.R_alloc|apply Kd.R_drewN|apply Kd.R_drew));exact HO_5.out⟩,⟨by (with_reducible repeat (first|apply Kd.R_alloc|apply Kd.R_drewN|apply Kd.R_drew));exact HO_6.out⟩,⟨by (with_reducible repeat (first|apply Kd.R_alloc|apply Kd.R_drewN|apply Kd.R_drew));exact HO_7.out⟩,⟨by repeat (first|(with_reducible first|exact HB.out|apply below_alloc|apply pw_below_drewN|apply below_drew1)|exact HB.out)⟩⟩
      case rest =>
        clear HC7
        try clear c1
        try clear p2
        try clear c8
        try clear c8b0
        try clear c9
        try clear c11
        try clear p2
        obtain ⟨kq,x23_6,rfl,HA,HJ6,HO_5,HO_6,HO_7,HB⟩:=hcut
        cases kq with
        | zero=>exact absurd HA.out (by simp [gimbalref90_NPlus.j1])
        | succ kj6 =>
          have H:=HA.out
          clear HA
          simp only [gimbalref90_NPlus.j1] at H
          by_cases c12:x23_6=true
          · subst c12
            have H1:(if x9_1<(t251.length:Int) then (if 0≤x9_1 then (if x9_1<(t254.length:Int) then (if x7_1.length<35184372088832 then (gimbalref90_NPlus.l0 kj6 t251 t254 (x7_1++[(IntKind.u64.wrap ((IntKind.u64.wrap (x8_1+(IntKind.u64.wrap (rd t251 x9_1))))+(IntKind.u64.wrap (rd t254 x9_1))))%4294967296]) ((IntKind.u64.wrap ((IntKind.u64.wrap (x8_1+(IntKind.u64.wrap (rd t251 x9_1))))+(IntKind.u64.wrap (rd t254 x9_1))))/4294967296) (wrap64 (x9_1+1))) else (none)) else (if x7_1.length<35184372088832 then (gimbalref90_NPlus.l0 kj6 t251 t254 (x7_1++[(IntKind.u64.wrap (x8_1+(IntKind.u64.wrap (rd t251 x9_1))))%4294967296]) ((IntKind.u64.wrap (x8_1+(IntKind.u64.wrap (rd t251 x9_1))))/4294967296) (wrap64 (x9_1+1))) else (none))) else (none)) else (if x9_1<(t254.length:Int) then (if 0≤x9_1 then (if x7_1.length<35184372088832 then (gimbalref90_NPlus.l0 kj6 t251 t254 (x7_1++[(IntKind.u64.wrap (x8_1+(IntKind.u64.wrap (rd t254 x9_1))))%4294967296]) ((IntKind.u64.wrap (x8_1+(IntKind.u64.wrap (rd t254 x9_1))))/4294967296) (wrap64 (x9_1+1))) else (none)) else (none)) else (if x7_1.length<35184372088832 then (gimbalref90_NPlus.l0 kj6 t251 t254 (x7_1++[(x8_1)%4294967296]) (x8_1/4294967296) (wrap64 (x9_1+1))) else (none))))=some r:=by rw [if_pos rfl] at H;exact H
            clear H
            have H:=H1
            clear H1
            by_cases c13:x9_1<(t251.length:Int)
            · rw [if_pos c13] at H
              have c13b0:decide (x9_1<(t251.length:Int))=true:=decide_eq_true c13
              clear c13
              by_cases c14:0≤x9_1
              · rw [if_pos c14] at H
                have c14b0:decide (0≤x9_1)=true:=decide_eq_true c14
                clear c14
                by_cases c15:x9_1<(t254.length:Int)
                · rw [if_pos c15] at H
                  have c15b0:decide (x9_1<(t254.length:Int))=true:=decide_eq_true c15
                  clear c15
                  by_cases c16:x7_1.length<35184372088832
                  · rw [if_pos c16] at H
                    have LMc16:=Aside0.mk c16
                    clear c16
                    obtain ⟨y268,hy268⟩:∃ y_:List Int,y_=(x7_1++[(IntKind.u64.wrap ((IntKind.u64.wrap (x8_1+(IntKind.u64.wrap (rd t251 x9_1))))+(IntKind.u64.wrap (rd t254 x9_1))))%4294967296]):=⟨_,rfl⟩
                    replace H:(gimbalref90_NPlus.l0 kj6 t251 t254 y268 ((IntKind.u64.wrap ((IntKind.u64.wrap (x8_1+(IntKind.u64.wrap (rd t251 x9_1))))+(IntKind.u64.wrap (rd t254 x9_1))))/4294967296) (wrap64 (x9_1+1)))=some r:=by first|(rw [hy268];with_reducible exact H)|(have H2_:=(Option.bind_some _ _).symm.trans H;rw [hy268];with_reducible exact H2_)|(have H2_:=(Option.bind_some _ _).symm.trans H;with_reducible exact H2_)|with_reducible exact H|(rw [hy268];exact H)|exact H
                    have Ny268:=Aside0.mk hy268
                    clear hy268
                    have H':=Aside0.mk H
                    clear H
                    obtain ⟨Ao17,co17,eo17⟩:=Kd.R_slice HO_5.out
                    subst eo17
                    have p266:0≤(x9_1:Int):=of_decide_eq_true (by first|(with_reducible assumption)|assumption)
                    have q266:x9_1<(t251.length:Int):=of_decide_eq_true (by first|(with_reducible assumption)|assumption)
                    obtain ⟨ad266,e266,hx266_0⟩:=Kd.at_int (Kd.R_reads' HO_5.out).2.2 x9_1 p266 q266
                    cases e266
                    replace p266:=eq_true p266
                    replace q266:=eq_true q266
                    obtain ⟨Ao18,co18,eo18⟩:=Kd.R_slice HO_6.out
                    subst eo18
                    have p267:0≤(x9_1:Int):=of_decide_eq_true (by first|(with_reducible assumption)|assumption)
                    have q267:x9_1<(t254.length:Int):=of_decide_eq_true (by first|(with_reducible assumption)|assumption)
                    obtain ⟨ad267,e267,hx267_0⟩:=Kd.at_int (Kd.R_reads' HO_6.out).2.2 x9_1 p267 q267
                    cases e267
                    replace p267:=eq_true p267
                    replace q267:=eq_true q267
                    go_wp2_with (first|((with_reducible refine gate_builtin (b := .append) (xs:=#[.tmp 48,.tmp 51]) rfl ?_);(try (refine gate_guard (by rfl) ?_;dsimp only));at_builtin;refine Kd.R_append (Kd.int .u32) (w0:=w) w.heap.size rfl (.tmp 48) (.tmp 51) 128 130 (.int .u32 0) 4 rfl Tryz.underlying128 info130 rfl (by decide) (by omega) u7 x7_1 ((IntKind.u64.wrap ((IntKind.u64.wrap (x8_1+(IntKind.u64.wrap (rd t251 x9_1))))+(IntKind.u64.wrap (rd t254 x9_1))))%4294967296) [.int .u32 ((IntKind.u64.wrap ((IntKind.u64.wrap (x8_1+(IntKind.u64.wrap (rd t251 x9_1))))+(IntKind.u64.wrap (rd t254 x9_1))))%4294967296)] (fun k_=>some k_≠(.slice (some ad266) t251.length co17:Value).ownBlock∧some k_≠(.slice (some ad267) t254.length co18:Value).ownBlock) (fun _=>False) rfl rfl ?aP (fun _ hk=>hk.elim) ?aF ?aO ?aB ?aS ?aL ?_;(case aP=>exact rfl);(case aB=>exact (by repeat (first|(with_reducible first|exact HB.out|apply below_alloc|apply pw_below_drewN|apply below_drew1)|exact HB.out)));(case aF=>exact (fun k_ hk=>⟨Kd.fresh' (Kd.R_lt (by (with_reducible repeat (first|apply Kd.R_alloc|apply Kd.R_drewN|apply Kd.R_drew));exact HO_5.out)) k_ hk,Kd.fresh' (Kd.R_lt (by (with_reducible repeat (first|apply Kd.R_alloc|apply Kd.R_drewN|apply Kd.R_drew));exact HO_6.out)) k_ hk⟩));(case aO=>exact (by (with_reducible repeat (first|apply Kd.R_alloc|apply Kd.R_drewN|apply Kd.R_drew));exact HO_7.out));(case aS=>exact (below_size (by repeat (first|(with_reducible first|exact HB.out|apply below_alloc|apply pw_below_drewN|apply below_drew1)|exact HB.out))));(case aL=>have:=LMc16.out;omega);intro v269 w19 ho hb hg hat;rw [← Ny268.out] at ho;have n0_:=Aside0.mk (Kd.R_after (ok:=(fun k_=>some k_≠(.slice (some ad267) t254.length co18:Value).ownBlock)) (by (with_reducible repeat (first|apply Kd.R_alloc|apply Kd.R_drewN|apply Kd.R_drew));exact HO_5.out) hg hat);have n1_:=Aside0.mk (Kd.R_after (ok:=(fun k_=>some k_≠(.slice (some ad266) t251.length co17:Value).ownBlock)) (by (with_reducible repeat (first|apply Kd.R_alloc|apply Kd.R_drewN|apply Kd.R_drew));exact HO_6.out) hg hat);have n2_:=Aside0.mk (hb);have n3_:=Aside0.mk (ho);clear HO_5;clear HO_6;clear HB;clear HO_7;have HO_5:=n0_;have HO_6:=n1_;have HB:=n2_;have HO270:=n3_;clear n0_ n1_ n2_ n3_;clear ho hb hg hat))
                    go_roundg kj6
                    case measure=>have:=HK1.out;have:=HJ6.out;omega
                    case rel=>exact ⟨(y268),((IntKind.u64.wrap ((IntKind.u64.wrap (x8_1+(IntKind.u64.wrap (rd t251 x9_1))))+(IntKind.u64.wrap (rd t254 x9_1))))/4294967296),(wrap64 (x9_1+1)),(by first|rfl|(simp;done)|(simp [*];done)),(by first|rfl|(simp;done)|(simp [*];done)),H',⟨by have:=HK1.out;have:=HJ6.out;omega⟩,⟨by (with_reducible repeat (first|apply Kd.R_alloc|apply Kd.R_drewN|apply Kd.R_drew));exact HO_5.out⟩,⟨by (with_reducible repeat (first|apply Kd.R_alloc|apply Kd.R_drewN|apply Kd.R_drew));exact HO_6.out⟩,⟨by (with_reducible repeat (first|apply Kd.R_alloc|apply Kd.R_drewN|apply Kd.R_drew));exact HO270.out⟩,⟨by repeat (first|(with_reducible first|exact HB.out|apply below_alloc|apply pw_below_drewN|apply below_drew1)|exact HB.out)⟩⟩
                  · rw [if_neg c16] at H
                    exact absurd H (by simp)
                · rw [if_neg c15] at H
                  have c15b0:decide (x9_1<(t254.length:Int))=false:=decide_eq_false c15
                  clear c15
                  by_cases c20:x7_1.length<35184372088832
                  · rw [if_pos c20] at H
                    have LMc20:=Aside0.mk c20
                    clear c20
                    obtain ⟨y271,hy271⟩:∃ y_:List Int,y_=(x7_1++[(IntKind.u64.wrap (x8_1+(IntKind.u64.wrap (rd t251 x9_1))))%4294967296]):=⟨_,rfl⟩
                    replace H:(gimbalref90_NPlus.l0 kj6 t251 t254 y271 ((IntKind.u64.wrap (x8_1+(IntKind.u64.wrap (rd t251 x9_1))))/4294967296) (wrap64 (x9_1+1)))=some r:=by first|(rw [hy271];with_reducible exact H)|(have H2_:=(Option.bind_some _ _).symm.trans H;rw [hy271];with_reducible exact H2_)|(have H2_:=(Option.bind_some _ _).symm.trans H;with_reducible exact H2_)|with_reducible exact H|(rw [hy271];exact H)|exact H
                    have Ny271:=Aside0.mk hy271
                    clear hy271
                    have H':=Aside0.mk H
                    clear H
                    obtain ⟨Ao21,co21,eo21⟩:=Kd.R_slice HO_5.out
                    subst eo21
                    have p266:0≤(x9_1:Int):=of_decide_eq_true (by first|(with_reducible assumption)|assumption)
                    have q266:x9_1<(t251.length:Int):=of_decide_eq_true (by first|(with_reducible assumption)|assumption)
                    obtain ⟨ad266,e266,hx266_0⟩:=Kd.at_int (Kd.R_reads' HO_5.out).2.2 x9_1 p266 q266
                    cases e266
                    replace p266:=eq_true p266
                    replace q266:=eq_true q266
                    obtain ⟨Ao22,co22,eo22⟩:=Kd.R_slice HO_6.out
                    subst eo22
                    go_wp2_with (first|((with_reducible refine gate_builtin (b := .append) (xs:=#[.tmp 48,.tmp 51]) rfl ?_);(try (refine gate_guard (by rfl) ?_;dsimp only));at_builtin;refine Kd.R_append (Kd.int .u32) (w0:=w) w.heap.size rfl (.tmp 48) (.tmp 51) 128 130 (.int .u32 0) 4 rfl Tryz.underlying128 info130 rfl (by decide) (by omega) u7 x7_1 ((IntKind.u64.wrap (x8_1+(IntKind.u64.wrap (rd t251 x9_1))))%4294967296) [.int .u32 ((IntKind.u64.wrap (x8_1+(IntKind.u64.wrap (rd t251 x9_1))))%4294967296)] (fun k_=>some k_≠(.slice (some ad266) t251.length co21:Value).ownBlock∧some k_≠(.slice Ao22 t254.length co22:Value).ownBlock) (fun _=>False) rfl rfl ?aP (fun _ hk=>hk.elim) ?aF ?aO ?aB ?aS ?aL ?_;(case aP=>exact rfl);(case aB=>exact (by repeat (first|(with_reducible first|exact HB.out|apply below_alloc|apply pw_below_drewN|apply below_drew1)|exact HB.out)));(case aF=>exact (fun k_ hk=>⟨Kd.fresh' (Kd.R_lt (by (with_reducible repeat (first|apply Kd.R_alloc|apply Kd.R_drewN|apply Kd.R_drew));exact HO_5.out)) k_ hk,Kd.fresh' (Kd.R_lt (by (with_reducible repeat (first|apply Kd.R_alloc|apply Kd.R_drewN|apply Kd.R_drew));exact HO_6.out)) k_ hk⟩));(case aO=>exact (by (with_reducible repeat (first|apply Kd.R_alloc|apply Kd.R_drewN|apply Kd.R_drew));exact HO_7.out));(case aS=>exact (below_size (by repeat (first|(with_reducible first|exact HB.out|apply below_alloc|apply pw_below_drewN|apply below_drew1)|exact HB.out))));(case aL=>have:=LMc20.out;omega);intro v272 w23 ho hb hg hat;rw [← Ny271.out] at ho;have n0_:=Aside0.mk (Kd.R_after (ok:=(fun k_=>some k_≠(.slice Ao22 t254.length co22:Value).ownBlock)) (by (with_reducible repeat (first|apply Kd.R_alloc|apply Kd.R_drewN|apply Kd.R_drew));exact HO_5.out) hg hat);have n1_:=Aside0.mk (Kd.R_after (ok:=(fun k_=>some k_≠(.slice (some ad266) t251.length co21:Value).ownBlock)) (by (with_reducible repeat (first|apply Kd.R_alloc|apply Kd.R_drewN|apply Kd.R_drew));exact HO_6.out) hg hat);have n2_:=Aside0.mk (hb);have n3_:=Aside0.mk (ho);clear HO_5;clear HO_6;clear HB;clear HO_7;have HO_5:=n0_;have HO_6:=n1_;have HB:=n2_;have HO273:=n3_;clear n0_ n1_ n2_ n3_;clear ho hb hg hat))
                    go_roundg kj6
                    case measure=>have:=HK1.out;have:=HJ6.out;omega
                    case rel=>exact ⟨(y271),((IntKind.u64.wrap (x8_1+(IntKind.u64.wrap (rd t251 x9_1))))/4294967296),(wrap64 (x9_1+1)),(by first|rfl|(simp;done)|(simp [*];done)),(by first|rfl|(simp;done)|(simp [*];done)),H',⟨by have:=HK1.out;have:=HJ6.out;omega⟩,⟨by (with_reducible repeat (first|apply Kd.R_alloc|apply Kd.R_drewN|apply Kd.R_drew));exact HO_5.out⟩,⟨by (with_reducible repeat (first|apply Kd.R_alloc|apply Kd.R_drewN|apply Kd.R_drew));exact HO_6.out⟩,⟨by (with_reducible repeat (first|apply Kd.R_alloc|apply Kd.R_drewN|apply Kd.R_drew));exact HO273.out⟩,⟨by repeat (first|(with_reducible first|exact HB.out|apply below_alloc|apply pw_below_drewN|apply below_drew1)|exact HB.out)⟩⟩
                  · rw [if_neg c20] at H
                    exact absurd H (by simp)
              · rw [if_neg c14] at H
                exact absurd H (by simp)
            · rw [if_neg c13] at H
              have c13b0:decide (x9_1<(t251.length:Int))=false:=decide_eq_false c13
              clear c13
              by_cases c24:x9_1<(t254.length:Int)
              · rw [if_pos c24] at H
                have c24b0:decide (x9_1<(t254.length:Int))=true:=decide_eq_true c24
                clear c24
                by_cases c25:0≤x9_1
                · rw [if_pos c25] at H
                  have c25b0:decide (0≤x9_1)=true:=decide_eq_true c25
                  clear c25
                  by_cases c26:x7_1.length<35184372088832
                  · rw [if_pos c26] at H
                    have LMc26:=Aside0.mk c26
                    clear c26
                    obtain ⟨y275,hy275⟩:∃ y_:List Int,y_=(x7_1++[(IntKind.u64.wrap (x8_1+(IntKind.u64.wrap (rd t254 x9_1))))%4294967296]):=⟨_,rfl⟩
                    replace H:(gimbalref90_NPlus.l0 kj6 t251 t254 y275 ((IntKind.u64.wrap (x8_1+(IntKind.u64.wrap (rd t254 x9_1))))/4294967296) (wrap64 (x9_1+1)))=some r:=by first|(rw [hy275];with_reducible exact H)|(have H2_:=(Option.bind_some _ _).symm.trans H;rw [hy275];with_reducible exact H2_)|(have H2_:=(Option.bind_some _ _).symm.trans H;with_reducible exact H2_)|with_reducible exact H|(rw [hy275];exact H)|exact H
                    have Ny275:=Aside0.mk hy275
                    clear hy275
                    have H':=Aside0.mk H
                    clear H
                    obtain ⟨Ao27,co27,eo27⟩:=Kd.R_slice HO_5.out
                    subst eo27
                    obtain ⟨Ao28,co28,eo28⟩:=Kd.R_slice HO_6.out
                    subst eo28
                    have p274:0≤(x9_1:Int):=of_decide_eq_true (by first|(with_reducible assumption)|assumption)
                    have q274:x9_1<(t254.length:Int):=of_decide_eq_true (by first|(with_reducible assumption)|assumption)
                    obtain ⟨ad274,e274,hx274_0⟩:=Kd.at_int (Kd.R_reads' HO_6.out).2.2 x9_1 p274 q274
                    cases e274
                    replace p274:=eq_true p274
                    replace q274:=eq_true q274
                    go_wp2_with (first|((with_reducible refine gate_builtin (b := .append) (xs:=#[.tmp 48,.tmp 51]) rfl ?_);(try (refine gate_guard (by rfl) ?_;dsimp only));at_builtin;refine Kd.R_append (Kd.int .u32) (w0:=w) w.heap.size rfl (.tmp 48) (.tmp 51) 128 130 (.int .u32 0) 4 rfl Tryz.underlying128 info130 rfl (by decide) (by omega) u7 x7_1 ((IntKind.u64.wrap (x8_1+(IntKind.u64.wrap (rd t254 x9_1))))%4294967296) [.int .u32 ((IntKind.u64.wrap (x8_1+(IntKind.u64.wrap (rd t254 x9_1))))%4294967296)] (fun k_=>some k_≠(.slice Ao27 t251.length co27:Value).ownBlock∧some k_≠(.slice (some ad274) t254.length co28:Value).ownBlock) (fun _=>False) rfl rfl ?aP (fun _ hk=>hk.elim) ?aF ?aO ?aB ?aS ?aL ?_;(case aP=>exact rfl);(case aB=>exact (by repeat (first|(with_reducible first|exact HB.out|apply below_alloc|apply pw_below_drewN|apply below_drew1)|exact HB.out)));(case aF=>exact (fun k_ hk=>⟨Kd.fresh' (Kd.R_lt (by (with_reducible repeat (first|apply Kd.R_alloc|apply Kd.R_drewN|apply Kd.R_drew));exact HO_5.out)) k_ hk,Kd.fresh' (Kd.R_lt (by (with_reducible repeat (first|apply Kd.R_alloc|apply Kd.R_drewN|apply Kd.R_drew));exact HO_6.out)) k_ hk⟩));(case aO=>exact (by (with_reducible repeat (first|apply Kd.R_alloc|apply Kd.R_drewN|apply Kd.R_drew));exact HO_7.out));(case aS=>exact (below_size (by repeat (first|(with_reducible first|exact HB.out|apply below_alloc|apply pw_below_drewN|apply below_drew1)|exact HB.out))));(case aL=>have:=LMc26.out;omega);intro v276 w29 ho hb hg hat;rw [← Ny275.out] at ho;have n0_:=Aside0.mk (Kd.R_after (ok:=(fun k_=>some k_≠(.slice (some ad274) t254.length co28:Value).ownBlock)) (by (with_reducible repeat (first|apply Kd.R_alloc|apply Kd.R_drewN|apply Kd.R_drew));exact HO_5.out) hg hat);have n1_:=Aside0.mk (Kd.R_after (ok:=(fun k_=>some k_≠(.slice Ao27 t251.length co27:Value).ownBlock)) (by (with_reducible repeat (first|apply Kd.R_alloc|apply Kd.R_drewN|apply Kd.R_drew));exact HO_6.out) hg hat);have n2_:=Aside0.mk (hb);have n3_:=Aside0.mk (ho);clear HO_5;clear HO_6;clear HB;clear HO_7;have HO_5:=n0_;have HO_6:=n1_;have HB:=n2_;have HO277:=n3_;clear n0_ n1_ n2_ n3_;clear ho hb hg hat))
                    go_roundg kj6
                    case measure=>have:=HK1.out;have:=HJ6.out;omega
                    case rel=>exact ⟨(y275),((IntKind.u64.wrap (x8_1+(IntKind.u64.wrap (rd t254 x9_1))))/4294967296),(wrap64 (x9_1+1)),(by first|rfl|(simp;done)|(simp [*];done)),(by first|rfl|(simp;done)|(simp [*];done)),H',⟨by have:=HK1.out;have:=HJ6.out;omega⟩,⟨by (with_reducible repeat (first|apply Kd.R_alloc|apply Kd.R_drewN|apply Kd.R_drew));exact HO_5.out⟩,⟨by (with_reducible repeat (first|apply Kd.R_alloc|apply Kd.R_drewN|apply Kd.R_drew));exact HO_6.out⟩,⟨by (with_reducible repeat (first|apply Kd.R_alloc|apply Kd.R_drewN|apply Kd.R_drew));exact HO277.out⟩,⟨by repeat (first|(with_reducible first|exact HB.out|apply below_alloc|apply pw_below_drewN|apply below_drew1)|exact HB.out)⟩⟩
                  · rw [if_neg c26] at H
                    exact absurd H (by simp)
                · rw [if_neg c25] at H
                  exact absurd H (by simp)
              · rw [if_neg c24] at H
                have c24b0:decide (x9_1<(t254.length:Int))=false:=decide_eq_false c24
                clear c24
                by_cases c30:x7_1.length<35184372088832
                · rw [if_pos c30] at H
                  have LMc30:=Aside0.mk c30
                  clear c30
                  obtain ⟨y278,hy278⟩:∃ y_:List Int,y_=(x7_1++[(x8_1)%4294967296]):=⟨_,rfl⟩
                  replace H:(gimbalref90_NPlus.l0 kj6 t251 t254 y278 (x8_1/4294967296) (wrap64 (x9_1+1)))=some r:=by first|(rw [hy278];with_reducible exact H)|(have H2_:=(Option.bind_some _ _).symm.trans H;rw [hy278];with_reducible exact H2_)|(have H2_:=(Option.bind_some _ _).symm.trans H;with_reducible exact H2_)|with_reducible exact H|(rw [hy278];exact H)|exact H
                  have Ny278:=Aside0.mk hy278
                  clear hy278
                  have H':=Aside0.mk H
                  clear H
                  obtain ⟨Ao31,co31,eo31⟩:=Kd.R_slice HO_5.out
                  subst eo31
                  obtain ⟨Ao32,co32,eo32⟩:=Kd.R_slice HO_6.out
                  subst eo32
                  go_wp2_with (first|((with_reducible refine gate_builtin (b := .append) (xs:=#[.tmp 48,.tmp 51]) rfl ?_);(try (refine gate_guard (by rfl) ?_;dsimp only));at_builtin;refine Kd.R_append (Kd.int .u32) (w0:=w) w.heap.size rfl (.tmp 48) (.tmp 51) 128 130 (.int .u32 0) 4 rfl Tryz.underlying128 info130 rfl (by decide) (by omega) u7 x7_1 ((x8_1)%4294967296) [.int .u32 ((x8_1)%4294967296)] (fun k_=>some k_≠(.slice Ao31 t251.length co31:Value).ownBlock∧some k_≠(.slice Ao32 t254.length co32:Value).ownBlock) (fun _=>False) rfl rfl ?aP (fun _ hk=>hk.elim) ?aF ?aO ?aB ?aS ?aL ?_;(case aP=>exact rfl);(case aB=>exact (by repeat (first|(with_reducible first|exact HB.out|apply below_alloc|apply pw_below_drewN|apply below_drew1)|exact HB.out)));(case aF=>exact (fun k_ hk=>⟨Kd.fresh' (Kd.R_lt (by (with_reducible repeat (first|apply Kd.R_alloc|apply Kd.R_drewN|apply Kd.R_drew));exact HO_5.out)) k_ hk,Kd.fresh' (Kd.R_lt (by (with_reducible repeat (first|apply Kd.R_alloc|apply Kd.R_drewN|apply Kd.R_drew));exact HO_6.out)) k_ hk⟩));(case aO=>exact (by (with_reducible repeat (first|apply Kd.R_alloc|apply Kd.R_drewN|apply Kd.R_drew));exact HO_7.out));(case aS=>exact (below_size (by repeat (first|(with_reducible first|exact HB.out|apply below_alloc|apply pw_below_drewN|apply below_drew1)|exact HB.out))));(case aL=>have:=LMc30.out;omega);intro v279 w33 ho hb hg hat;rw [← Ny278.out] at ho;have n0_:=Aside0.mk (Kd.R_after (ok:=(fun k_=>some k_≠(.slice Ao32 t254.length co32:Value).ownBlock)) (by (with_reducible repeat (first|apply Kd.R_alloc|apply Kd.R_drewN|apply Kd.R_drew));exact HO_5.out) hg hat);have n1_:=Aside0.mk (Kd.R_after (ok:=(fun k_=>some k_≠(.slice Ao31 t251.length co31:Value).ownBlock)) (by (with_reducible repeat (first|apply Kd.R_alloc|apply Kd.R_drewN|apply Kd.R_drew));exact HO_6.out) hg hat);have n2_:=Aside0.mk (hb);have n3_:=Aside0.mk (ho);clear HO_5;clear HO_6;clear HB;clear HO_7;have HO_5:=n0_;have HO_6:=n1_;have HB:=n2_;have HO280:=n3_;clear n0_ n1_ n2_ n3_;clear ho hb hg hat))
                  go_roundg kj6
                  case measure=>have:=HK1.out;have:=HJ6.out;omega
                  case rel=>exact ⟨(y278),(x8_1/4294967296),(wrap64 (x9_1+1)),(by first|rfl|(simp;done)|(simp [*];done)),(by first|rfl|(simp;done)|(simp [*];done)),H',⟨by have:=HK1.out;have:=HJ6.out;omega⟩,⟨by (with_reducible repeat (first|apply Kd.R_alloc|apply Kd.R_drewN|apply Kd.R_drew));exact HO_5.out⟩,⟨by (with_reducible repeat (first|apply Kd.R_alloc|apply Kd.R_drewN|apply Kd.R_drew));exact HO_6.out⟩,⟨by (with_reducible repeat (first|apply Kd.R_alloc|apply Kd.R_drewN|apply Kd.R_drew));exact HO280.out⟩,⟨by repeat (first|(with_reducible first|exact HB.out|apply below_alloc|apply pw_below_drewN|apply below_drew1)|exact HB.out)⟩⟩
                · rw [if_neg c30] at H
                  exact absurd H (by simp)
          · replace c12:=Bool.eq_false_iff.mpr c12
            subst c12
            have H1:(if x7_1.length<35184372088832 then ((gimbalref90_cut.f kj6 (x7_1++[(x8_1)%4294967296])).bind fun t260=>((gimbalref90_whole.f kj6 t260).bind fun t263=>(some t263))) else (none))=some r:=by rw [if_neg (show ¬ (false=true) by decide)] at H;exact H
            clear H
            have H:=H1
            clear H1
            by_cases c34:x7_1.length<35184372088832
            · rw [if_pos c34] at H
              have LMc34:=Aside0.mk c34
              clear c34
              obtain ⟨y257,hy257⟩:∃ y_:List Int,y_=(x7_1++[(x8_1)%4294967296]):=⟨_,rfl⟩
              replace H:((gimbalref90_cut.f kj6 y257).bind fun t260=>((gimbalref90_whole.f kj6 t260).bind fun t263=>(some t263)))=some r:=by first|(rw [hy257];with_reducible exact H)|(have H2_:=(Option.bind_some _ _).symm.trans H;rw [hy257];with_reducible exact H2_)|(have H2_:=(Option.bind_some _ _).symm.trans H;with_reducible exact H2_)|with_reducible exact H|(rw [hy257];exact H)|exact H
              have Ny257:=Aside0.mk hy257
              clear hy257
              replace H:=Option.bind_eq_some_iff.mp H
              obtain ⟨t260,A350,H⟩:=H
              replace H:((gimbalref90_whole.f kj6 t260).bind fun t263=>(some t263))=some r:=H
              have A35:=Aside0.mk A350
              clear A350
              replace H:=Option.bind_eq_some_iff.mp H
              obtain ⟨t263,A360,H⟩:=H
              replace H:(some t263)=some r:=H
              have A36:=Aside0.mk A360
              clear A360
              obtain rfl:=Option.some.inj H
              go_wp2_with (first|((with_reducible refine gate_builtin (b := .append) (xs:=#[.tmp 55,.tmp 58]) rfl ?_);(try (refine gate_guard (by rfl) ?_;dsimp only));at_builtin;refine Kd.R_append (Kd.int .u32) (w0:=w) w.heap.size rfl (.tmp 55) (.tmp 58) 128 130 (.int .u32 0) 4 rfl Tryz.underlying128 info130 rfl (by decide) (by omega) u7 x7_1 ((x8_1)%4294967296) [.int .u32 ((x8_1)%4294967296)] (fun k_=>some k_≠(v252:Value).ownBlock∧some k_≠(v255:Value).ownBlock) (fun _=>False) rfl rfl ?aP (fun _ hk=>hk.elim) ?aF ?aO ?aB ?aS ?aL ?_;(case aP=>exact rfl);(case aB=>exact (by repeat (first|(with_reducible first|exact HB.out|apply below_alloc|apply pw_below_drewN|apply below_drew1)|exact HB.out)));(case aF=>exact (fun k_ hk=>⟨Kd.fresh' (Kd.R_lt (by (with_reducible repeat (first|apply Kd.R_alloc|apply Kd.R_drewN|apply Kd.R_drew));exact HO_5.out)) k_ hk,Kd.fresh' (Kd.R_lt (by (with_reducible repeat (first|apply Kd.R_alloc|apply Kd.R_drewN|apply Kd.R_drew));exact HO_6.out)) k_ hk⟩));(case aO=>exact (by (with_reducible repeat (first|apply Kd.R_alloc|apply Kd.R_drewN|apply Kd.R_drew));exact HO_7.out));(case aS=>exact (below_size (by repeat (first|(with_reducible first|exact HB.out|apply below_alloc|apply pw_below_drewN|apply below_drew1)|exact HB.out))));(case aL=>have:=LMc34.out;omega);intro v258 w37 ho hb hg hat;rw [← Ny257.out] at ho;have n0_:=Aside0.mk (Kd.R_after (ok:=(fun k_=>some k_≠(v255:Value).ownBlock)) (by (with_reducible repeat (first|apply Kd.R_alloc|apply Kd.R_drewN|apply Kd.R_drew));exact HO_5.out) hg hat);have n1_:=Aside0.mk (Kd.R_after (ok:=(fun k_=>some k_≠(v252:Value).ownBlock)) (by (with_reducible repeat (first|apply Kd.R_alloc|apply Kd.R_drewN|apply Kd.R_drew));exact HO_6.out) hg hat);have n2_:=Aside0.mk (hb);have n3_:=Aside0.mk (ho);clear HO_5;clear HO_6;clear HB;clear HO_7;have HO_5:=n0_;have HO_6:=n1_;have HB:=n2_;have HO259:=n3_;clear n0_ n1_ n2_ n3_;clear ho hb hg hat;obtain ⟨Ao38,co38,eo38⟩:=Kd.R_slice HO259.out;subst eo38)|((with_reducible refine gate_callee (f:=120) rfl ?_);refine goesL_ (some 60) rfl rfl Tryz.func120 (by kernel_rfl) rfl #[.slice Ao38 y257.length co38] rfl (by (try simp only [List.map_toArray,List.map_cons,List.map_nil]);first|done|rfl|(simp only [List.length_drop,List.length_take];rfl)) ?_;(with_reducible refine (gimbalref90_cut.calls kj6 (fun k_=>some k_=(.slice Ao38 y257.length co38:Value).ownBlock) (.slice Ao38 y257.length co38) y257 t260 w _ ?side1 ?side2 A35.out).mono ?_);(case side1=>repeat (first|(with_reducible first|exact HB.out|apply below_alloc|apply pw_below_drewN|apply below_drew1)|exact HB.out));(case side2=>exact Kd.R_tight rfl HO259.out);rintro e w39 ⟨v261,rfl,ho0,hb,hkp⟩;refine ⟨_,rfl,?_⟩;have n0_:=Aside0.mk (Kd.R_mono (ok':=fun k_=>some k_≠(v255:Value).ownBlock∧some k_≠(v261:Value).ownBlock) (Kd.R_keptB (HO_5.out) hkp (fun k_ hk_ hs_=>(hk_.2) hs_)) (fun k_ hk_=>⟨hk_.1.1,fun e_=>Or.elim (ho0.1 k_ e_.symm) (fun hs_=>hk_.2.1 hs_) (fun hn_=>Nat.not_le.2 hk_.2.2 hn_)⟩));have n1_:=Aside0.mk (Kd.R_mono (ok':=fun k_=>some k_≠(v252:Value).ownBlock∧some k_≠(v261:Value).ownBlock) (Kd.R_keptB (HO_6.out) hkp (fun k_ hk_ hs_=>(hk_.2) hs_)) (fun k_ hk_=>⟨hk_.1.1,fun e_=>Or.elim (ho0.1 k_ e_.symm) (fun hs_=>hk_.2.1 hs_) (fun hn_=>Nat.not_le.2 hk_.2.2 hn_)⟩));have n2_:=Aside0.mk (Kd.R_mono (ok':=fun k_=>some k_≠(v252:Value).ownBlock∧some k_≠(v255:Value).ownBlock) ho0 (fun k_ hk_=>⟨Or.elim hk_ (fun hs_=>fun e_=>(((HO_5.out).1 k_ e_.symm).2) hs_) (fun hn_=>(Kd.fresh' (Kd.R_lt (by (with_reducible repeat (first|apply Kd.R_alloc|apply Kd.R_drewN|apply Kd.R_drew));exact HO_5.out)) k_ hn_)),Or.elim hk_ (fun hs_=>fun e_=>(((HO_6.out).1 k_ e_.symm).2) hs_) (fun hn_=>(Kd.fresh' (Kd.R_lt (by (with_reducible repeat (first|apply Kd.R_alloc|apply Kd.R_drewN|apply Kd.R_drew));exact HO_6.out)) k_ hn_))⟩));have n3_:=Aside0.mk (hb);clear HO_5;clear HO_6;clear HB;clear HO259;have HO_5:=n0_;have HO_6:=n1_;have HO262:=n2_;have HB:=n3_;clear n0_ n1_ n2_ n3_;(try clear hb);(try clear hkp);(try clear ho0);obtain ⟨Ao40,co40,eo40⟩:=Kd.R_slice HO262.out;subst eo40)|((with_reducible refine gate_callee (f:=117) rfl ?_);refine goesL_ (some 61) rfl rfl Tryz.func117 (by kernel_rfl) rfl #[.slice Ao40 t260.length co40] rfl (by (try simp only [List.map_toArray,List.map_cons,List.map_nil]);first|done|rfl|(simp only [List.length_drop,List.length_take];rfl)) ?_;(with_reducible refine (gimbalref90_whole.calls kj6 _ _ t260 t263 _ ?side1 ?side2 A36.out).mono ?_);(case side1=>repeat (first|exact (Kd.R_reads' HO262.out).2.2|(with_reducible refine Kd.C_alloc ?_ _)|(with_reducible refine Kd.C_drewN ?_ _)|(with_reducible refine Kd.C_drew ?_)));(case side2=>exact (Kd.R_reads' HO262.out).2.1);rintro e w41 ⟨v264,rfl,ho0,hb⟩;refine ⟨_,rfl,?_⟩;have n0_:=Aside0.mk (Kd.R_below (by (with_reducible repeat (first|apply Kd.R_alloc|apply Kd.R_drewN|apply Kd.R_drew));exact HO_5.out) hb);have n1_:=Aside0.mk (Kd.R_below (by (with_reducible repeat (first|apply Kd.R_alloc|apply Kd.R_drewN|apply Kd.R_drew));exact HO_6.out) hb);have n2_:=Aside0.mk (Kd.R_below (by (with_reducible repeat (first|apply Kd.R_alloc|apply Kd.R_drewN|apply Kd.R_drew));exact HO262.out) hb);have n3_:=Aside0.mk (Kd.R_lower ho0 (below_size (by repeat (first|(with_reducible first|exact HB.out|apply below_alloc|apply pw_below_drewN|apply below_drew1)|exact HB.out))));have n4_:=Aside0.mk (below_step (by repeat (first|(with_reducible first|exact HB.out|apply below_alloc|apply pw_below_drewN|apply below_drew1)|exact HB.out)) hb);clear HO_5;clear HO_6;clear HO262;clear HB;have HO_5:=n0_;have HO_6:=n1_;have HO262:=n2_;have HO265:=n3_;have HB:=n4_;clear n0_ n1_ n2_ n3_ n4_;(try clear hb);(try clear hb2);(try clear hk);(try clear hi);(try clear ho0)))
              go_ret
              exact ⟨_,by first|rfl|(simp [errW_none,errW_some]<;>rfl)|(simp [*,errW_none,errW_some]<;>rfl),by (with_reducible repeat (first|apply Kd.R_alloc|apply Kd.R_drewN|apply Kd.R_drew));exact HO265.out,by repeat (first|(with_reducible first|exact HB.out|apply below_alloc|apply pw_below_drewN|apply below_drew1)|exact HB.out)⟩
            · rw [if_neg c34] at H
              exact absurd H (by simp)
end Go.Proofs.YtmnkaldemjdcoaaGreat.QN90
end
