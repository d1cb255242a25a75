/- Part of a proof: texts of this session, one behind the other (wip/tools/pack.py). -/
import Derived.Test.YthokdnheijnmmaaProg
import Derived.Below
import Derived.Deep.Draws
import Derived.Deep.AppendLies
import Derived.Maps.AppendAt
import Derived.OwnWalk
import Derived.Laws.BytesArg
import Derived.Laws.MakeOwn
import Derived.Laws.OwnMore
import Derived.Deep.OwnRows
import Derived.Tactics
import Derived.Lib.ConvBytes
import Derived.Laws.Slices
import Derived.WalkKit
import Derived.KernelRfl
import Derived.RowKit3
import Derived.Deep.LoopGhost
import Derived.Deep.QuietTactic
import Derived.BigQuiet
import Derived.WideLaws
import Derived.Deep.DeepCutAuto
import Derived.Deep.CutBlock
import Derived.Deep.RegionHeld3
import Derived.Laws.Rows
import Derived.Lib.AppendStr
import Derived.ArgAppend
import Derived.Laws.IdiomCopy
import Derived.OrdersHeld
import Derived.Laws.BitsLemmas
import Derived.RowKit
import Derived.Test.YthokdnheijnmmaaWWords
import Derived.Test.YthokdnheijnmmaaWLast
import Derived.Test.YthokdnheijnmmaaWTab
import Derived.Test.YthokdnheijnmmaaWQPut
import Derived.Test.YthokdnheijnmmaaWApart
import Derived.Test.YthokdnheijnmmaaWArr
import Derived.Test.YthokdnheijnmmaaWZeros
import Derived.Test.YthokdnheijnmmaaWFoot
import Derived.Test.YthokdnheijnmmaaWKept
import Derived.Test.YthokdnheijnmmaaWShare
import Derived.Test.YthokdnheijnmmaaWN
import Derived.Laws.StructEq
import Derived.Test.YthokdnheijnmmaaWRepsOne
import Derived.Test.YthokdnheijnmmaaWGuard
import Derived.Test.YthokdnheijnmmaaWNEv
import Derived.Test.YthokdnheijnmmaaWMore
namespace Go.Proofs.Ythokdnheijnmmaa
end Go.Proofs.Ythokdnheijnmmaa
namespace Go.Proofs.Ythokdnheijnmmaa.BitsWalk
end Go.Proofs.Ythokdnheijnmmaa.BitsWalk
namespace Go.Proofs.Ythokdnheijnmmaa.CloneW
end Go.Proofs.Ythokdnheijnmmaa.CloneW
namespace Go.Proofs.Ythokdnheijnmmaa.FxWalk
end Go.Proofs.Ythokdnheijnmmaa.FxWalk
namespace Go.Proofs.Ythokdnheijnmmaa.Limbs
end Go.Proofs.Ythokdnheijnmmaa.Limbs
namespace Go.Proofs.Ythokdnheijnmmaa.Long
end Go.Proofs.Ythokdnheijnmmaa.Long
namespace Go.Proofs.Ythokdnheijnmmaa.QFxE
end Go.Proofs.Ythokdnheijnmmaa.QFxE
namespace Go.Proofs.Ythokdnheijnmmaa.QN90
end Go.Proofs.Ythokdnheijnmmaa.QN90
namespace Go.Proofs.Ythokdnheijnmmaa.R90
end Go.Proofs.Ythokdnheijnmmaa.R90
namespace Go.Proofs.Ythokdnheijnmmaa.Wh
end Go.Proofs.Ythokdnheijnmmaa.Wh
namespace Go.Proofs.Ythokdnheijnmmaa.Whole
end Go.Proofs.Ythokdnheijnmmaa.Whole
namespace Go.Proofs.Ythokdnheijnmmaa.fxLaws
end Go.Proofs.Ythokdnheijnmmaa.fxLaws
namespace Go.Proofs.YthokdnheijnmmaaW.Aid
end Go.Proofs.YthokdnheijnmmaaW.Aid
namespace Go.Proofs.YthokdnheijnmmaaW.Big
end Go.Proofs.YthokdnheijnmmaaW.Big
namespace Go.Proofs.YthokdnheijnmmaaW.Dig32
end Go.Proofs.YthokdnheijnmmaaW.Dig32
namespace Go.Proofs.YthokdnheijnmmaaW.Opens
end Go.Proofs.YthokdnheijnmmaaW.Opens
namespace Go.Proofs.YthokdnheijnmmaaW.Sx
end Go.Proofs.YthokdnheijnmmaaW.Sx
section
namespace Go.Proofs.Ythokdnheijnmmaa.QN90
open Go.RowKit Go.Proofs.YthokdnheijnmmaaW.PrintWords Go.Proofs.YthokdnheijnmmaaW.PrintLast Go.Proofs.YthokdnheijnmmaaW.PrintMore
attribute [local go_sem] max2_int min2_int max_two min_two max_three min_three max_four min_four   -- for this text's walks alone
set_option linter.unusedVariables false
set_option linter.unusedSimpArgs false
theorem info76:(Try.prog.info? 76).map (fun i=>(i.zero,i.size,i.bytes))=some (some (.int .u64 0),1,8):=by kernel_rfl
theorem info102:(Try.prog.info? 102).map (fun i=>(i.zero,i.size,i.bytes))=some (some (.int .u32 0),1,4):=by kernel_rfl
end Go.Proofs.Ythokdnheijnmmaa.QN90
end
section
namespace Go.Proofs.Ythokdnheijnmmaa.QN90
open Go.RowKit Go.Proofs.YthokdnheijnmmaaW.PrintWords Go.Proofs.YthokdnheijnmmaaW.PrintLast Go.Proofs.YthokdnheijnmmaaW.PrintMore
attribute [local go_sem] max2_int min2_int max_two min_two max_three min_three max_four min_four   -- for this text's walks alone
set_option linter.unusedVariables false
set_option linter.unusedSimpArgs false
def gimbalref90_cut.l0:Nat→List Int→Int→Option (List Int)
  | 0,_,_=>none
  | k+1,x0,x3=>if x3>0 then (if 0≤(wrap64 (x3-1)) then (if (wrap64 (x3-1))<(x0.length:Int) then (if (rd x0 (wrap64 (x3-1)))=0 then (gimbalref90_cut.l0 k x0 (wrap64 (x3-1))) else (if 0≤x3 then (if x3≤(x0.length:Int) then (some (x0.take (x3:Int).toNat)) else (none)) else (none))) else (none)) else (none)) else (if 0≤x3 then (if x3≤(x0.length:Int) then (some (x0.take (x3:Int).toNat)) else (none)) else (none))
def gimbalref90_cut.f (k:Nat) (l0:List Int):Option (List Int):=gimbalref90_cut.l0 k l0 (l0.length:Int)
set_option maxHeartbeats 8000000 in
set_option maxRecDepth 100000 in
theorem gimbalref90_cut.calls (k:Nat) (P0_:Nat→Prop) (u9000_:Value) (l0:List Int) (r:List Int) (w0 w:World) (hB:Below w0.heap.size w0 w) (ho0:Kd.R (Kd.int .u32) 102 w w0.heap.size P0_ u9000_ l0) (h:gimbalref90_cut.f k l0=some r) :
    Calls Try.prog 103 #[u9000_] w fun e w'=>∃ v0_:Value,e = .returned (v0_)∧Kd.R (Kd.int .u32) 102 w' w0.heap.size (fun k_=>(P0_ k_∨w.heap.size≤k_)) v0_ r∧Below w0.heap.size w0 w'∧Kept w w' (fun k_=>P0_ k_):=by
  have HO0:=Aside0.mk (show Kd.R (Kd.int .u32) 102 w w0.heap.size (fun k_=>(P0_ k_∨w.heap.size≤k_)) u9000_ l0 from Kd.R_mono ho0 (fun k_ hk=>(.inl hk)))
  have HK:=Aside0.mk (Kept.refl w (fun k_=>P0_ k_))
  have HW0:=Aside0.mk hB.size
  have HB:=Aside0.mk hB
  clear hB
  have H:(gimbalref90_cut.l0 k l0 (l0.length:Int))=some r:=h
  clear h
  have H':=Aside0.mk H
  clear H
  obtain ⟨Ao2,co2,eo2⟩:=Kd.R_slice HO0.out
  subst eo2
  go_enter Try.func103,Try.ntmps103
  go_wp2
  go_loopg [3] k (fun kq v3 w'=>∃ (x3_1:Int),v3 = .int .i64 x3_1∧Aside0 (gimbalref90_cut.l0 kq l0 x3_1=some r)∧Aside0 (kq≤k)∧Aside0 (Kd.R (Kd.int .u32) 102 w' w0.heap.size (fun k_=>(P0_ k_∨w.heap.size≤k_)) (.slice Ao2 l0.length co2) l0)∧Aside0 (Kept w w' (fun k_=>P0_ k_))∧Aside0 (Below w0.heap.size w0 w'))
  case atStart=>exact ⟨((l0.length:Int)),(by first|rfl|(simp;done)|(simp [*];done)),H',⟨Nat.le_refl _⟩,⟨by (with_reducible repeat (first|apply Kd.R_alloc|apply Kd.R_drewN|apply Kd.R_drew));exact HO0.out⟩,⟨by repeat (first|(with_reducible first|exact HK.out|apply Kept.alloc|apply Kept.drewN|apply Kept.drew)|exact HK.out)⟩,⟨by repeat (first|(with_reducible first|exact HB.out|apply below_alloc|apply pw_below_drewN|apply below_drew1)|exact HB.out)⟩⟩
  case round =>
    clear H'
    try clear c1
    try clear p2
    obtain ⟨x3_1,rfl,HA,HK1,HO_0,HK,HB⟩:=hrel
    cases gk with
    | zero=>exact absurd HA.out (by simp [gimbalref90_cut.l0])
    | succ k1 =>
      have H:=HA.out
      clear HA
      simp only [gimbalref90_cut.l0] at H
      by_cases c3:x3_1>0
      · rw [if_pos c3] at H
        have c3b0:decide (0<x3_1)=true:=decide_eq_true c3
        clear c3
        obtain ⟨ji4,hji4⟩:∃ j_:Int,(wrap64 (x3_1-1))=j_:=⟨_,rfl⟩
        replace H:(if 0≤(ji4) then (if (ji4)<(l0.length:Int) then (if (rd l0 (ji4))=0 then (gimbalref90_cut.l0 k1 l0 ji4) else (if 0≤x3_1 then (if x3_1≤(l0.length:Int) then (some (l0.take (x3_1:Int).toNat)) else (none)) else (none))) else (none)) else (none))=some r:=by first|(rw [hji4] at H;exact H)|(simp only [hji4] at H ⊢;exact H)
        have hji4w:(IntKind.i64.wrap (x3_1-1))=ji4:=(i64_w _).trans hji4
        by_cases c5:0≤(ji4)
        · rw [if_pos c5] at H
          have c5b0:decide (0≤(ji4))=true:=decide_eq_true c5
          clear c5
          by_cases c6:(ji4)<(l0.length:Int)
          · rw [if_pos c6] at H
            have c6b0:decide ((ji4)<(l0.length:Int))=true:=decide_eq_true c6
            clear c6
            by_cases c7:(rd l0 (ji4))=0
            · rw [if_pos c7] at H
              have c7b0:((rd l0 (ji4)) == 0)=true:=beq_iff_eq.mpr c7
              have c7b1:((rd l0 (ji4)) != 0)=false:=bne_eq_false_iff_eq.mpr c7
              clear c7
              have H':=Aside0.mk H
              clear H
              have p101:0≤((ji4):Int):=of_decide_eq_true (by first|(with_reducible assumption)|assumption)
              have q101:(ji4)<(l0.length:Int):=of_decide_eq_true (by first|(with_reducible assumption)|assumption)
              obtain ⟨ad101,e101,hx101_0⟩:=Kd.at_int (Kd.R_reads' HO_0.out).2.2 (ji4) p101 q101
              cases e101
              replace p101:=eq_true p101
              replace q101:=eq_true q101
              go_wp2
              go_roundg k1
              case measure=>have:=HK1.out;omega
              case rel=>exact ⟨(ji4),(by first|rfl|(simp;done)|(simp only [← hji4]<;>(first|rfl|simp))|(simp [*];done)),H',⟨by have:=HK1.out;omega⟩,⟨by (with_reducible repeat (first|apply Kd.R_alloc|apply Kd.R_drewN|apply Kd.R_drew));exact HO_0.out⟩,⟨by repeat (first|(with_reducible first|exact HK.out|apply Kept.alloc|apply Kept.drewN|apply Kept.drew)|exact HK.out)⟩,⟨by repeat (first|(with_reducible first|exact HB.out|apply below_alloc|apply pw_below_drewN|apply below_drew1)|exact HB.out)⟩⟩
            · rw [if_neg c7] at H
              have c7b0:((rd l0 (ji4)) == 0)=false:=beq_eq_false_iff_ne.mpr c7
              have c7b1:((rd l0 (ji4)) != 0)=true:=bne_iff_ne.mpr c7
              by_cases c8:0≤x3_1
              · rw [if_pos c8] at H
                have c8b0:=eq_true c8
                have c8b1:decide (0≤x3_1)=true:=decide_eq_true c8
                clear c8
                by_cases c9:x3_1≤(l0.length:Int)
                · rw [if_pos c9] at H
                  have c9b0:=eq_true c9
                  have c9b1:decide (x3_1≤(l0.length:Int))=true:=decide_eq_true c9
                  clear c9
                  obtain ⟨y102,hy102⟩:∃ y_:List Int,y_=(l0.take (x3_1:Int).toNat):=⟨_,rfl⟩
                  replace H:(some y102)=some r:=by first|(rw [hy102];with_reducible exact H)|(have H2_:=(Option.bind_some _ _).symm.trans H;rw [hy102];with_reducible exact H2_)|(have H2_:=(Option.bind_some _ _).symm.trans H;with_reducible exact H2_)|with_reducible exact H|(rw [hy102];exact H)|exact H
                  have Ny102:=Aside0.mk hy102
                  clear hy102
                  obtain rfl:=Option.some.inj H
                  have p101:0≤((ji4):Int):=of_decide_eq_true (by first|(with_reducible assumption)|assumption)
                  have q101:(ji4)<(l0.length:Int):=of_decide_eq_true (by first|(with_reducible assumption)|assumption)
                  obtain ⟨ad101,e101,hx101_0⟩:=Kd.at_int (Kd.R_reads' HO_0.out).2.2 (ji4) p101 q101
                  cases e101
                  replace p101:=eq_true p101
                  replace q101:=eq_true q101
                  have q10:(x3_1:Int)≤((l0.length:Int):Int):=of_decide_eq_true (by first|(with_reducible assumption)|assumption)
                  obtain ⟨i010,hi010,_,hsz10,_⟩:=info_parts info102
                  have hcut10:=cut_to (P:=Try.prog) 100 102 .i64 Try.underlying100 hi010 (some ad101) l0.length co2 x3_1 (of_decide_eq_true (by first|(with_reducible assumption)|assumption)) q10 (Kd.R_reads' HO_0.out).2.1
                  have hr10:=Kd.R_take (m:=(x3_1:Int).toNat) HO_0.out (by omega)
                  have hy10:y102.length=(x3_1:Int).toNat:=(by rw [Ny102.out,List.length_take];omega)
                  rw [← Ny102.out] at hr10
                  rw [← hy10] at hr10 hcut10
                  clear hy10 hi010 hsz10 HO_0
                  have HO104:=Aside0.mk hr10
                  clear hr10
                  replace q10:=eq_true q10
                  go_wp2
                  go_ret
                  exact ⟨_,by first|rfl|(simp [errW_none,errW_some]<;>rfl)|(simp only [← hji4];first|rfl|(simp [errW_none,errW_some]<;>rfl))|(simp [*,errW_none,errW_some]<;>rfl),by (with_reducible repeat (first|apply Kd.R_alloc|apply Kd.R_drewN|apply Kd.R_drew));exact HO104.out,by repeat (first|(with_reducible first|exact HB.out|apply below_alloc|apply pw_below_drewN|apply below_drew1)|exact HB.out),by repeat (first|(with_reducible first|exact HK.out|apply Kept.alloc|apply Kept.drewN|apply Kept.drew)|exact HK.out)⟩
                · rw [if_neg c9] at H
                  exact absurd H (by simp)
              · rw [if_neg c8] at H
                exact absurd H (by simp)
          · rw [if_neg c6] at H
            exact absurd H (by simp)
        · rw [if_neg c5] at H
          exact absurd H (by simp)
      · rw [if_neg c3] at H
        have c3b0:decide (0<x3_1)=false:=decide_eq_false c3
        clear c3
        by_cases c11:0≤x3_1
        · rw [if_pos c11] at H
          have c11b0:=eq_true c11
          have c11b1:decide (0≤x3_1)=true:=decide_eq_true c11
          clear c11
          by_cases c12:x3_1≤(l0.length:Int)
          · rw [if_pos c12] at H
            have c12b0:=eq_true c12
            have c12b1:decide (x3_1≤(l0.length:Int))=true:=decide_eq_true c12
            clear c12
            obtain ⟨y105,hy105⟩:∃ y_:List Int,y_=(l0.take (x3_1:Int).toNat):=⟨_,rfl⟩
            replace H:(some y105)=some r:=by first|(rw [hy105];with_reducible exact H)|(have H2_:=(Option.bind_some _ _).symm.trans H;rw [hy105];with_reducible exact H2_)|(have H2_:=(Option.bind_some _ _).symm.trans H;with_reducible exact H2_)|with_reducible exact H|(rw [hy105];exact H)|exact H
            have Ny105:=Aside0.mk hy105
            clear hy105
            obtain rfl:=Option.some.inj H
            have q13:(x3_1:Int)≤((l0.length:Int):Int):=of_decide_eq_true (by first|(with_reducible assumption)|assumption)
            obtain ⟨i013,hi013,_,hsz13,_⟩:=info_parts info102
            have hcut13:=cut_to (P:=Try.prog) 100 102 .i64 Try.underlying100 hi013 Ao2 l0.length co2 x3_1 (of_decide_eq_true (by first|(with_reducible assumption)|assumption)) q13 (Kd.R_reads' HO_0.out).2.1
            have hr13:=Kd.R_take (m:=(x3_1:Int).toNat) HO_0.out (by omega)
            have hy13:y105.length=(x3_1:Int).toNat:=(by rw [Ny105.out,List.length_take];omega)
            rw [← Ny105.out] at hr13
            rw [← hy13] at hr13 hcut13
            clear hy13 hi013 hsz13 HO_0
            have HO107:=Aside0.mk hr13
            clear hr13
            replace q13:=eq_true q13
            go_wp2
            go_ret
            exact ⟨_,by first|rfl|(simp [errW_none,errW_some]<;>rfl)|(simp [*,errW_none,errW_some]<;>rfl),by (with_reducible repeat (first|apply Kd.R_alloc|apply Kd.R_drewN|apply Kd.R_drew));exact HO107.out,by repeat (first|(with_reducible first|exact HB.out|apply below_alloc|apply pw_below_drewN|apply below_drew1)|exact HB.out),by repeat (first|(with_reducible first|exact HK.out|apply Kept.alloc|apply Kept.drewN|apply Kept.drew)|exact HK.out)⟩
          · rw [if_neg c12] at H
            exact absurd H (by simp)
        · rw [if_neg c11] at H
          exact absurd H (by simp)
def gimbalref90_halves.l0:Nat→List Int→List Int→Int→Option (List Int)
  | 0,_,_,_=>none
  | k+1,x0,x3,x4=>if x4<(x0.length:Int) then (if 0≤x4 then ((some (([(rd x0 x4)%4294967296,((rd x0 x4)/4294967296)%4294967296]:List Int):List Int)).bind fun y110=>(if x3.length+y110.length<35184372088832 then (gimbalref90_halves.l0 k x0 (x3++y110) (wrap64 (x4+1))) else (none))) else (none)) else ((gimbalref90_cut.f k x3).bind fun t116=>(some t116))
def gimbalref90_halves.f (k:Nat) (l0:List Int):Option (List Int):=gimbalref90_halves.l0 k l0 ([]:List Int) 0
def gimbalref90_halves.T5:Bool × List (List Nat × List Nat):=(true,[([],[]),([],[]),([],[]),([1,2],[1,2]),([3],[3]),([4],[4]),([],[]),([],[]),([6,7],[6,7]),([8],[8]),([9],[9]),([10],[10]),([5,11],[5,11]),([0,12],[0,12]),([13,13,0,1,2,3,4,5,6,7,8,9,10,11,12,13],[0,13])])
def gimbalref90_halves.B5:List Nat:=[0,0,0,6,14,30,0,0,192,448,960,1984,4094,8191,16383]
theorem gimbalref90_halves.tab5:rtab .any (opsOf Try.f101 5)=gimbalref90_halves.T5:=by kernel_rfl
theorem gimbalref90_halves.bits5:waitsOk gimbalref90_halves.T5.2 gimbalref90_halves.B5=true:=by kernel_rfl
set_option maxHeartbeats 8000000 in
set_option maxRecDepth 100000 in
theorem gimbalref90_halves.calls (k:Nat) (A0:Option Addr) (c0:Nat) (l0:List Int) (r:List Int) (w:World) (hr0:Kd.C (Kd.int .u64) w A0 l0.length l0) (hc0:l0.length≤c0) (h:gimbalref90_halves.f k l0=some r) :
    Calls Try.prog 101 #[.slice A0 l0.length c0] w fun e w'=>∃ v0_:Value,e = .returned (v0_)∧Kd.R (Kd.int .u32) 102 w' w.heap.size (fun _=>True) v0_ r∧Below w.heap.size w w':=by
  have HR0:=Aside0.mk hr0
  have HC0:=Aside0.mk hc0
  clear hr0 hc0
  have HB:=Aside0.mk (Below.refl w.heap.size w)
  have H:(gimbalref90_halves.l0 k l0 ([]:List Int) 0)=some r:=h
  clear h
  have H':=Aside0.mk H
  clear H
  go_enter Try.func101,Try.ntmps101
  go_wp2
  go_loopg [3,4] k (fun kq v3 v4 w'=>∃ (x3_1:List Int) (x4_1:Int),v4 = .int .i64 x4_1∧Aside0 (gimbalref90_halves.l0 kq l0 x3_1 x4_1=some r)∧Aside0 (kq≤k)∧Aside0 (Kd.R (Kd.int .u32) 102 w' w.heap.size (fun _=>True) v3 x3_1)∧Aside0 (Below w.heap.size w w'))
  case atStart=>exact ⟨(([]:List Int)),(0),(by first|rfl|(simp;done)|(simp [*];done)),H',⟨Nat.le_refl _⟩,⟨by first|exact Kd.R_nil _ _ _ _ _|exact Kd.N_nil _ _ _ _ _|exact Kd.V_nil _ _ _ _ _|exact Kd.Q_nil _ _ _ _ _|exact Kd.S_nil _ _ _ _ _⟩,⟨by repeat (first|(with_reducible first|exact HB.out|apply below_alloc|apply pw_below_drewN|apply below_drew1)|exact HB.out)⟩⟩
  case round =>
    clear H'
    try clear c1
    obtain ⟨x3_1,x4_1,rfl,HA,HK1,HO_3,HB⟩:=hrel
    cases gk with
    | zero=>exact absurd HA.out (by simp [gimbalref90_halves.l0])
    | succ k1 =>
      have H:=HA.out
      clear HA
      simp only [gimbalref90_halves.l0] at H
      by_cases c2:x4_1<(l0.length:Int)
      · rw [if_pos c2] at H
        have c2b0:decide (x4_1<(l0.length:Int))=true:=decide_eq_true c2
        clear c2
        by_cases c3:0≤x4_1
        · rw [if_pos c3] at H
          have c3b0:decide (0≤x4_1)=true:=decide_eq_true c3
          clear c3
          obtain ⟨y110,hy110⟩:∃ y_:List Int,y_=(([(rd l0 x4_1)%4294967296,((rd l0 x4_1)/4294967296)%4294967296]:List Int)):=⟨_,rfl⟩
          replace H:(if x3_1.length+y110.length<35184372088832 then (gimbalref90_halves.l0 k1 l0 (x3_1++y110) (wrap64 (x4_1+1))) else (none))=some r:=by first|(rw [hy110];with_reducible exact H)|(have H2_:=(Option.bind_some _ _).symm.trans H;rw [hy110];with_reducible exact H2_)|(have H2_:=(Option.bind_some _ _).symm.trans H;with_reducible exact H2_)|with_reducible exact H|(rw [hy110];exact H)|exact H
          have Ny110:=Aside0.mk hy110
          clear hy110
          by_cases c4:x3_1.length+y110.length<35184372088832
          · rw [if_pos c4] at H
            have LMc4:=Aside0.mk c4
            clear c4
            obtain ⟨y113,hy113⟩:∃ y_:List Int,y_=(x3_1++y110):=⟨_,rfl⟩
            replace H:(gimbalref90_halves.l0 k1 l0 y113 (wrap64 (x4_1+1)))=some r:=by first|(rw [hy113];with_reducible exact H)|(have H2_:=(Option.bind_some _ _).symm.trans H;rw [hy113];with_reducible exact H2_)|(have H2_:=(Option.bind_some _ _).symm.trans H;with_reducible exact H2_)|with_reducible exact H|(rw [hy113];exact H)|exact H
            have Ny113:=Aside0.mk hy113
            clear hy113
            have H':=Aside0.mk H
            clear H
            try go_wp2
            have n0_:=Aside0.mk (Kd.R_drew HO_3.out)
            have n1_:=Aside0.mk (below_drew1 HB.out)
            clear HO_3
            clear HB
            have HO_3:=n0_
            have HB:=n1_
            clear n0_ n1_
            have p108:0≤(x4_1:Int):=of_decide_eq_true (by first|(with_reducible assumption)|assumption)
            have q108:x4_1<(l0.length:Int):=of_decide_eq_true (by first|(with_reducible assumption)|assumption)
            obtain ⟨ad108,e108,hx108_0⟩:=Kd.at_int HR0.out x4_1 p108 q108
            have hw108_0:=hx108_0
            cases e108
            replace hx108_0:=(HB.out.cell (World.block_lt_of_cell? w _ hx108_0)).trans hx108_0
            replace p108:=eq_true p108
            replace q108:=eq_true q108
            have p109:0≤(x4_1:Int):=of_decide_eq_true (by first|(with_reducible assumption)|assumption)
            have q109:x4_1<(l0.length:Int):=of_decide_eq_true (by first|(with_reducible assumption)|assumption)
            obtain ⟨ad109,e109,hx109_0⟩:=Kd.at_int HR0.out x4_1 p109 q109
            have hw109_0:=hx109_0
            obtain rfl:ad108=ad109:=(by injection e109)
            replace hx109_0:=(HB.out.cell (World.block_lt_of_cell? w _ hx109_0)).trans hx109_0
            replace p109:=eq_true p109
            replace q109:=eq_true q109
            refine start_ (n:=15) (S:=fun w'=>w'.cell? (ad108.add (x4_1).toNat)=some (.int .u64 (rd l0 x4_1))∧w'.cell? (ad108.add (x4_1).toNat)=some (.int .u64 (rd l0 x4_1))) (ds:=[]) #[false,false,false,false,false,false,false,false,false,false,false,false,false,false,false] (by kernel_rfl) rfl rfl ⟨((HB.out.cell (World.block_lt_of_cell? w _ hw108_0)).trans hw108_0),((HB.out.cell (World.block_lt_of_cell? w _ hw109_0)).trans hw109_0)⟩ (fun hHeld=>?_);refine with_tabW gimbalref90_halves.tab5 gimbalref90_halves.bits5 (fun HT_ HW_=>?_)
            generalize wr.drew=w5 at HO_3 HB hx108_0 hx109_0 hHeld ⊢
            refine pure_ (i:=0) (N:=some 11) (v:=?_) (a':=?_) #[true,false,false,false,false,false,false,false,false,false,false,false,false,false,false] rfl rfl (any_of HT_.out (by kernel_rfl)) (fun _ _ _ h=>h) (Or.inl ⟨by rfl,?_⟩) ?_ ?_
            rotate_left
            · intro w'
              go_simp
              with_reducible rfl
            rotate_left
            · simp only [Act.put,List.setIfInBounds_toArray,List.set_cons_zero,List.set_cons_succ,i64_w,i32_w]
              rfl
            refine pure_ (i:=1) (N:=some 12) (v:=?_) (a':=?_) #[true,true,false,false,false,false,false,false,false,false,false,false,false,false,false] rfl rfl (any_of HT_.out (by kernel_rfl)) (fun _ _ _ h=>h) (Or.inl ⟨by rfl,?_⟩) ?_ ?_
            rotate_left
            · intro w'
              go_simp
              with_reducible rfl
            rotate_left
            · simp only [Act.put,List.setIfInBounds_toArray,List.set_cons_zero,List.set_cons_succ,i64_w,i32_w]
              rfl
            refine pure_ (i:=2) (N:=some 13) (v:=?_) (a':=?_) #[true,true,true,false,false,false,false,false,false,false,false,false,false,false,false] rfl rfl (any_of HT_.out (by kernel_rfl)) (fun _ _ _ h=>h) (Or.inl ⟨by rfl,?_⟩) ?_ ?_
            rotate_left
            · intro w'
              go_simp
              with_reducible rfl
            rotate_left
            · simp only [Act.put,List.setIfInBounds_toArray,List.set_cons_zero,List.set_cons_succ,i64_w,i32_w]
              rfl
            refine pure_ (i:=3) (N:=some 14) (v:=?_) (a':=?_) #[true,true,true,true,false,false,false,false,false,false,false,false,false,false,false] rfl rfl (any_of HT_.out (by kernel_rfl)) (fun _ _ _ h=>h) (Or.inl ⟨by rfl,?_⟩) ?_ ?_
            rotate_left
            · intro w'
              go_simp
              with_reducible rfl
            rotate_left
            · simp only [Act.put,List.setIfInBounds_toArray,List.set_cons_zero,List.set_cons_succ,i64_w,i32_w]
              rfl
            refine pure_ (i:=6) (N:=some 17) (v:=?_) (a':=?_) #[true,true,true,true,false,false,true,false,false,false,false,false,false,false,false] rfl rfl (any_of HT_.out (by kernel_rfl)) (fun _ _ _ h=>h) (Or.inl ⟨by rfl,?_⟩) ?_ ?_
            rotate_left
            · intro w'
              go_simp
              with_reducible rfl
            rotate_left
            · simp only [Act.put,List.setIfInBounds_toArray,List.set_cons_zero,List.set_cons_succ,i64_w,i32_w]
              rfl
            refine pure_ (i:=7) (N:=some 18) (v:=?_) (a':=?_) #[true,true,true,true,false,false,true,true,false,false,false,false,false,false,false] rfl rfl (any_of HT_.out (by kernel_rfl)) (fun _ _ _ h=>h) (Or.inl ⟨by rfl,?_⟩) ?_ ?_
            rotate_left
            · intro w'
              go_simp
              with_reducible rfl
            rotate_left
            · simp only [Act.put,List.setIfInBounds_toArray,List.set_cons_zero,List.set_cons_succ,i64_w,i32_w]
              rfl
            refine pure_ (i:=8) (N:=some 19) (v:=?_) (a':=?_) #[true,true,true,true,false,false,true,true,true,false,false,false,false,false,false] rfl rfl (any_of HT_.out (by kernel_rfl)) (fun _ _ _ h=>h) (Or.inl ⟨by rfl,?_⟩) ?_ ?_
            rotate_left
            · intro w'
              go_simp
              with_reducible rfl
            rotate_left
            · simp only [Act.put,List.setIfInBounds_toArray,List.set_cons_zero,List.set_cons_succ,i64_w,i32_w]
              rfl
            refine take_ (i:=4) (N:=some 15) (v:=?_) (a':=?_) #[true,true,true,true,true,false,true,true,true,false,false,false,false,false,false] rfl rfl (take_ofW HT_.out HW_.out (by kernel_rfl)) (fun _ _ _ h=>h) (Or.inl ⟨by rfl,?_⟩) hHeld ?_ ?_
            rotate_left
            · rintro w' ⟨s0,s1⟩
              go_simp
              with_reducible rfl
            rotate_left
            · simp only [Act.put,List.setIfInBounds_toArray,List.set_cons_zero,List.set_cons_succ,i64_w,i32_w]
              rfl
            refine pure_ (i:=5) (N:=some 16) (v:=?_) (a':=?_) #[true,true,true,true,true,true,true,true,true,false,false,false,false,false,false] rfl rfl (any_of HT_.out (by kernel_rfl)) (fun _ _ _ h=>h) (Or.inl ⟨by rfl,?_⟩) ?_ ?_
            rotate_left
            · intro w'
              go_simp
              with_reducible rfl
            rotate_left
            · simp only [Act.put,List.setIfInBounds_toArray,List.set_cons_zero,List.set_cons_succ,i64_w,i32_w]
              rfl
            refine take_ (i:=9) (N:=some 20) (v:=?_) (a':=?_) #[true,true,true,true,true,true,true,true,true,true,false,false,false,false,false] rfl rfl (take_ofW HT_.out HW_.out (by kernel_rfl)) (fun _ _ _ h=>h) (Or.inl ⟨by rfl,?_⟩) hHeld ?_ ?_
            rotate_left
            · rintro w' ⟨s0,s1⟩
              go_simp
              with_reducible rfl
            rotate_left
            · simp only [Act.put,List.setIfInBounds_toArray,List.set_cons_zero,List.set_cons_succ,i64_w,i32_w]
              rfl
            refine pure_ (i:=10) (N:=some 21) (v:=?_) (a':=?_) #[true,true,true,true,true,true,true,true,true,true,true,false,false,false,false] rfl rfl (any_of HT_.out (by kernel_rfl)) (fun _ _ _ h=>h) (Or.inl ⟨by rfl,?_⟩) ?_ ?_
            rotate_left
            · intro w'
              go_simp
              with_reducible rfl
            rotate_left
            · simp only [Act.put,List.setIfInBounds_toArray,List.set_cons_zero,List.set_cons_succ,i64_w,i32_w]
              rfl
            refine pure_ (i:=11) (N:=some 22) (v:=?_) (a':=?_) #[true,true,true,true,true,true,true,true,true,true,true,true,false,false,false] rfl rfl (any_of HT_.out (by kernel_rfl)) (fun _ _ _ h=>h) (Or.inl ⟨by rfl,?_⟩) ?_ ?_
            rotate_left
            · intro w'
              go_simp
              with_reducible rfl
            rotate_left
            · simp only [Act.put,List.setIfInBounds_toArray,List.set_cons_zero,List.set_cons_succ,i64_w,i32_w]
              rfl
            refine one_ (i:=12) (N:=some 23) #[true,true,true,true,true,true,true,true,true,true,true,true,true,false,false] rfl rfl (one_of HT_.out (by kernel_rfl)) (by decide) (fun K hK=>?_)
            refine Kd.R_lit_step (Kd.int .u32) _ 102 ?hg (N:=23) ?hd (xs:=([(rd l0 x4_1)%4294967296,((rd l0 x4_1)/4294967296)%4294967296]:List Int)) (inner:=[.int .u32 ((rd l0 x4_1)%4294967296),.int .u32 (((rd l0 x4_1)/4294967296)%4294967296)]) (ok:=fun _=>True) (okp:=fun _=>True) ?hr ?hp (fun _ hk=>hk) trivial (Below.refl _ _) (Nat.le_refl _) (by simp) ?_;(case hd=>rfl);(case hg=>rfl);(case hr=>first|(go_simp;done)|(go_simp;rfl));(case hp=>exact (Reps.one (show Kd.M (Kd.int .u32) _ _ _ ((rd l0 x4_1)%4294967296) [.int .u32 ((rd l0 x4_1)%4294967296)] from rfl) (Reps.one (show Kd.M (Kd.int .u32) _ _ _ (((rd l0 x4_1)/4294967296)%4294967296) [.int .u32 (((rd l0 x4_1)/4294967296)%4294967296)] from rfl) (Reps.none _ _))))
            intro v111 w6 ho7 hb hg_ hnew_
            clear hg_ hnew_
            (first|rw [← Ny110.out] at ho7|(simp only [Int.reduceToNat] at ho7;rw [← Ny110.out] at ho7))
            have n0_:=Aside0.mk (Kd.R_elder' (by (with_reducible repeat (first|apply Kd.R_alloc|apply Kd.R_drewN|apply Kd.R_drew));exact HO_3.out) (Kd.R_base ho7) hb)
            have n1_:=Aside0.mk (Kd.R_lower (Kd.R_new' ho7 (Kd.R_lt (by (with_reducible repeat (first|apply Kd.R_alloc|apply Kd.R_drewN|apply Kd.R_drew));exact HO_3.out))) (below_size (by repeat (first|(with_reducible first|exact HB.out|apply below_alloc|apply pw_below_drewN|apply below_drew1)|exact HB.out))))
            have n2_:=Aside0.mk (below_step (by repeat (first|(with_reducible first|exact HB.out|apply below_alloc|apply pw_below_drewN|apply below_drew1)|exact HB.out)) hb)
            clear HO_3
            clear HB
            have HO_3:=n0_
            have HO112:=n1_
            have HB:=n2_
            clear n0_ n1_ n2_
            clear hb ho7
            obtain ⟨Ao9,co9,eo9⟩:=Kd.R_slice HO112.out
            (first|subst eo9|(injection eo9 with f1_ f2_ f3_;have f4_:=f1_.symm;have f5_:=f3_.symm;clear f1_ f2_ f3_;subst f4_;subst f5_))
            refine hK.out _ _ ⟨((HB.out.cell (World.block_lt_of_cell? w _ hw108_0)).trans hw108_0),((HB.out.cell (World.block_lt_of_cell? w _ hw109_0)).trans hw109_0)⟩ (fun hHeld=>?_)
            clear hK K
            refine norm_ (a':=?_) ?_ ?_
            rotate_left
            · show Act.put _ (some 23) _=_
              simp only [Act.put,List.setIfInBounds_toArray,List.set_cons_zero,List.set_cons_succ,i64_w,i32_w]
              rfl
            refine one_ (i:=13) (N:=some 24) #[true,true,true,true,true,true,true,true,true,true,true,true,true,true,false] rfl rfl (one_of HT_.out (by kernel_rfl)) (by decide) (fun K hK=>?_)
            refine Kd.R_append_rows_step (Kd.int .u32) (w0:=w) w.heap.size (by rfl) (.tmp 11) (.tmp 23) 100 102 (.int .u32 0) 4 rfl Try.underlying100 info102 rfl (by decide) (by omega) u3 x3_1 y110 _ _ _ (fun k_=>some k_≠(.slice Ao9 y110.length co9:Value).ownBlock) (fun _=>False) rfl rfl ?aO ?aR (fun _ _ h=>h) (fun _ h=>h.elim) ?aF ?aB ?aS ?aL ?_
            (case aR=>repeat (first|exact (Kd.R_reads' HO112.out).2.2|(with_reducible refine Kd.C_alloc ?_ _)|(with_reducible refine Kd.C_drewN ?_ _)|(with_reducible refine Kd.C_drew ?_)))
            (case aB=>exact (by repeat (first|(with_reducible first|exact HB.out|apply below_alloc|apply pw_below_drewN|apply below_drew1)|exact HB.out)))
            (case aF=>exact (fun k_ hk=>Kd.fresh' (Kd.R_lt (by (with_reducible repeat (first|apply Kd.R_alloc|apply Kd.R_drewN|apply Kd.R_drew));exact HO112.out)) k_ hk))
            (case aO=>exact (by (with_reducible repeat (first|apply Kd.R_alloc|apply Kd.R_drewN|apply Kd.R_drew));exact Kd.R_mono HO_3.out (fun _ hk=>hk.2)))
            (case aS=>exact (below_size (by repeat (first|(with_reducible first|exact HB.out|apply below_alloc|apply pw_below_drewN|apply below_drew1)|exact HB.out))))
            (case aL=>have:=LMc4.out;omega)
            intro v114 w8 ho hb hg hat
            rw [← Ny113.out] at ho
            have n0_:=Aside0.mk (Kd.R_after (ok:=(fun _=>True)) (by (with_reducible repeat (first|apply Kd.R_alloc|apply Kd.R_drewN|apply Kd.R_drew));exact HO112.out) hg hat)
            have n1_:=Aside0.mk (hb)
            have n2_:=Aside0.mk (ho)
            clear HO112
            clear HB
            clear HO_3
            have HO112:=n0_
            have HB:=n1_
            have HO115:=n2_
            clear n0_ n1_ n2_
            clear ho hb hg hat
            refine hK.out _ _ ⟨((HB.out.cell (World.block_lt_of_cell? w _ hw108_0)).trans hw108_0),((HB.out.cell (World.block_lt_of_cell? w _ hw109_0)).trans hw109_0)⟩ (fun hHeld=>?_)
            clear hK K
            refine norm_ (a':=?_) ?_ ?_
            rotate_left
            · show Act.put _ (some 24) _=_
              simp only [Act.put,List.setIfInBounds_toArray,List.set_cons_zero,List.set_cons_succ,i64_w,i32_w]
              rfl
            refine pure_ (i:=14) (N:=some 3) (v:=?_) (a':=?_) #[true,true,true,true,true,true,true,true,true,true,true,true,true,true,true] rfl rfl (any_of HT_.out (by kernel_rfl)) (fun _ _ _ h=>h) (Or.inl ⟨by rfl,?_⟩) ?_ ?_
            rotate_left
            · intro w'
              go_simp
              with_reducible rfl
            rotate_left
            · simp only [Act.put,List.setIfInBounds_toArray,List.set_cons_zero,List.set_cons_succ,i64_w,i32_w]
              rfl
            refine done_ (done_of HT_.out (by kernel_rfl)) ?_
            try go_wp2
            go_roundg k1
            case measure=>have:=HK1.out;omega
            case rel=>exact ⟨(y113),(wrap64 (x4_1+1)),(by first|rfl|(simp;done)|(simp [*];done)),H',⟨by have:=HK1.out;omega⟩,⟨by (with_reducible repeat (first|apply Kd.R_alloc|apply Kd.R_drewN|apply Kd.R_drew));exact Kd.R_mono HO115.out (fun _ hk=>trivial)⟩,⟨by repeat (first|(with_reducible first|exact HB.out|apply below_alloc|apply pw_below_drewN|apply below_drew1)|exact HB.out)⟩⟩
          · rw [if_neg c4] at H
            exact absurd H (by simp)
        · rw [if_neg c3] at H
          exact absurd H (by simp)
      · rw [if_neg c2] at H
        have c2b0:decide (x4_1<(l0.length:Int))=false:=decide_eq_false c2
        clear c2
        replace H:=Option.bind_eq_some_iff.mp H
        obtain ⟨t116,A100,H⟩:=H
        replace H:(some t116)=some r:=H
        have A10:=Aside0.mk A100
        clear A100
        obtain rfl:=Option.some.inj H
        obtain ⟨Ao11,co11,eo11⟩:=Kd.R_slice HO_3.out
        subst eo11
        go_wp2_with (first|((with_reducible refine gate_callee (f:=103) rfl ?_);refine goesL_ (some 26) rfl rfl Try.func103 (by kernel_rfl) rfl #[.slice Ao11 x3_1.length co11] rfl (by (try simp only [List.map_toArray,List.map_cons,List.map_nil]);first|done|rfl|(simp only [List.length_drop,List.length_take];rfl)) ?_;(with_reducible refine (gimbalref90_cut.calls k1 (fun k_=>some k_=(.slice Ao11 x3_1.length co11:Value).ownBlock) (.slice Ao11 x3_1.length co11) x3_1 t116 w _ ?side1 ?side2 A10.out).mono ?_);(case side1=>repeat (first|(with_reducible first|exact HB.out|apply below_alloc|apply pw_below_drewN|apply below_drew1)|exact HB.out));(case side2=>exact Kd.R_tight rfl HO_3.out);rintro e w12 ⟨v117,rfl,ho0,hb,hkp⟩;refine ⟨_,rfl,?_⟩;have n0_:=Aside0.mk (Kd.R_mono (ok':=fun k_=>True) ho0 (fun k_ hk_=>trivial));have n1_:=Aside0.mk (hb);clear HB;clear HO_3;have HO118:=n0_;have HB:=n1_;clear n0_ n1_;(try clear hb);(try clear hkp);(try clear ho0)))
        go_ret
        exact ⟨_,by first|rfl|(simp [errW_none,errW_some]<;>rfl)|(simp [*,errW_none,errW_some]<;>rfl),by (with_reducible repeat (first|apply Kd.R_alloc|apply Kd.R_drewN|apply Kd.R_drew));exact HO118.out,by repeat (first|(with_reducible first|exact HB.out|apply below_alloc|apply pw_below_drewN|apply below_drew1)|exact HB.out)⟩
end Go.Proofs.Ythokdnheijnmmaa.QN90
end
section
namespace Go.Proofs.Ythokdnheijnmmaa.QN90
open Go.RowKit Go.Proofs.YthokdnheijnmmaaW.PrintWords Go.Proofs.YthokdnheijnmmaaW.PrintLast Go.Proofs.YthokdnheijnmmaaW.PrintMore
attribute [local go_sem] max2_int min2_int max_two min_two max_three min_three max_four min_four   -- for this text's walks alone
set_option linter.unusedVariables false
set_option linter.unusedSimpArgs false
def gimbalref90_NTrim.l0:Nat→List Int→Int→Option (List Int)
  | 0,_,_=>none
  | k+1,x0,x3=>if x3>0 then (if 0≤(wrap64 (x3-1)) then (if (wrap64 (x3-1))<(x0.length:Int) then (if (rd x0 (wrap64 (x3-1)))=0 then (gimbalref90_NTrim.l0 k x0 (wrap64 (x3-1))) else (if 0≤x3 then (if x3≤(x0.length:Int) then (some (x0.take (x3:Int).toNat)) else (none)) else (none))) else (none)) else (none)) else (if 0≤x3 then (if x3≤(x0.length:Int) then (some (x0.take (x3:Int).toNat)) else (none)) else (none))
def gimbalref90_NTrim.f (k:Nat) (l0:List Int):Option (List Int):=gimbalref90_NTrim.l0 k l0 (l0.length:Int)
set_option maxHeartbeats 8000000 in
set_option maxRecDepth 100000 in
theorem gimbalref90_NTrim.calls (k:Nat) (P0_:Nat→Prop) (u9000_:Value) (l0:List Int) (r:List Int) (w0 w:World) (hB:Below w0.heap.size w0 w) (ho0:Kd.R (Kd.int .u64) 76 w w0.heap.size P0_ u9000_ l0) (h:gimbalref90_NTrim.f k l0=some r) :
    Calls Try.prog 104 #[u9000_] w fun e w'=>∃ v0_:Value,e = .returned (v0_)∧Kd.R (Kd.int .u64) 76 w' w0.heap.size (fun k_=>(P0_ k_∨w.heap.size≤k_)) v0_ r∧Below w0.heap.size w0 w'∧Kept w w' (fun k_=>P0_ k_):=by
  have HO0:=Aside0.mk (show Kd.R (Kd.int .u64) 76 w w0.heap.size (fun k_=>(P0_ k_∨w.heap.size≤k_)) u9000_ l0 from Kd.R_mono ho0 (fun k_ hk=>(.inl hk)))
  have HK:=Aside0.mk (Kept.refl w (fun k_=>P0_ k_))
  have HW0:=Aside0.mk hB.size
  have HB:=Aside0.mk hB
  clear hB
  have H:(gimbalref90_NTrim.l0 k l0 (l0.length:Int))=some r:=h
  clear h
  have H':=Aside0.mk H
  clear H
  obtain ⟨Ao2,co2,eo2⟩:=Kd.R_slice HO0.out
  subst eo2
  go_enter Try.func104,Try.ntmps104
  go_wp2
  go_loopg [3] k (fun kq v3 w'=>∃ (x3_1:Int),v3 = .int .i64 x3_1∧Aside0 (gimbalref90_NTrim.l0 kq l0 x3_1=some r)∧Aside0 (kq≤k)∧Aside0 (Kd.R (Kd.int .u64) 76 w' w0.heap.size (fun k_=>(P0_ k_∨w.heap.size≤k_)) (.slice Ao2 l0.length co2) l0)∧Aside0 (Kept w w' (fun k_=>P0_ k_))∧Aside0 (Below w0.heap.size w0 w'))
  case atStart=>exact ⟨((l0.length:Int)),(by first|rfl|(simp;done)|(simp [*];done)),H',⟨Nat.le_refl _⟩,⟨by (with_reducible repeat (first|apply Kd.R_alloc|apply Kd.R_drewN|apply Kd.R_drew));exact HO0.out⟩,⟨by repeat (first|(with_reducible first|exact HK.out|apply Kept.alloc|apply Kept.drewN|apply Kept.drew)|exact HK.out)⟩,⟨by repeat (first|(with_reducible first|exact HB.out|apply below_alloc|apply pw_below_drewN|apply below_drew1)|exact HB.out)⟩⟩
  case round =>
    clear H'
    try clear c1
    try clear p2
    obtain ⟨x3_1,rfl,HA,HK1,HO_0,HK,HB⟩:=hrel
    cases gk with
    | zero=>exact absurd HA.out (by simp [gimbalref90_NTrim.l0])
    | succ k1 =>
      have H:=HA.out
      clear HA
      simp only [gimbalref90_NTrim.l0] at H
      by_cases c3:x3_1>0
      · rw [if_pos c3] at H
        have c3b0:decide (0<x3_1)=true:=decide_eq_true c3
        clear c3
        obtain ⟨ji4,hji4⟩:∃ j_:Int,(wrap64 (x3_1-1))=j_:=⟨_,rfl⟩
        replace H:(if 0≤(ji4) then (if (ji4)<(l0.length:Int) then (if (rd l0 (ji4))=0 then (gimbalref90_NTrim.l0 k1 l0 ji4) else (if 0≤x3_1 then (if x3_1≤(l0.length:Int) then (some (l0.take (x3_1:Int).toNat)) else (none)) else (none))) else (none)) else (none))=some r:=by first|(rw [hji4] at H;exact H)|(simp only [hji4] at H ⊢;exact H)
        have hji4w:(IntKind.i64.wrap (x3_1-1))=ji4:=(i64_w _).trans hji4
        by_cases c5:0≤(ji4)
        · rw [if_pos c5] at H
          have c5b0:decide (0≤(ji4))=true:=decide_eq_true c5
          clear c5
          by_cases c6:(ji4)<(l0.length:Int)
          · rw [if_pos c6] at H
            have c6b0:decide ((ji4)<(l0.length:Int))=true:=decide_eq_true c6
            clear c6
            by_cases c7:(rd l0 (ji4))=0
            · rw [if_pos c7] at H
              have c7b0:((rd l0 (ji4)) == 0)=true:=beq_iff_eq.mpr c7
              have c7b1:((rd l0 (ji4)) != 0)=false:=bne_eq_false_iff_eq.mpr c7
              clear c7
              have H':=Aside0.mk H
              clear H
              have p119:0≤((ji4):Int):=of_decide_eq_true (by first|(with_reducible assumption)|assumption)
              have q119:(ji4)<(l0.length:Int):=of_decide_eq_true (by first|(with_reducible assumption)|assumption)
              obtain ⟨ad119,e119,hx119_0⟩:=Kd.at_int (Kd.R_reads' HO_0.out).2.2 (ji4) p119 q119
              cases e119
              replace p119:=eq_true p119
              replace q119:=eq_true q119
              go_wp2
              go_roundg k1
              case measure=>have:=HK1.out;omega
              case rel=>exact ⟨(ji4),(by first|rfl|(simp;done)|(simp only [← hji4]<;>(first|rfl|simp))|(simp [*];done)),H',⟨by have:=HK1.out;omega⟩,⟨by (with_reducible repeat (first|apply Kd.R_alloc|apply Kd.R_drewN|apply Kd.R_drew));exact HO_0.out⟩,⟨by repeat (first|(with_reducible first|exact HK.out|apply Kept.alloc|apply Kept.drewN|apply Kept.drew)|exact HK.out)⟩,⟨by repeat (first|(with_reducible first|exact HB.out|apply below_alloc|apply pw_below_drewN|apply below_drew1)|exact HB.out)⟩⟩
            · rw [if_neg c7] at H
              have c7b0:((rd l0 (ji4)) == 0)=false:=beq_eq_false_iff_ne.mpr c7
              have c7b1:((rd l0 (ji4)) != 0)=true:=bne_iff_ne.mpr c7
              by_cases c8:0≤x3_1
              · rw [if_pos c8] at H
                have c8b0:=eq_true c8
                have c8b1:decide (0≤x3_1)=true:=decide_eq_true c8
                clear c8
                by_cases c9:x3_1≤(l0.length:Int)
                · rw [if_pos c9] at H
                  have c9b0:=eq_true c9
                  have c9b1:decide (x3_1≤(l0.length:Int))=true:=decide_eq_true c9
                  clear c9
                  obtain ⟨y120,hy120⟩:∃ y_:List Int,y_=(l0.take (x3_1:Int).toNat):=⟨_,rfl⟩
                  replace H:(some y120)=some r:=by first|(rw [hy120];with_reducible exact H)|(have H2_:=(Option.bind_some _ _).symm.trans H;rw [hy120];with_reducible exact H2_)|(have H2_:=(Option.bind_some _ _).symm.trans H;with_reducible exact H2_)|with_reducible exact H|(rw [hy120];exact H)|exact H
                  have Ny120:=Aside0.mk hy120
                  clear hy120
                  obtain rfl:=Option.some.inj H
                  have p119:0≤((ji4):Int):=of_decide_eq_true (by first|(with_reducible assumption)|assumption)
                  have q119:(ji4)<(l0.length:Int):=of_decide_eq_true (by first|(with_reducible assumption)|assumption)
                  obtain ⟨ad119,e119,hx119_0⟩:=Kd.at_int (Kd.R_reads' HO_0.out).2.2 (ji4) p119 q119
                  cases e119
                  replace p119:=eq_true p119
                  replace q119:=eq_true q119
                  have q10:(x3_1:Int)≤((l0.length:Int):Int):=of_decide_eq_true (by first|(with_reducible assumption)|assumption)
                  obtain ⟨i010,hi010,_,hsz10,_⟩:=info_parts info76
                  have hcut10:=cut_to (P:=Try.prog) 42 76 .i64 Try.underlying42 hi010 (some ad119) l0.length co2 x3_1 (of_decide_eq_true (by first|(with_reducible assumption)|assumption)) q10 (Kd.R_reads' HO_0.out).2.1
                  have hr10:=Kd.R_take (m:=(x3_1:Int).toNat) HO_0.out (by omega)
                  have hy10:y120.length=(x3_1:Int).toNat:=(by rw [Ny120.out,List.length_take];omega)
                  rw [← Ny120.out] at hr10
                  rw [← hy10] at hr10 hcut10
                  clear hy10 hi010 hsz10 HO_0
                  have HO122:=Aside0.mk hr10
                  clear hr10
                  replace q10:=eq_true q10
                  go_wp2
                  go_ret
                  exact ⟨_,by first|rfl|(simp [errW_none,errW_some]<;>rfl)|(simp only [← hji4];first|rfl|(simp [errW_none,errW_some]<;>rfl))|(simp [*,errW_none,errW_some]<;>rfl),by (with_reducible repeat (first|apply Kd.R_alloc|apply Kd.R_drewN|apply Kd.R_drew));exact HO122.out,by repeat (first|(with_reducible first|exact HB.out|apply below_alloc|apply pw_below_drewN|apply below_drew1)|exact HB.out),by repeat (first|(with_reducible first|exact HK.out|apply Kept.alloc|apply Kept.drewN|apply Kept.drew)|exact HK.out)⟩
                · rw [if_neg c9] at H
                  exact absurd H (by simp)
              · rw [if_neg c8] at H
                exact absurd H (by simp)
          · rw [if_neg c6] at H
            exact absurd H (by simp)
        · rw [if_neg c5] at H
          exact absurd H (by simp)
      · rw [if_neg c3] at H
        have c3b0:decide (0<x3_1)=false:=decide_eq_false c3
        clear c3
        by_cases c11:0≤x3_1
        · rw [if_pos c11] at H
          have c11b0:=eq_true c11
          have c11b1:decide (0≤x3_1)=true:=decide_eq_true c11
          clear c11
          by_cases c12:x3_1≤(l0.length:Int)
          · rw [if_pos c12] at H
            have c12b0:=eq_true c12
            have c12b1:decide (x3_1≤(l0.length:Int))=true:=decide_eq_true c12
            clear c12
            obtain ⟨y123,hy123⟩:∃ y_:List Int,y_=(l0.take (x3_1:Int).toNat):=⟨_,rfl⟩
            replace H:(some y123)=some r:=by first|(rw [hy123];with_reducible exact H)|(have H2_:=(Option.bind_some _ _).symm.trans H;rw [hy123];with_reducible exact H2_)|(have H2_:=(Option.bind_some _ _).symm.trans H;with_reducible exact H2_)|with_reducible exact H|(rw [hy123];exact H)|exact H
            have Ny123:=Aside0.mk hy123
            clear hy123
            obtain rfl:=Option.some.inj H
            have q13:(x3_1:Int)≤((l0.length:Int):Int):=of_decide_eq_true (by first|(with_reducible assumption)|assumption)
            obtain ⟨i013,hi013,_,hsz13,_⟩:=info_parts info76
            have hcut13:=cut_to (P:=Try.prog) 42 76 .i64 Try.underlying42 hi013 Ao2 l0.length co2 x3_1 (of_decide_eq_true (by first|(with_reducible assumption)|assumption)) q13 (Kd.R_reads' HO_0.out).2.1
            have hr13:=Kd.R_take (m:=(x3_1:Int).toNat) HO_0.out (by omega)
            have hy13:y123.length=(x3_1:Int).toNat:=(by rw [Ny123.out,List.length_take];omega)
            rw [← Ny123.out] at hr13
            rw [← hy13] at hr13 hcut13
            clear hy13 hi013 hsz13 HO_0
            have HO125:=Aside0.mk hr13
            clear hr13
            replace q13:=eq_true q13
            go_wp2
            go_ret
            exact ⟨_,by first|rfl|(simp [errW_none,errW_some]<;>rfl)|(simp [*,errW_none,errW_some]<;>rfl),by (with_reducible repeat (first|apply Kd.R_alloc|apply Kd.R_drewN|apply Kd.R_drew));exact HO125.out,by repeat (first|(with_reducible first|exact HB.out|apply below_alloc|apply pw_below_drewN|apply below_drew1)|exact HB.out),by repeat (first|(with_reducible first|exact HK.out|apply Kept.alloc|apply Kept.drewN|apply Kept.drew)|exact HK.out)⟩
          · rw [if_neg c12] at H
            exact absurd H (by simp)
        · rw [if_neg c11] at H
          exact absurd H (by simp)
def gimbalref90_whole.l0:Nat→List Int→List Int→Int→Option (List Int)
  | 0,_,_,_=>none
  | k+1,x0,x3,x4=>if x4<(x0.length:Int) then (if 0≤x4 then (if (wrap64 (x4+1))<(x0.length:Int) then (if 0≤(wrap64 (x4+1)) then (if x3.length<17592186044416 then (gimbalref90_whole.l0 k x0 (x3++[Go.bits .or .u64 (IntKind.u64.wrap (rd x0 x4)) (IntKind.u64.wrap ((IntKind.u64.wrap (rd x0 (wrap64 (x4+1))))*4294967296))]) (wrap64 (x4+2))) else (none)) else (none)) else (if x3.length<17592186044416 then (gimbalref90_whole.l0 k x0 (x3++[IntKind.u64.wrap (rd x0 x4)]) (wrap64 (x4+2))) else (none))) else (none)) else ((gimbalref90_NTrim.f k x3).bind fun t134=>(some t134))
def gimbalref90_whole.f (k:Nat) (l0:List Int):Option (List Int):=gimbalref90_whole.l0 k l0 ([]:List Int) 0
set_option maxHeartbeats 8000000 in
set_option maxRecDepth 100000 in
theorem gimbalref90_whole.calls (k:Nat) (A0:Option Addr) (c0:Nat) (l0:List Int) (r:List Int) (w:World) (hr0:Kd.C (Kd.int .u32) w A0 l0.length l0) (hc0:l0.length≤c0) (h:gimbalref90_whole.f k l0=some r) :
    Calls Try.prog 102 #[.slice A0 l0.length c0] w fun e w'=>∃ v0_:Value,e = .returned (v0_)∧Kd.R (Kd.int .u64) 76 w' w.heap.size (fun _=>True) v0_ r∧Below w.heap.size w w':=by
  have HR0:=Aside0.mk hr0
  have HC0:=Aside0.mk hc0
  clear hr0 hc0
  have HB:=Aside0.mk (Below.refl w.heap.size w)
  have H:(gimbalref90_whole.l0 k l0 ([]:List Int) 0)=some r:=h
  clear h
  have H':=Aside0.mk H
  clear H
  go_enter Try.func102,Try.ntmps102
  go_wp2
  go_loopg [3,4] k (fun kq v3 v4 w'=>∃ (x3_1:List Int) (x4_1:Int),v4 = .int .i64 x4_1∧Aside0 (gimbalref90_whole.l0 kq l0 x3_1 x4_1=some r)∧Aside0 (kq≤k)∧Aside0 (Kd.R (Kd.int .u64) 76 w' w.heap.size (fun _=>True) v3 x3_1)∧Aside0 (Below w.heap.size w w'))
  case atStart=>exact ⟨(([]:List Int)),(0),(by first|rfl|(simp;done)|(simp [*];done)),H',⟨Nat.le_refl _⟩,⟨by first|exact Kd.R_nil _ _ _ _ _|exact Kd.N_nil _ _ _ _ _|exact Kd.V_nil _ _ _ _ _|exact Kd.Q_nil _ _ _ _ _|exact Kd.S_nil _ _ _ _ _⟩,⟨by repeat (first|(with_reducible first|exact HB.out|apply below_alloc|apply pw_below_drewN|apply below_drew1)|exact HB.out)⟩⟩
  case round =>
    clear H'
    try clear c1
    obtain ⟨x3_1,x4_1,rfl,HA,HK1,HO_3,HB⟩:=hrel
    cases gk with
    | zero=>exact absurd HA.out (by simp [gimbalref90_whole.l0])
    | succ k1 =>
      have H:=HA.out
      clear HA
      simp only [gimbalref90_whole.l0] at H
      by_cases c2:x4_1<(l0.length:Int)
      · rw [if_pos c2] at H
        have c2b0:decide (x4_1<(l0.length:Int))=true:=decide_eq_true c2
        clear c2
        by_cases c3:0≤x4_1
        · rw [if_pos c3] at H
          have c3b0:decide (0≤x4_1)=true:=decide_eq_true c3
          clear c3
          by_cases c4:(wrap64 (x4_1+1))<(l0.length:Int)
          · rw [if_pos c4] at H
            have c4b0:decide ((wrap64 (x4_1+1))<(l0.length:Int))=true:=decide_eq_true c4
            clear c4
            obtain ⟨ji5,hji5⟩:∃ j_:Int,(wrap64 (x4_1+1))=j_:=⟨_,rfl⟩
            replace H:(if 0≤(ji5) then (if x3_1.length<17592186044416 then (gimbalref90_whole.l0 k1 l0 (x3_1++[Go.bits .or .u64 (IntKind.u64.wrap (rd l0 x4_1)) (IntKind.u64.wrap ((IntKind.u64.wrap (rd l0 (ji5)))*4294967296))]) (wrap64 (x4_1+2))) else (none)) else (none))=some r:=by first|(rw [hji5] at H;exact H)|(simp only [hji5] at H ⊢;exact H)
            (try rw [hji5] at c4b0)
            have hji5w:(IntKind.i64.wrap (x4_1+1))=ji5:=(i64_w _).trans hji5
            by_cases c6:0≤(ji5)
            · rw [if_pos c6] at H
              have c6b0:decide (0≤(ji5))=true:=decide_eq_true c6
              clear c6
              by_cases c7:x3_1.length<17592186044416
              · rw [if_pos c7] at H
                have LMc7:=Aside0.mk c7
                clear c7
                obtain ⟨y128,hy128⟩:∃ y_:List Int,y_=(x3_1++[Go.bits .or .u64 (IntKind.u64.wrap (rd l0 x4_1)) (IntKind.u64.wrap ((IntKind.u64.wrap (rd l0 (ji5)))*4294967296))]):=⟨_,rfl⟩
                replace H:(gimbalref90_whole.l0 k1 l0 y128 (wrap64 (x4_1+2)))=some r:=by first|(rw [hy128];with_reducible exact H)|(have H2_:=(Option.bind_some _ _).symm.trans H;rw [hy128];with_reducible exact H2_)|(have H2_:=(Option.bind_some _ _).symm.trans H;with_reducible exact H2_)|with_reducible exact H|(rw [hy128];exact H)|exact H
                have Ny128:=Aside0.mk hy128
                clear hy128
                have H':=Aside0.mk H
                clear H
                have p126:0≤(x4_1:Int):=of_decide_eq_true (by first|(with_reducible assumption)|assumption)
                have q126:x4_1<(l0.length:Int):=of_decide_eq_true (by first|(with_reducible assumption)|assumption)
                obtain ⟨ad126,e126,hx126_0⟩:=Kd.at_int HR0.out x4_1 p126 q126
                cases e126
                replace hx126_0:=(HB.out.cell (World.block_lt_of_cell? w _ hx126_0)).trans hx126_0
                replace p126:=eq_true p126
                replace q126:=eq_true q126
                have p127:0≤((ji5):Int):=of_decide_eq_true (by first|(with_reducible assumption)|assumption)
                have q127:(ji5)<(l0.length:Int):=of_decide_eq_true (by first|(with_reducible assumption)|assumption)
                obtain ⟨ad127,e127,hx127_0⟩:=Kd.at_int HR0.out (ji5) p127 q127
                obtain rfl:ad126=ad127:=(by injection e127)
                replace hx127_0:=(HB.out.cell (World.block_lt_of_cell? w _ hx127_0)).trans hx127_0
                replace p127:=eq_true p127
                replace q127:=eq_true q127
                go_wp2_with (first|((with_reducible refine gate_builtin (b := .append) (xs:=#[.tmp 31,.tmp 33]) rfl ?_);at_builtin;refine Kd.R_append (Kd.int .u64) (w0:=w) w.heap.size rfl (.tmp 31) (.tmp 33) 42 76 (.int .u64 0) 8 rfl Try.underlying42 info76 rfl (by decide) (by omega) u3 x3_1 (Go.bits .or .u64 (IntKind.u64.wrap (rd l0 x4_1)) (IntKind.u64.wrap ((IntKind.u64.wrap (rd l0 (ji5)))*4294967296))) [.int .u64 (Go.bits .or .u64 (IntKind.u64.wrap (rd l0 x4_1)) (IntKind.u64.wrap ((IntKind.u64.wrap (rd l0 (ji5)))*4294967296)))] (fun _=>True) (fun _=>False) rfl rfl ?aP (fun _ hk=>hk.elim) ?aF ?aO ?aB ?aS ?aL ?_;(case aP=>exact rfl);(case aB=>exact (by repeat (first|(with_reducible first|exact HB.out|apply below_alloc|apply pw_below_drewN|apply below_drew1)|exact HB.out)));(case aF=>exact (fun _ _=>trivial));(case aO=>exact (by (with_reducible repeat (first|apply Kd.R_alloc|apply Kd.R_drewN|apply Kd.R_drew));exact HO_3.out));(case aS=>exact (below_size (by repeat (first|(with_reducible first|exact HB.out|apply below_alloc|apply pw_below_drewN|apply below_drew1)|exact HB.out))));(case aL=>have:=LMc7.out;omega);intro v129 w8 ho hb hg hat;rw [← Ny128.out] at ho;have n0_:=Aside0.mk (hb);have n1_:=Aside0.mk (ho);clear HB;clear HO_3;have HB:=n0_;have HO130:=n1_;clear n0_ n1_;clear ho hb hg hat))
                go_roundg k1
                case measure=>have:=HK1.out;omega
                case rel=>exact ⟨(y128),(wrap64 (x4_1+2)),(by first|rfl|(simp;done)|(simp [*];done)),H',⟨by have:=HK1.out;omega⟩,⟨by (with_reducible repeat (first|apply Kd.R_alloc|apply Kd.R_drewN|apply Kd.R_drew));exact HO130.out⟩,⟨by repeat (first|(with_reducible first|exact HB.out|apply below_alloc|apply pw_below_drewN|apply below_drew1)|exact HB.out)⟩⟩
              · rw [if_neg c7] at H
                exact absurd H (by simp)
            · rw [if_neg c6] at H
              exact absurd H (by simp)
          · rw [if_neg c4] at H
            have c4b0:decide ((wrap64 (x4_1+1))<(l0.length:Int))=false:=decide_eq_false c4
            clear c4
            by_cases c9:x3_1.length<17592186044416
            · rw [if_pos c9] at H
              have LMc9:=Aside0.mk c9
              clear c9
              obtain ⟨y131,hy131⟩:∃ y_:List Int,y_=(x3_1++[IntKind.u64.wrap (rd l0 x4_1)]):=⟨_,rfl⟩
              replace H:(gimbalref90_whole.l0 k1 l0 y131 (wrap64 (x4_1+2)))=some r:=by first|(rw [hy131];with_reducible exact H)|(have H2_:=(Option.bind_some _ _).symm.trans H;rw [hy131];with_reducible exact H2_)|(have H2_:=(Option.bind_some _ _).symm.trans H;with_reducible exact H2_)|with_reducible exact H|(rw [hy131];exact H)|exact H
              have Ny131:=Aside0.mk hy131
              clear hy131
              have H':=Aside0.mk H
              clear H
              have p126:0≤(x4_1:Int):=of_decide_eq_true (by first|(with_reducible assumption)|assumption)
              have q126:x4_1<(l0.length:Int):=of_decide_eq_true (by first|(with_reducible assumption)|assumption)
              obtain ⟨ad126,e126,hx126_0⟩:=Kd.at_int HR0.out x4_1 p126 q126
              cases e126
              replace hx126_0:=(HB.out.cell (World.block_lt_of_cell? w _ hx126_0)).trans hx126_0
              replace p126:=eq_true p126
              replace q126:=eq_true q126
              go_wp2_with (first|((with_reducible refine gate_builtin (b := .append) (xs:=#[.tmp 31,.tmp 33]) rfl ?_);at_builtin;refine Kd.R_append (Kd.int .u64) (w0:=w) w.heap.size rfl (.tmp 31) (.tmp 33) 42 76 (.int .u64 0) 8 rfl Try.underlying42 info76 rfl (by decide) (by omega) u3 x3_1 (IntKind.u64.wrap (rd l0 x4_1)) [.int .u64 (IntKind.u64.wrap (rd l0 x4_1))] (fun _=>True) (fun _=>False) rfl rfl ?aP (fun _ hk=>hk.elim) ?aF ?aO ?aB ?aS ?aL ?_;(case aP=>exact rfl);(case aB=>exact (by repeat (first|(with_reducible first|exact HB.out|apply below_alloc|apply pw_below_drewN|apply below_drew1)|exact HB.out)));(case aF=>exact (fun _ _=>trivial));(case aO=>exact (by (with_reducible repeat (first|apply Kd.R_alloc|apply Kd.R_drewN|apply Kd.R_drew));exact HO_3.out));(case aS=>exact (below_size (by repeat (first|(with_reducible first|exact HB.out|apply below_alloc|apply pw_below_drewN|apply below_drew1)|exact HB.out))));(case aL=>have:=LMc9.out;omega);intro v132 w10 ho hb hg hat;rw [← Ny131.out] at ho;have n0_:=Aside0.mk (hb);have n1_:=Aside0.mk (ho);clear HB;clear HO_3;have HB:=n0_;have HO133:=n1_;clear n0_ n1_;clear ho hb hg hat))
              go_roundg k1
              case measure=>have:=HK1.out;omega
              case rel=>exact ⟨(y131),(wrap64 (x4_1+2)),(by first|rfl|(simp;done)|(simp [*];done)),H',⟨by have:=HK1.out;omega⟩,⟨by (with_reducible repeat (first|apply Kd.R_alloc|apply Kd.R_drewN|apply Kd.R_drew));exact HO133.out⟩,⟨by repeat (first|(with_reducible first|exact HB.out|apply below_alloc|apply pw_below_drewN|apply below_drew1)|exact HB.out)⟩⟩
            · rw [if_neg c9] at H
              exact absurd H (by simp)
        · rw [if_neg c3] at H
          exact absurd H (by simp)
      · rw [if_neg c2] at H
        have c2b0:decide (x4_1<(l0.length:Int))=false:=decide_eq_false c2
        clear c2
        replace H:=Option.bind_eq_some_iff.mp H
        obtain ⟨t134,A110,H⟩:=H
        replace H:(some t134)=some r:=H
        have A11:=Aside0.mk A110
        clear A110
        obtain rfl:=Option.some.inj H
        obtain ⟨Ao12,co12,eo12⟩:=Kd.R_slice HO_3.out
        subst eo12
        go_wp2_with (first|((with_reducible refine gate_callee (f:=104) rfl ?_);refine goesL_ (some 36) rfl rfl Try.func104 (by kernel_rfl) rfl #[.slice Ao12 x3_1.length co12] rfl (by (try simp only [List.map_toArray,List.map_cons,List.map_nil]);first|done|rfl|(simp only [List.length_drop,List.length_take];rfl)) ?_;(with_reducible refine (gimbalref90_NTrim.calls k1 (fun k_=>some k_=(.slice Ao12 x3_1.length co12:Value).ownBlock) (.slice Ao12 x3_1.length co12) x3_1 t134 w _ ?side1 ?side2 A11.out).mono ?_);(case side1=>repeat (first|(with_reducible first|exact HB.out|apply below_alloc|apply pw_below_drewN|apply below_drew1)|exact HB.out));(case side2=>exact Kd.R_tight rfl HO_3.out);rintro e w13 ⟨v135,rfl,ho0,hb,hkp⟩;refine ⟨_,rfl,?_⟩;have n0_:=Aside0.mk (Kd.R_mono (ok':=fun k_=>True) ho0 (fun k_ hk_=>trivial));have n1_:=Aside0.mk (hb);clear HB;clear HO_3;have HO136:=n0_;have HB:=n1_;clear n0_ n1_;(try clear hb);(try clear hkp);(try clear ho0)))
        go_ret
        exact ⟨_,by first|rfl|(simp [errW_none,errW_some]<;>rfl)|(simp [*,errW_none,errW_some]<;>rfl),by (with_reducible repeat (first|apply Kd.R_alloc|apply Kd.R_drewN|apply Kd.R_drew));exact HO136.out,by repeat (first|(with_reducible first|exact HB.out|apply below_alloc|apply pw_below_drewN|apply below_drew1)|exact HB.out)⟩
end Go.Proofs.Ythokdnheijnmmaa.QN90
end
section
namespace Go.Proofs.Ythokdnheijnmmaa.QN90
open Go.RowKit Go.Proofs.YthokdnheijnmmaaW.PrintWords Go.Proofs.YthokdnheijnmmaaW.PrintLast Go.Proofs.YthokdnheijnmmaaW.PrintMore
attribute [local go_sem] max2_int min2_int max_two min_two max_three min_three max_four min_four   -- for this text's walks alone
set_option linter.unusedVariables false
set_option linter.unusedSimpArgs false
mutual
def gimbalref90_NPlus.l0:Nat→List Int→List Int→List Int→Int→Int→Option (List Int)
  | 0,_,_,_,_,_=>none
  | k+1,x5,x6,x7,x8,x9=>if x9<(x5.length:Int) then (gimbalref90_NPlus.j1 k x5 x6 x7 x8 x9 true) else (gimbalref90_NPlus.j1 k x5 x6 x7 x8 x9 (decide (x9<(x6.length:Int))))
def gimbalref90_NPlus.j1:Nat→List Int→List Int→List Int→Int→Int→Bool→Option (List Int)
  | 0,_,_,_,_,_,_=>none
  | k+1,x5,x6,x7,x8,x9,x23=>if x23=true then (if x9<(x5.length:Int) then (if 0≤x9 then (if x9<(x6.length:Int) then (if x7.length<35184372088832 then (gimbalref90_NPlus.l0 k x5 x6 (x7++[(IntKind.u64.wrap ((IntKind.u64.wrap (x8+(IntKind.u64.wrap (rd x5 x9))))+(IntKind.u64.wrap (rd x6 x9))))%4294967296]) ((IntKind.u64.wrap ((IntKind.u64.wrap (x8+(IntKind.u64.wrap (rd x5 x9))))+(IntKind.u64.wrap (rd x6 x9))))/4294967296) (wrap64 (x9+1))) else (none)) else (if x7.length<35184372088832 then (gimbalref90_NPlus.l0 k x5 x6 (x7++[(IntKind.u64.wrap (x8+(IntKind.u64.wrap (rd x5 x9))))%4294967296]) ((IntKind.u64.wrap (x8+(IntKind.u64.wrap (rd x5 x9))))/4294967296) (wrap64 (x9+1))) else (none))) else (none)) else (if x9<(x6.length:Int) then (if 0≤x9 then (if x7.length<35184372088832 then (gimbalref90_NPlus.l0 k x5 x6 (x7++[(IntKind.u64.wrap (x8+(IntKind.u64.wrap (rd x6 x9))))%4294967296]) ((IntKind.u64.wrap (x8+(IntKind.u64.wrap (rd x6 x9))))/4294967296) (wrap64 (x9+1))) else (none)) else (none)) else (if x7.length<35184372088832 then (gimbalref90_NPlus.l0 k x5 x6 (x7++[(x8)%4294967296]) (x8/4294967296) (wrap64 (x9+1))) else (none)))) else (if x7.length<35184372088832 then ((gimbalref90_cut.f k (x7++[(x8)%4294967296])).bind fun t146=>((gimbalref90_whole.f k t146).bind fun t149=>(some t149))) else (none))
end
def gimbalref90_NPlus.f (k:Nat) (l0:List Int) (l1:List Int):Option (List Int):=(gimbalref90_halves.f k l0).bind fun t137=>((gimbalref90_halves.f k l1).bind fun t140=>(gimbalref90_NPlus.l0 k t137 t140 ([]:List Int) 0 0))
set_option maxHeartbeats 8000000 in
set_option maxRecDepth 100000 in
theorem gimbalref90_NPlus.calls (k:Nat) (A0:Option Addr) (c0:Nat) (l0:List Int) (A1:Option Addr) (c1:Nat) (l1:List Int) (r:List Int) (w:World) (hr0:Kd.C (Kd.int .u64) w A0 l0.length l0) (hc0:l0.length≤c0) (hr1:Kd.C (Kd.int .u64) w A1 l1.length l1) (hc1:l1.length≤c1) (h:gimbalref90_NPlus.f k l0 l1=some r) :
    Calls Try.prog 68 #[.slice A0 l0.length c0,.slice A1 l1.length c1] w fun e w'=>∃ v0_:Value,e = .returned (v0_)∧Kd.R (Kd.int .u64) 76 w' w.heap.size (fun _=>True) v0_ r∧Below w.heap.size w w':=by
  have HR0:=Aside0.mk hr0
  have HC0:=Aside0.mk hc0
  clear hr0 hc0
  have HR1:=Aside0.mk hr1
  have HC1:=Aside0.mk hc1
  clear hr1 hc1
  have HB:=Aside0.mk (Below.refl w.heap.size w)
  have H:((gimbalref90_halves.f k l0).bind fun t137=>((gimbalref90_halves.f k l1).bind fun t140=>(gimbalref90_NPlus.l0 k t137 t140 ([]:List Int) 0 0)))=some r:=h
  clear h
  replace H:=Option.bind_eq_some_iff.mp H
  obtain ⟨t137,A30,H⟩:=H
  replace H:((gimbalref90_halves.f k l1).bind fun t140=>(gimbalref90_NPlus.l0 k t137 t140 ([]:List Int) 0 0))=some r:=H
  have A3:=Aside0.mk A30
  clear A30
  replace H:=Option.bind_eq_some_iff.mp H
  obtain ⟨t140,A40,H⟩:=H
  replace H:(gimbalref90_NPlus.l0 k t137 t140 ([]:List Int) 0 0)=some r:=H
  have A4:=Aside0.mk A40
  clear A40
  have H':=Aside0.mk H
  clear H
  go_enter Try.func68,Try.ntmps68
  go_wp2_with (first|((with_reducible refine gate_callee (f:=101) rfl ?_);refine goesL_ (some 11) rfl rfl Try.func101 (by kernel_rfl) rfl #[.slice A0 l0.length c0] rfl (by (try simp only [List.map_toArray,List.map_cons,List.map_nil]);first|done|rfl|(simp only [List.length_drop,List.length_take];rfl)) ?_;(with_reducible refine (gimbalref90_halves.calls k _ _ l0 t137 _ ?side1 ?side2 A3.out).mono ?_);(case side1=>repeat (first|exact HR0.out|(with_reducible refine Kd.C_alloc ?_ _)|(with_reducible refine Kd.C_drewN ?_ _)|(with_reducible refine Kd.C_drew ?_)));(case side2=>exact HC0.out);rintro e w5 ⟨v138,rfl,ho0,hb⟩;refine ⟨_,rfl,?_⟩;have n0_:=Aside0.mk (Kd.R_lower ho0 (below_size (by repeat (first|(with_reducible first|exact HB.out|apply below_alloc|apply pw_below_drewN|apply below_drew1)|exact HB.out))));have n1_:=Aside0.mk (below_step (by repeat (first|(with_reducible first|exact HB.out|apply below_alloc|apply pw_below_drewN|apply below_drew1)|exact HB.out)) hb);clear HB;have HO139:=n0_;have HB:=n1_;clear n0_ n1_;(try clear hb);(try clear hb2);(try clear hk);(try clear hi);(try clear ho0))|((with_reducible refine gate_callee (f:=101) rfl ?_);refine goesL_ (some 13) rfl rfl Try.func101 (by kernel_rfl) rfl #[.slice A1 l1.length c1] rfl (by (try simp only [List.map_toArray,List.map_cons,List.map_nil]);first|done|rfl|(simp only [List.length_drop,List.length_take];rfl)) ?_;(with_reducible refine (gimbalref90_halves.calls k _ _ l1 t140 _ ?side1 ?side2 A4.out).mono ?_);(case side1=>repeat (first|exact (Kd.C_below HR1.out HB.out)|(with_reducible refine Kd.C_alloc ?_ _)|(with_reducible refine Kd.C_drewN ?_ _)|(with_reducible refine Kd.C_drew ?_)));(case side2=>exact HC1.out);rintro e w6 ⟨v141,rfl,ho0,hb⟩;refine ⟨_,rfl,?_⟩;have n0_:=Aside0.mk (Kd.R_elder' (by (with_reducible repeat (first|apply Kd.R_alloc|apply Kd.R_drewN|apply Kd.R_drew));exact HO139.out) (Kd.R_base ho0) hb);have n1_:=Aside0.mk (Kd.R_lower (Kd.R_new' ho0 (Kd.R_lt (by (with_reducible repeat (first|apply Kd.R_alloc|apply Kd.R_drewN|apply Kd.R_drew));exact HO139.out))) (below_size (by repeat (first|(with_reducible first|exact HB.out|apply below_alloc|apply pw_below_drewN|apply below_drew1)|exact HB.out))));have n2_:=Aside0.mk (below_step (by repeat (first|(with_reducible first|exact HB.out|apply below_alloc|apply pw_below_drewN|apply below_drew1)|exact HB.out)) hb);clear HO139;clear HB;have HO139:=n0_;have HO142:=n1_;have HB:=n2_;clear n0_ n1_ n2_;(try clear hb);(try clear hb2);(try clear hk);(try clear hi);(try clear ho0)))
  go_loopg [7,8,9] k (fun kq v7 v8 v9 w'=>∃ (x7_1:List Int) (x8_1:Int) (x9_1:Int),v8 = .int .u64 x8_1∧v9 = .int .i64 x9_1∧Aside0 (gimbalref90_NPlus.l0 kq t137 t140 x7_1 x8_1 x9_1=some r)∧Aside0 (kq≤k)∧Aside0 (Kd.R (Kd.int .u32) 102 w' w.heap.size (fun k_=>some k_≠(v141:Value).ownBlock∧some k_≠(v7:Value).ownBlock) v138 t137)∧Aside0 (Kd.R (Kd.int .u32) 102 w' w.heap.size (fun k_=>some k_≠(v138:Value).ownBlock∧some k_≠(v7:Value).ownBlock) v141 t140)∧Aside0 (Kd.R (Kd.int .u32) 102 w' w.heap.size (fun k_=>some k_≠(v138:Value).ownBlock∧some k_≠(v141:Value).ownBlock) v7 x7_1)∧Aside0 (Below w.heap.size w w'))
  case atStart=>exact ⟨(([]:List Int)),(0),(0),(by first|rfl|(simp;done)|(simp [*];done)),(by first|rfl|(simp;done)|(simp [*];done)),H',⟨Nat.le_refl _⟩,⟨by (with_reducible repeat (first|apply Kd.R_alloc|apply Kd.R_drewN|apply Kd.R_drew));exact Kd.R_mono HO139.out (fun _ hk=>⟨hk.2,(by simp [Value.ownBlock])⟩)⟩,⟨by (with_reducible repeat (first|apply Kd.R_alloc|apply Kd.R_drewN|apply Kd.R_drew));exact Kd.R_mono HO142.out (fun _ hk=>⟨hk.2,(by simp [Value.ownBlock])⟩)⟩,⟨by first|exact Kd.R_nil _ _ _ _ _|exact Kd.N_nil _ _ _ _ _|exact Kd.V_nil _ _ _ _ _|exact Kd.Q_nil _ _ _ _ _|exact Kd.S_nil _ _ _ _ _⟩,⟨by repeat (first|(with_reducible first|exact HB.out|apply below_alloc|apply pw_below_drewN|apply below_drew1)|exact HB.out)⟩⟩
  case round =>
    clear H'
    try clear c1
    try clear p2
    try clear c6
    obtain ⟨x7_1,x8_1,x9_1,rfl,rfl,HA,HK1,HO_5,HO_6,HO_7,HB⟩:=hrel
    cases gk with
    | zero=>exact absurd HA.out (by simp [gimbalref90_NPlus.l0])
    | succ k1 =>
      have H:=HA.out
      clear HA
      simp only [gimbalref90_NPlus.l0] at H
      have HC7:=Aside0.mk H
      clear H
      go_upto_region 6 with (fail)
      go_cut [23] (fun v23 wc=>∃ (kq:Nat) (x23_6:Bool),v23 = .bool x23_6∧Aside0 (gimbalref90_NPlus.j1 kq t137 t140 x7_1 x8_1 x9_1 x23_6=some r)∧Aside0 (kq≤k1)∧Aside0 (Kd.R (Kd.int .u32) 102 wc w.heap.size (fun k_=>some k_≠(v141:Value).ownBlock∧some k_≠(u7:Value).ownBlock) v138 t137)∧Aside0 (Kd.R (Kd.int .u32) 102 wc w.heap.size (fun k_=>some k_≠(v138:Value).ownBlock∧some k_≠(u7:Value).ownBlock) v141 t140)∧Aside0 (Kd.R (Kd.int .u32) 102 wc w.heap.size (fun k_=>some k_≠(v138:Value).ownBlock∧some k_≠(v141:Value).ownBlock) u7 x7_1)∧Aside0 (Below w.heap.size w wc))
      case first =>
        have H:=HC7.out
        clear HC7
        by_cases c8:x9_1<(t137.length:Int)
        · rw [if_pos c8] at H
          have c8b0:decide (x9_1<(t137.length:Int))=true:=decide_eq_true c8
          clear c8
          (first|rw [c8b0]|(simp only [i64_w,i32_w];rw [c8b0])|skip)
          have H':=Aside0.mk H
          clear H
          obtain ⟨Ao9,co9,eo9⟩:=Kd.R_slice HO_5.out
          subst eo9
          go_wp2
          go_meet
          case rel=>exact ⟨_,(true),(by first|rfl|(simp;done)|(simp [*];done)),H',⟨by have:=HK1.out;first|omega|exact Nat.le_refl _⟩,⟨by (with_reducible repeat (first|apply Kd.R_alloc|apply Kd.R_drewN|apply Kd.R_drew));exact HO_5.out⟩,⟨by (with_reducible repeat (first|apply Kd.R_alloc|apply Kd.R_drewN|apply Kd.R_drew));exact HO_6.out⟩,⟨by (with_reducible repeat (first|apply Kd.R_alloc|apply Kd.R_drewN|apply Kd.R_drew));exact HO_7.out⟩,⟨by repeat (first|(with_reducible first|exact HB.out|apply below_alloc|apply pw_below_drewN|apply below_drew1)|exact HB.out)⟩⟩
        · rw [if_neg c8] at H
          have c8b0:decide (x9_1<(t137.length:Int))=false:=decide_eq_false c8
          clear c8
          (first|rw [c8b0]|(simp only [i64_w,i32_w];rw [c8b0])|skip)
          have H':=Aside0.mk H
          clear H
          obtain ⟨Ao10,co10,eo10⟩:=Kd.R_slice HO_5.out
          subst eo10
          obtain ⟨Ao11,co11,eo11⟩:=Kd.R_slice HO_6.out
          subst eo11
          go_wp2
          go_meet
          case rel=>exact ⟨_,(decide (x9_1<(t140.length:Int))),(by first|rfl|(simp;done)|(simp [*];done)),H',⟨by have:=HK1.out;first|omega|exact Nat.le_refl _⟩,⟨by (with_reducible repeat (first|apply Kd.R_alloc|apply Kd.R_drewN|apply Kd.R_drew));exact HO_5.out⟩,⟨by (with_reducible repeat (first|apply Kd.R_alloc|apply Kd.R_drewN|apply Kd.R_drew));exact HO_6.out⟩,⟨by (with_reducible repeat (first|apply Kd.R_alloc|apply Kd.R_drewN|apply Kd.R_drew));exact HO_7.out⟩,⟨by repeat (first|(with_reducible first|exact HB.out|apply below_alloc|apply pw_below_drewN|apply below_drew1)|exact HB.out)⟩⟩
      case rest =>
        clear HC7
        try clear c1
        try clear p2
        try clear c6
        try clear c8
        try clear c8b0
        try clear c10
        try clear p2
        obtain ⟨kq,x23_6,rfl,HA,HJ6,HO_5,HO_6,HO_7,HB⟩:=hcut
        cases kq with
        | zero=>exact absurd HA.out (by simp [gimbalref90_NPlus.j1])
        | succ kj6 =>
          have H:=HA.out
          clear HA
          simp only [gimbalref90_NPlus.j1] at H
          by_cases c12:x23_6=true
          · subst c12
            have H1:(if x9_1<(t137.length:Int) then (if 0≤x9_1 then (if x9_1<(t140.length:Int) then (if x7_1.length<35184372088832 then (gimbalref90_NPlus.l0 kj6 t137 t140 (x7_1++[(IntKind.u64.wrap ((IntKind.u64.wrap (x8_1+(IntKind.u64.wrap (rd t137 x9_1))))+(IntKind.u64.wrap (rd t140 x9_1))))%4294967296]) ((IntKind.u64.wrap ((IntKind.u64.wrap (x8_1+(IntKind.u64.wrap (rd t137 x9_1))))+(IntKind.u64.wrap (rd t140 x9_1))))/4294967296) (wrap64 (x9_1+1))) else (none)) else (if x7_1.length<35184372088832 then (gimbalref90_NPlus.l0 kj6 t137 t140 (x7_1++[(IntKind.u64.wrap (x8_1+(IntKind.u64.wrap (rd t137 x9_1))))%4294967296]) ((IntKind.u64.wrap (x8_1+(IntKind.u64.wrap (rd t137 x9_1))))/4294967296) (wrap64 (x9_1+1))) else (none))) else (none)) else (if x9_1<(t140.length:Int) then (if 0≤x9_1 then (if x7_1.length<35184372088832 then (gimbalref90_NPlus.l0 kj6 t137 t140 (x7_1++[(IntKind.u64.wrap (x8_1+(IntKind.u64.wrap (rd t140 x9_1))))%4294967296]) ((IntKind.u64.wrap (x8_1+(IntKind.u64.wrap (rd t140 x9_1))))/4294967296) (wrap64 (x9_1+1))) else (none)) else (none)) else (if x7_1.length<35184372088832 then (gimbalref90_NPlus.l0 kj6 t137 t140 (x7_1++[(x8_1)%4294967296]) (x8_1/4294967296) (wrap64 (x9_1+1))) else (none))))=some r:=by rw [if_pos rfl] at H;exact H
            clear H
            have H:=H1
            clear H1
            by_cases c13:x9_1<(t137.length:Int)
            · rw [if_pos c13] at H
              have c13b0:decide (x9_1<(t137.length:Int))=true:=decide_eq_true c13
              clear c13
              by_cases c14:0≤x9_1
              · rw [if_pos c14] at H
                have c14b0:decide (0≤x9_1)=true:=decide_eq_true c14
                clear c14
                by_cases c15:x9_1<(t140.length:Int)
                · rw [if_pos c15] at H
                  have c15b0:decide (x9_1<(t140.length:Int))=true:=decide_eq_true c15
                  clear c15
                  by_cases c16:x7_1.length<35184372088832
                  · rw [if_pos c16] at H
                    have LMc16:=Aside0.mk c16
                    clear c16
                    obtain ⟨y154,hy154⟩:∃ y_:List Int,y_=(x7_1++[(IntKind.u64.wrap ((IntKind.u64.wrap (x8_1+(IntKind.u64.wrap (rd t137 x9_1))))+(IntKind.u64.wrap (rd t140 x9_1))))%4294967296]):=⟨_,rfl⟩
                    replace H:(gimbalref90_NPlus.l0 kj6 t137 t140 y154 ((IntKind.u64.wrap ((IntKind.u64.wrap (x8_1+(IntKind.u64.wrap (rd t137 x9_1))))+(IntKind.u64.wrap (rd t140 x9_1))))/4294967296) (wrap64 (x9_1+1)))=some r:=by first|(rw [hy154];with_reducible exact H)|(have H2_:=(Option.bind_some _ _).symm.trans H;rw [hy154];with_reducible exact H2_)|(have H2_:=(Option.bind_some _ _).symm.trans H;with_reducible exact H2_)|with_reducible exact H|(rw [hy154];exact H)|exact H
                    have Ny154:=Aside0.mk hy154
                    clear hy154
                    have H':=Aside0.mk H
                    clear H
                    obtain ⟨Ao17,co17,eo17⟩:=Kd.R_slice HO_5.out
                    subst eo17
                    have p152:0≤(x9_1:Int):=of_decide_eq_true (by first|(with_reducible assumption)|assumption)
                    have q152:x9_1<(t137.length:Int):=of_decide_eq_true (by first|(with_reducible assumption)|assumption)
                    obtain ⟨ad152,e152,hx152_0⟩:=Kd.at_int (Kd.R_reads' HO_5.out).2.2 x9_1 p152 q152
                    cases e152
                    replace p152:=eq_true p152
                    replace q152:=eq_true q152
                    obtain ⟨Ao18,co18,eo18⟩:=Kd.R_slice HO_6.out
                    subst eo18
                    have p153:0≤(x9_1:Int):=of_decide_eq_true (by first|(with_reducible assumption)|assumption)
                    have q153:x9_1<(t140.length:Int):=of_decide_eq_true (by first|(with_reducible assumption)|assumption)
                    obtain ⟨ad153,e153,hx153_0⟩:=Kd.at_int (Kd.R_reads' HO_6.out).2.2 x9_1 p153 q153
                    cases e153
                    replace p153:=eq_true p153
                    replace q153:=eq_true q153
                    go_wp2_with (first|((with_reducible refine gate_builtin (b := .append) (xs:=#[.tmp 48,.tmp 51]) rfl ?_);(try (refine gate_guard (by rfl) ?_;dsimp only));at_builtin;refine Kd.R_append (Kd.int .u32) (w0:=w) w.heap.size rfl (.tmp 48) (.tmp 51) 100 102 (.int .u32 0) 4 rfl Try.underlying100 info102 rfl (by decide) (by omega) u7 x7_1 ((IntKind.u64.wrap ((IntKind.u64.wrap (x8_1+(IntKind.u64.wrap (rd t137 x9_1))))+(IntKind.u64.wrap (rd t140 x9_1))))%4294967296) [.int .u32 ((IntKind.u64.wrap ((IntKind.u64.wrap (x8_1+(IntKind.u64.wrap (rd t137 x9_1))))+(IntKind.u64.wrap (rd t140 x9_1))))%4294967296)] (fun k_=>some k_≠(.slice (some ad152) t137.length co17:Value).ownBlock∧some k_≠(.slice (some ad153) t140.length co18:Value).ownBlock) (fun _=>False) rfl rfl ?aP (fun _ hk=>hk.elim) ?aF ?aO ?aB ?aS ?aL ?_;(case aP=>exact rfl);(case aB=>exact (by repeat (first|(with_reducible first|exact HB.out|apply below_alloc|apply pw_below_drewN|apply below_drew1)|exact HB.out)));(case aF=>exact (fun k_ hk=>⟨Kd.fresh' (Kd.R_lt (by (with_reducible repeat (first|apply Kd.R_alloc|apply Kd.R_drewN|apply Kd.R_drew));exact HO_5.out)) k_ hk,Kd.fresh' (Kd.R_lt (by (with_reducible repeat (first|apply Kd.R_alloc|apply Kd.R_drewN|apply Kd.R_drew));exact HO_6.out)) k_ hk⟩));(case aO=>exact (by (with_reducible repeat (first|apply Kd.R_alloc|apply Kd.R_drewN|apply Kd.R_drew));exact HO_7.out));(case aS=>exact (below_size (by repeat (first|(with_reducible first|exact HB.out|apply below_alloc|apply pw_below_drewN|apply below_drew1)|exact HB.out))));(case aL=>have:=LMc16.out;omega);intro v155 w19 ho hb hg hat;rw [← Ny154.out] at ho;have n0_:=Aside0.mk (Kd.R_after (ok:=(fun k_=>some k_≠(.slice (some ad153) t140.length co18:Value).ownBlock)) (by (with_reducible repeat (first|apply Kd.R_alloc|apply Kd.R_drewN|apply Kd.R_drew));exact HO_5.out) hg hat);have n1_:=Aside0.mk (Kd.R_after (ok:=(fun k_=>some k_≠(.slice (some ad152) t137.length co17:Value).ownBlock)) (by (with_reducible repeat (first|apply Kd.R_alloc|apply Kd.R_drewN|apply Kd.R_drew));exact HO_6.out) hg hat);have n2_:=Aside0.mk (hb);have n3_:=Aside0.mk (ho);clear HO_5;clear HO_6;clear HB;clear HO_7;have HO_5:=n0_;have HO_6:=n1_;have HB:=n2_;have HO156:=n3_;clear n0_ n1_ n2_ n3_;clear ho hb hg hat))
                    go_roundg kj6
                    case measure=>have:=HK1.out;have:=HJ6.out;omega
                    case rel=>exact ⟨(y154),((IntKind.u64.wrap ((IntKind.u64.wrap (x8_1+(IntKind.u64.wrap (rd t137 x9_1))))+(IntKind.u64.wrap (rd t140 x9_1))))/4294967296),(wrap64 (x9_1+1)),(by first|rfl|(simp;done)|(simp [*];done)),(by first|rfl|(simp;done)|(simp [*];done)),H',⟨by have:=HK1.out;have:=HJ6.out;omega⟩,⟨by (with_reducible repeat (first|apply Kd.R_alloc|apply Kd.R_drewN|apply Kd.R_drew));exact HO_5.out⟩,⟨by (with_reducible repeat (first|apply Kd.R_alloc|apply Kd.R_drewN|apply Kd.R_drew));exact HO_6.out⟩,⟨by (with_reducible repeat (first|apply Kd.R_alloc|apply Kd.R_drewN|apply Kd.R_drew));exact HO156.out⟩,⟨by repeat (first|(with_reducible first|exact HB.out|apply below_alloc|apply pw_below_drewN|apply below_drew1)|exact HB.out)⟩⟩
                  · rw [if_neg c16] at H
                    exact absurd H (by simp)
                · rw [if_neg c15] at H
                  have c15b0:decide (x9_1<(t140.length:Int))=false:=decide_eq_false c15
                  clear c15
                  by_cases c20:x7_1.length<35184372088832
                  · rw [if_pos c20] at H
                    have LMc20:=Aside0.mk c20
                    clear c20
                    obtain ⟨y157,hy157⟩:∃ y_:List Int,y_=(x7_1++[(IntKind.u64.wrap (x8_1+(IntKind.u64.wrap (rd t137 x9_1))))%4294967296]):=⟨_,rfl⟩
                    replace H:(gimbalref90_NPlus.l0 kj6 t137 t140 y157 ((IntKind.u64.wrap (x8_1+(IntKind.u64.wrap (rd t137 x9_1))))/4294967296) (wrap64 (x9_1+1)))=some r:=by first|(rw [hy157];with_reducible exact H)|(have H2_:=(Option.bind_some _ _).symm.trans H;rw [hy157];with_reducible exact H2_)|(have H2_:=(Option.bind_some _ _).symm.trans H;with_reducible exact H2_)|with_reducible exact H|(rw [hy157];exact H)|exact H
                    have Ny157:=Aside0.mk hy157
                    clear hy157
                    have H':=Aside0.mk H
                    clear H
                    obtain ⟨Ao21,co21,eo21⟩:=Kd.R_slice HO_5.out
                    subst eo21
                    have p152:0≤(x9_1:Int):=of_decide_eq_true (by first|(with_reducible assumption)|assumption)
                    have q152:x9_1<(t137.length:Int):=of_decide_eq_true (by first|(with_reducible assumption)|assumption)
                    obtain ⟨ad152,e152,hx152_0⟩:=Kd.at_int (Kd.R_reads' HO_5.out).2.2 x9_1 p152 q152
                    cases e152
                    replace p152:=eq_true p152
                    replace q152:=eq_true q152
                    obtain ⟨Ao22,co22,eo22⟩:=Kd.R_slice HO_6.out
                    subst eo22
                    go_wp2_with (first|((with_reducible refine gate_builtin (b := .append) (xs:=#[.tmp 48,.tmp 51]) rfl ?_);(try (refine gate_guard (by rfl) ?_;dsimp only));at_builtin;refine Kd.R_append (Kd.int .u32) (w0:=w) w.heap.size rfl (.tmp 48) (.tmp 51) 100 102 (.int .u32 0) 4 rfl Try.underlying100 info102 rfl (by decide) (by omega) u7 x7_1 ((IntKind.u64.wrap (x8_1+(IntKind.u64.wrap (rd t137 x9_1))))%4294967296) [.int .u32 ((IntKind.u64.wrap (x8_1+(IntKind.u64.wrap (rd t137 x9_1))))%4294967296)] (fun k_=>some k_≠(.slice (some ad152) t137.length co21:Value).ownBlock∧some k_≠(.slice Ao22 t140.length co22:Value).ownBlock) (fun _=>False) rfl rfl ?aP (fun _ hk=>hk.elim) ?aF ?aO ?aB ?aS ?aL ?_;(case aP=>exact rfl);(case aB=>exact (by repeat (first|(with_reducible first|exact HB.out|apply below_alloc|apply pw_below_drewN|apply below_drew1)|exact HB.out)));(case aF=>exact (fun k_ hk=>⟨Kd.fresh' (Kd.R_lt (by (with_reducible repeat (first|apply Kd.R_alloc|apply Kd.R_drewN|apply Kd.R_drew));exact HO_5.out)) k_ hk,Kd.fresh' (Kd.R_lt (by (with_reducible repeat (first|apply Kd.R_alloc|apply Kd.R_drewN|apply Kd.R_drew));exact HO_6.out)) k_ hk⟩));(case aO=>exact (by (with_reducible repeat (first|apply Kd.R_alloc|apply Kd.R_drewN|apply Kd.R_drew));exact HO_7.out));(case aS=>exact (below_size (by repeat (first|(with_reducible first|exact HB.out|apply below_alloc|apply pw_below_drewN|apply below_drew1)|exact HB.out))));(case aL=>have:=LMc20.out;omega);intro v158 w23 ho hb hg hat;rw [← Ny157.out] at ho;have n0_:=Aside0.mk (Kd.R_after (ok:=(fun k_=>some k_≠(.slice Ao22 t140.length co22:Value).ownBlock)) (by (with_reducible repeat (first|apply Kd.R_alloc|apply Kd.R_drewN|apply Kd.R_drew));exact HO_5.out) hg hat);have n1_:=Aside0.mk (Kd.R_after (ok:=(fun k_=>some k_≠(.slice (some ad152) t137.length co21:Value).ownBlock)) (by (with_reducible repeat (first|apply Kd.R_alloc|apply Kd.R_drewN|apply Kd.R_drew));exact HO_6.out) hg hat);have n2_:=Aside0.mk (hb);have n3_:=Aside0.mk (ho);clear HO_5;clear HO_6;clear HB;clear HO_7;have HO_5:=n0_;have HO_6:=n1_;have HB:=n2_;have HO159:=n3_;clear n0_ n1_ n2_ n3_;clear ho hb hg hat))
                    go_roundg kj6
                    case measure=>have:=HK1.out;have:=HJ6.out;omega
                    case rel=>exact ⟨(y157),((IntKind.u64.wrap (x8_1+(IntKind.u64.wrap (rd t137 x9_1))))/4294967296),(wrap64 (x9_1+1)),(by first|rfl|(simp;done)|(simp [*];done)),(by first|rfl|(simp;done)|(simp [*];done)),H',⟨by have:=HK1.out;have:=HJ6.out;omega⟩,⟨by (with_reducible repeat (first|apply Kd.R_alloc|apply Kd.R_drewN|apply Kd.R_drew));exact HO_5.out⟩,⟨by (with_reducible repeat (first|apply Kd.R_alloc|apply Kd.R_drewN|apply Kd.R_drew));exact HO_6.out⟩,⟨by (with_reducible repeat (first|apply Kd.R_alloc|apply Kd.R_drewN|apply Kd.R_drew));exact HO159.out⟩,⟨by repeat (first|(with_reducible first|exact HB.out|apply below_alloc|apply pw_below_drewN|apply below_drew1)|exact HB.out)⟩⟩
                  · rw [if_neg c20] at H
                    exact absurd H (by simp)
              · rw [if_neg c14] at H
                exact absurd H (by simp)
            · rw [if_neg c13] at H
              have c13b0:decide (x9_1<(t137.length:Int))=false:=decide_eq_false c13
              clear c13
              by_cases c24:x9_1<(t140.length:Int)
              · rw [if_pos c24] at H
                have c24b0:decide (x9_1<(t140.length:Int))=true:=decide_eq_true c24
                clear c24
                by_cases c25:0≤x9_1
                · rw [if_pos c25] at H
                  have c25b0:decide (0≤x9_1)=true:=decide_eq_true c25
                  clear c25
                  by_cases c26:x7_1.length<35184372088832
                  · rw [if_pos c26] at H
                    have LMc26:=Aside0.mk c26
                    clear c26
                    obtain ⟨y161,hy161⟩:∃ y_:List Int,y_=(x7_1++[(IntKind.u64.wrap (x8_1+(IntKind.u64.wrap (rd t140 x9_1))))%4294967296]):=⟨_,rfl⟩
                    replace H:(gimbalref90_NPlus.l0 kj6 t137 t140 y161 ((IntKind.u64.wrap (x8_1+(IntKind.u64.wrap (rd t140 x9_1))))/4294967296) (wrap64 (x9_1+1)))=some r:=by first|(rw [hy161];with_reducible exact H)|(have H2_:=(Option.bind_some _ _).symm.trans H;rw [hy161];with_reducible exact H2_)|(have H2_:=(Option.bind_some _ _).symm.trans H;with_reducible exact H2_)|with_reducible exact H|(rw [hy161];exact H)|exact H
                    have Ny161:=Aside0.mk hy161
                    clear hy161
                    have H':=Aside0.mk H
                    clear H
                    obtain ⟨Ao27,co27,eo27⟩:=Kd.R_slice HO_5.out
                    subst eo27
                    obtain ⟨Ao28,co28,eo28⟩:=Kd.R_slice HO_6.out
                    subst eo28
                    have p160:0≤(x9_1:Int):=of_decide_eq_true (by first|(with_reducible assumption)|assumption)
                    have q160:x9_1<(t140.length:Int):=of_decide_eq_true (by first|(with_reducible assumption)|assumption)
                    obtain ⟨ad160,e160,hx160_0⟩:=Kd.at_int (Kd.R_reads' HO_6.out).2.2 x9_1 p160 q160
                    cases e160
                    replace p160:=eq_true p160
                    replace q160:=eq_true q160
                    go_wp2_with (first|((with_reducible refine gate_builtin (b := .append) (xs:=#[.tmp 48,.tmp 51]) rfl ?_);(try (refine gate_guard (by rfl) ?_;dsimp only));at_builtin;refine Kd.R_append (Kd.int .u32) (w0:=w) w.heap.size rfl (.tmp 48) (.tmp 51) 100 102 (.int .u32 0) 4 rfl Try.underlying100 info102 rfl (by decide) (by omega) u7 x7_1 ((IntKind.u64.wrap (x8_1+(IntKind.u64.wrap (rd t140 x9_1))))%4294967296) [.int .u32 ((IntKind.u64.wrap (x8_1+(IntKind.u64.wrap (rd t140 x9_1))))%4294967296)] (fun k_=>some k_≠(.slice Ao27 t137.length co27:Value).ownBlock∧some k_≠(.slice (some ad160) t140.length co28:Value).ownBlock) (fun _=>False) rfl rfl ?aP (fun _ hk=>hk.elim) ?aF ?aO ?aB ?aS ?aL ?_;(case aP=>exact rfl);(case aB=>exact (by repeat (first|(with_reducible first|exact HB.out|apply below_alloc|apply pw_below_drewN|apply below_drew1)|exact HB.out)));(case aF=>exact (fun k_ hk=>⟨Kd.fresh' (Kd.R_lt (by (with_reducible repeat (first|apply Kd.R_alloc|apply Kd.R_drewN|apply Kd.R_drew));exact HO_5.out)) k_ hk,Kd.fresh' (Kd.R_lt (by (with_reducible repeat (first|apply Kd.R_alloc|apply Kd.R_drewN|apply Kd.R_drew));exact HO_6.out)) k_ hk⟩));(case aO=>exact (by (with_reducible repeat (first|apply Kd.R_alloc|apply Kd.R_drewN|apply Kd.R_drew));exact HO_7.out));(case aS=>exact (below_size (by repeat (first|(with_reducible first|exact HB.out|apply below_alloc|apply pw_below_drewN|apply below_drew1)|exact HB.out))));(case aL=>have:=LMc26.out;omega);intro v162 w29 ho hb hg hat;rw [← Ny161.out] at ho;have n0_:=Aside0.mk (Kd.R_after (ok:=(fun k_=>some k_≠(.slice (some ad160) t140.length co28:Value).ownBlock)) (by (with_reducible repeat (first|apply Kd.R_alloc|apply Kd.R_drewN|apply Kd.R_drew));exact HO_5.out) hg hat);have n1_:=Aside0.mk (Kd.R_after (ok:=(fun k_=>some k_≠(.slice Ao27 t137.length co27:Value).ownBlock)) (by (with_reducible repeat (first|apply Kd.R_alloc|apply Kd.R_drewN|apply Kd.R_drew));exact HO_6.out) hg hat);have n2_:=Aside0.mk (hb);have n3_:=Aside0.mk (ho);clear HO_5;clear HO_6;clear HB;clear HO_7;have HO_5:=n0_;have HO_6:=n1_;have HB:=n2_;have HO163:=n3_;clear n0_ n1_ n2_ n3_;clear ho hb hg hat))
                    go_roundg kj6
                    case measure=>have:=HK1.out;have:=HJ6.out;omega
                    case rel=>exact ⟨(y161),((IntKind.u64.wrap (x8_1+(IntKind.u64.wrap (rd t140 x9_1))))/4294967296),(wrap64 (x9_1+1)),(by first|rfl|(simp;done)|(simp [*];done)),(by first|rfl|(simp;done)|(simp [*];done)),H',⟨by have:=HK1.out;have:=HJ6.out;omega⟩,⟨by (with_reducible repeat (first|apply Kd.R_alloc|apply Kd.R_drewN|apply Kd.R_drew));exact HO_5.out⟩,⟨by (with_reducible repeat (first|apply Kd.R_alloc|apply Kd.R_drewN|apply Kd.R_drew));exact HO_6.out⟩,⟨by (with_reducible repeat (first|apply Kd.R_alloc|apply Kd.R_drewN|apply Kd.R_drew));exact HO163.out⟩,⟨by repeat (first|(with_reducible first|exact HB.out|apply below_alloc|apply pw_below_drewN|apply below_drew1)|exact HB.out)⟩⟩
                  · rw [if_neg c26] at H
                    exact absurd H (by simp)
                · rw [if_neg c25] at H
                  exact absurd H (by simp)
              · rw [if_neg c24] at H
                have c24b0:decide (x9_1<(t140.length:Int))=false:=decide_eq_false c24
                clear c24
                by_cases c30:x7_1.length<35184372088832
                · rw [if_pos c30] at H
                  have LMc30:=Aside0.mk c30
                  clear c30
                  obtain ⟨y164,hy164⟩:∃ y_:List Int,y_=(x7_1++[(x8_1)%4294967296]):=⟨_,rfl⟩
                  replace H:(gimbalref90_NPlus.l0 kj6 t137 t140 y164 (x8_1/4294967296) (wrap64 (x9_1+1)))=some r:=by first|(rw [hy164];with_reducible exact H)|(have H2_:=(Option.bind_some _ _).symm.trans H;rw [hy164];with_reducible exact H2_)|(have H2_:=(Option.bind_some _ _).symm.trans H;with_reducible exact H2_)|with_reducible exact H|(rw [hy164];exact H)|exact H
                  have Ny164:=Aside0.mk hy164
                  clear hy164
                  have H':=Aside0.mk H
                  clear H
                  obtain ⟨Ao31,co31,eo31⟩:=Kd.R_slice HO_5.out
                  subst eo31
                  obtain ⟨Ao32,co32,eo32⟩:=Kd.R_slice HO_6.out
                  subst eo32
                  go_wp2_with (first|((with_reducible refine gate_builtin (b := .append) (xs:=#[.tmp 48,.tmp 51]) rfl ?_);(try (refine gate_guard (by rfl) ?_;dsimp only));at_builtin;refine Kd.R_append (Kd.int .u32) (w0:=w) w.heap.size rfl (.tmp 48) (.tmp 51) 100 102 (.int .u32 0) 4 rfl Try.underlying100 info102 rfl (by decide) (by omega) u7 x7_1 ((x8_1)%4294967296) [.int .u32 ((x8_1)%4294967296)] (fun k_=>some k_≠(.slice Ao31 t137.length co31:Value).ownBlock∧some k_≠(.slice Ao32 t140.length co32:Value).ownBlock) (fun _=>False) rfl rfl ?aP (fun _ hk=>hk.elim) ?aF ?aO ?aB ?aS ?aL ?_;(case aP=>exact rfl);(case aB=>exact (by repeat (first|(with_reducible first|exact HB.out|apply below_alloc|apply pw_below_drewN|apply below_drew1)|exact HB.out)));(case aF=>exact (fun k_ hk=>⟨Kd.fresh' (Kd.R_lt (by (with_reducible repeat (first|apply Kd.R_alloc|apply Kd.R_drewN|apply Kd.R_drew));exact HO_5.out)) k_ hk,Kd.fresh' (Kd.R_lt (by (with_reducible repeat (first|apply Kd.R_alloc|apply Kd.R_drewN|apply Kd.R_drew));exact HO_6.out)) k_ hk⟩));(case aO=>exact (by (with_reducible repeat (first|apply Kd.R_alloc|apply Kd.R_drewN|apply Kd.R_drew));exact HO_7.out));(case aS=>exact (below_size (by repeat (first|(with_reducible first|exact HB.out|apply below_alloc|apply pw_below_drewN|apply below_drew1)|exact HB.out))));(case aL=>have:=LMc30.out;omega);intro v165 w33 ho hb hg hat;rw [← Ny164.out] at ho;have n0_:=Aside0.mk (Kd.R_after (ok:=(fun k_=>some k_≠(.slice Ao32 t140.length co32:Value).ownBlock)) (by (with_reducible repeat (first|apply Kd.R_alloc|apply Kd.R_drewN|apply Kd.R_drew));exact HO_5.out) hg hat);have n1_:=Aside0.mk (Kd.R_after (ok:=(fun k_=>some k_≠(.slice Ao31 t137.length co31:Value).ownBlock)) (by (with_reducible repeat (first|apply Kd.R_alloc|apply Kd.R_drewN|apply Kd.R_drew));exact HO_6.out) hg hat);have n2_:=Aside0.mk (hb);have n3_:=Aside0.mk (ho);clear HO_5;clear HO_6;clear HB;clear HO_7;have HO_5:=n0_;have HO_6:=n1_;have HB:=n2_;have HO166:=n3_;clear n0_ n1_ n2_ n3_;clear ho hb hg hat))
                  go_roundg kj6
                  case measure=>have:=HK1.out;have:=HJ6.out;omega
                  case rel=>exact ⟨(y164),(x8_1/4294967296),(wrap64 (x9_1+1)),(by first|rfl|(simp;done)|(simp [*];done)),(by first|rfl|(simp;done)|(simp [*];done)),H',⟨by have:=HK1.out;have:=HJ6.out;omega⟩,⟨by (with_reducible repeat (first|apply Kd.R_alloc|apply Kd.R_drewN|apply Kd.R_drew));exact HO_5.out⟩,⟨by (with_reducible repeat (first|apply Kd.R_alloc|apply Kd.R_drewN|apply Kd.R_drew));exact HO_6.out⟩,⟨by (with_reducible repeat (first|apply Kd.R_alloc|apply Kd.R_drewN|apply Kd.R_drew));exact HO166.out⟩,⟨by repeat (first|(with_reducible first|exact HB.out|apply below_alloc|apply pw_below_drewN|apply below_drew1)|exact HB.out)⟩⟩
                · rw [if_neg c30] at H
                  exact absurd H (by simp)
          · replace c12:=Bool.eq_false_iff.mpr c12
            subst c12
            have H1:(if x7_1.length<35184372088832 then ((gimbalref90_cut.f kj6 (x7_1++[(x8_1)%4294967296])).bind fun t146=>((gimbalref90_whole.f kj6 t146).bind fun t149=>(some t149))) else (none))=some r:=by rw [if_neg (show ¬ (false=true) by decide)] at H;exact H
            clear H
            have H:=H1
            clear H1
            by_cases c34:x7_1.length<35184372088832
            · rw [if_pos c34] at H
              have LMc34:=Aside0.mk c34
              clear c34
              obtain ⟨y143,hy143⟩:∃ y_:List Int,y_=(x7_1++[(x8_1)%4294967296]):=⟨_,rfl⟩
              replace H:((gimbalref90_cut.f kj6 y143).bind fun t146=>((gimbalref90_whole.f kj6 t146).bind fun t149=>(some t149)))=some r:=by first|(rw [hy143];with_reducible exact H)|(have H2_:=(Option.bind_some _ _).symm.trans H;rw [hy143];with_reducible exact H2_)|(have H2_:=(Option.bind_some _ _).symm.trans H;with_reducible exact H2_)|with_reducible exact H|(rw [hy143];exact H)|exact H
              have Ny143:=Aside0.mk hy143
              clear hy143
              replace H:=Option.bind_eq_some_iff.mp H
              obtain ⟨t146,A350,H⟩:=H
              replace H:((gimbalref90_whole.f kj6 t146).bind fun t149=>(some t149))=some r:=H
              have A35:=Aside0.mk A350
              clear A350
              replace H:=Option.bind_eq_some_iff.mp H
              obtain ⟨t149,A360,H⟩:=H
              replace H:(some t149)=some r:=H
              have A36:=Aside0.mk A360
              clear A360
              obtain rfl:=Option.some.inj H
              go_wp2_with (first|((with_reducible refine gate_builtin (b := .append) (xs:=#[.tmp 55,.tmp 58]) rfl ?_);(try (refine gate_guard (by rfl) ?_;dsimp only));at_builtin;refine Kd.R_append (Kd.int .u32) (w0:=w) w.heap.size rfl (.tmp 55) (.tmp 58) 100 102 (.int .u32 0) 4 rfl Try.underlying100 info102 rfl (by decide) (by omega) u7 x7_1 ((x8_1)%4294967296) [.int .u32 ((x8_1)%4294967296)] (fun k_=>some k_≠(v138:Value).ownBlock∧some k_≠(v141:Value).ownBlock) (fun _=>False) rfl rfl ?aP (fun _ hk=>hk.elim) ?aF ?aO ?aB ?aS ?aL ?_;(case aP=>exact rfl);(case aB=>exact (by repeat (first|(with_reducible first|exact HB.out|apply below_alloc|apply pw_below_drewN|apply below_drew1)|exact HB.out)));(case aF=>exact (fun k_ hk=>⟨Kd.fresh' (Kd.R_lt (by (with_reducible repeat (first|apply Kd.R_alloc|apply Kd.R_drewN|apply Kd.R_drew));exact HO_5.out)) k_ hk,Kd.fresh' (Kd.R_lt (by (with_reducible repeat (first|apply Kd.R_alloc|apply Kd.R_drewN|apply Kd.R_drew));exact HO_6.out)) k_ hk⟩));(case aO=>exact (by (with_reducible repeat (first|apply Kd.R_alloc|apply Kd.R_drewN|apply Kd.R_drew));exact HO_7.out));(case aS=>exact (below_size (by repeat (first|(with_reducible first|exact HB.out|apply below_alloc|apply pw_below_drewN|apply below_drew1)|exact HB.out))));(case aL=>have:=LMc34.out;omega);intro v144 w37 ho hb hg hat;rw [← Ny143.out] at ho;have n0_:=Aside0.mk (Kd.R_after (ok:=(fun k_=>some k_≠(v141:Value).ownBlock)) (by (with_reducible repeat (first|apply Kd.R_alloc|apply Kd.R_drewN|apply Kd.R_drew));exact HO_5.out) hg hat);have n1_:=Aside0.mk (Kd.R_after (ok:=(fun k_=>some k_≠(v138:Value).ownBlock)) (by (with_reducible repeat (first|apply Kd.R_alloc|apply Kd.R_drewN|apply Kd.R_drew));exact HO_6.out) hg hat);have n2_:=Aside0.mk (hb);have n3_:=Aside0.mk (ho);clear HO_5;clear HO_6;clear HB;clear HO_7;have HO_5:=n0_;have HO_6:=n1_;have HB:=n2_;have HO145:=n3_;clear n0_ n1_ n2_ n3_;clear ho hb hg hat;obtain ⟨Ao38,co38,eo38⟩:=Kd.R_slice HO145.out;subst eo38)|((with_reducible refine gate_callee (f:=103) rfl ?_);refine goesL_ (some 60) rfl rfl Try.func103 (by kernel_rfl) rfl #[.slice Ao38 y143.length co38] rfl (by (try simp only [List.map_toArray,List.map_cons,List.map_nil]);first|done|rfl|(simp only [List.length_drop,List.length_take];rfl)) ?_;(with_reducible refine (gimbalref90_cut.calls kj6 (fun k_=>some k_=(.slice Ao38 y143.length co38:Value).ownBlock) (.slice Ao38 y143.length co38) y143 t146 w _ ?side1 ?side2 A35.out).mono ?_);(case side1=>repeat (first|(with_reducible first|exact HB.out|apply below_alloc|apply pw_below_drewN|apply below_drew1)|exact HB.out));(case side2=>exact Kd.R_tight rfl HO145.out);rintro e w39 ⟨v147,rfl,ho0,hb,hkp⟩;refine ⟨_,rfl,?_⟩;have n0_:=Aside0.mk (Kd.R_mono (ok':=fun k_=>some k_≠(v141:Value).ownBlock∧some k_≠(v147:Value).ownBlock) (Kd.R_keptB (HO_5.out) hkp (fun k_ hk_ hs_=>(hk_.2) hs_)) (fun k_ hk_=>⟨hk_.1.1,fun e_=>Or.elim (ho0.1 k_ e_.symm) (fun hs_=>hk_.2.1 hs_) (fun hn_=>Nat.not_le.2 hk_.2.2 hn_)⟩));have n1_:=Aside0.mk (Kd.R_mono (ok':=fun k_=>some k_≠(v138:Value).ownBlock∧some k_≠(v147:Value).ownBlock) (Kd.R_keptB (HO_6.out) hkp (fun k_ hk_ hs_=>(hk_.2) hs_)) (fun k_ hk_=>⟨hk_.1.1,fun e_=>Or.elim (ho0.1 k_ e_.symm) (fun hs_=>hk_.2.1 hs_) (fun hn_=>Nat.not_le.2 hk_.2.2 hn_)⟩));have n2_:=Aside0.mk (Kd.R_mono (ok':=fun k_=>some k_≠(v138:Value).ownBlock∧some k_≠(v141:Value).ownBlock) ho0 (fun k_ hk_=>⟨Or.elim hk_ (fun hs_=>fun e_=>(((HO_5.out).1 k_ e_.symm).2) hs_) (fun hn_=>(Kd.fresh' (Kd.R_lt (by (with_reducible repeat (first|apply Kd.R_alloc|apply Kd.R_drewN|apply Kd.R_drew));exact HO_5.out)) k_ hn_)),Or.elim hk_ (fun hs_=>fun e_=>(((HO_6.out).1 k_ e_.symm).2) hs_) (fun hn_=>(Kd.fresh' (Kd.R_lt (by (with_reducible repeat (first|apply Kd.R_alloc|apply Kd.R_drewN|apply Kd.R_drew));exact HO_6.out)) k_ hn_))⟩));have n3_:=Aside0.mk (hb);clear HO_5;clear HO_6;clear HB;clear HO145;have HO_5:=n0_;have HO_6:=n1_;have HO148:=n2_;have HB:=n3_;clear n0_ n1_ n2_ n3_;(try clear hb);(try clear hkp);(try clear ho0);obtain ⟨Ao40,co40,eo40⟩:=Kd.R_slice HO148.out;subst eo40)|((with_reducible refine gate_callee (f:=102) rfl ?_);refine goesL_ (some 61) rfl rfl Try.func102 (by kernel_rfl) rfl #[.slice Ao40 t146.length co40] rfl (by (try simp only [List.map_toArray,List.map_cons,List.map_nil]);first|done|rfl|(simp only [List.length_drop,List.length_take];rfl)) ?_;(with_reducible refine (gimbalref90_whole.calls kj6 _ _ t146 t149 _ ?side1 ?side2 A36.out).mono ?_);(case side1=>repeat (first|exact (Kd.R_reads' HO148.out).2.2|(with_reducible refine Kd.C_alloc ?_ _)|(with_reducible refine Kd.C_drewN ?_ _)|(with_reducible refine Kd.C_drew ?_)));(case side2=>exact (Kd.R_reads' HO148.out).2.1);rintro e w41 ⟨v150,rfl,ho0,hb⟩;refine ⟨_,rfl,?_⟩;have n0_:=Aside0.mk (Kd.R_below (by (with_reducible repeat (first|apply Kd.R_alloc|apply Kd.R_drewN|apply Kd.R_drew));exact HO_5.out) hb);have n1_:=Aside0.mk (Kd.R_below (by (with_reducible repeat (first|apply Kd.R_alloc|apply Kd.R_drewN|apply Kd.R_drew));exact HO_6.out) hb);have n2_:=Aside0.mk (Kd.R_below (by (with_reducible repeat (first|apply Kd.R_alloc|apply Kd.R_drewN|apply Kd.R_drew));exact HO148.out) hb);have n3_:=Aside0.mk (Kd.R_lower ho0 (below_size (by repeat (first|(with_reducible first|exact HB.out|apply below_alloc|apply pw_below_drewN|apply below_drew1)|exact HB.out))));have n4_:=Aside0.mk (below_step (by repeat (first|(with_reducible first|exact HB.out|apply below_alloc|apply pw_below_drewN|apply below_drew1)|exact HB.out)) hb);clear HO_5;clear HO_6;clear HO148;clear HB;have HO_5:=n0_;have HO_6:=n1_;have HO148:=n2_;have HO151:=n3_;have HB:=n4_;clear n0_ n1_ n2_ n3_ n4_;(try clear hb);(try clear hb2);(try clear hk);(try clear hi);(try clear ho0)))
              go_ret
              exact ⟨_,by first|rfl|(simp [errW_none,errW_some]<;>rfl)|(simp [*,errW_none,errW_some]<;>rfl),by (with_reducible repeat (first|apply Kd.R_alloc|apply Kd.R_drewN|apply Kd.R_drew));exact HO151.out,by repeat (first|(with_reducible first|exact HB.out|apply below_alloc|apply pw_below_drewN|apply below_drew1)|exact HB.out)⟩
            · rw [if_neg c34] at H
              exact absurd H (by simp)
end Go.Proofs.Ythokdnheijnmmaa.QN90
end
section
namespace Go.Proofs.Ythokdnheijnmmaa.QN90
open Go.RowKit Go.Proofs.YthokdnheijnmmaaW.PrintWords Go.Proofs.YthokdnheijnmmaaW.PrintLast Go.Proofs.YthokdnheijnmmaaW.PrintMore
attribute [local go_sem] max2_int min2_int max_two min_two max_three min_three max_four min_four   -- for this text's walks alone
set_option linter.unusedVariables false
set_option linter.unusedSimpArgs false
def gimbalref90_NLess.l0:Nat→List Int→List Int→List Int→Int→Int→Option (List Int)
  | 0,_,_,_,_,_=>none
  | k+1,x5,x6,x7,x8,x9=>if x9<(x5.length:Int) then (if 0≤x9 then (if x9<(x6.length:Int) then (if x7.length<35184372088832 then (gimbalref90_NLess.l0 k x5 x6 (x7++[(IntKind.u64.wrap (wrap64 ((wrap64 (x8+(wrap64 (rd x5 x9))))-(wrap64 (rd x6 x9)))))%4294967296]) ((wrap64 ((wrap64 (x8+(wrap64 (rd x5 x9))))-(wrap64 (rd x6 x9))))/4294967296) (wrap64 (x9+1))) else (none)) else (if x7.length<35184372088832 then (gimbalref90_NLess.l0 k x5 x6 (x7++[(IntKind.u64.wrap (wrap64 (x8+(wrap64 (rd x5 x9)))))%4294967296]) ((wrap64 (x8+(wrap64 (rd x5 x9))))/4294967296) (wrap64 (x9+1))) else (none))) else (none)) else ((gimbalref90_cut.f k x7).bind fun t181=>((gimbalref90_whole.f k t181).bind fun t184=>(some t184)))
def gimbalref90_NLess.f (k:Nat) (l0:List Int) (l1:List Int):Option (List Int):=(gimbalref90_halves.f k l0).bind fun t167=>((gimbalref90_halves.f k l1).bind fun t170=>(gimbalref90_NLess.l0 k t167 t170 ([]:List Int) 0 0))
set_option maxHeartbeats 8000000 in
set_option maxRecDepth 100000 in
theorem gimbalref90_NLess.calls (k:Nat) (A0:Option Addr) (c0:Nat) (l0:List Int) (A1:Option Addr) (c1:Nat) (l1:List Int) (r:List Int) (w:World) (hr0:Kd.C (Kd.int .u64) w A0 l0.length l0) (hc0:l0.length≤c0) (hr1:Kd.C (Kd.int .u64) w A1 l1.length l1) (hc1:l1.length≤c1) (h:gimbalref90_NLess.f k l0 l1=some r) :
    Calls Try.prog 70 #[.slice A0 l0.length c0,.slice A1 l1.length c1] w fun e w'=>∃ v0_:Value,e = .returned (v0_)∧Kd.R (Kd.int .u64) 76 w' w.heap.size (fun _=>True) v0_ r∧Below w.heap.size w w':=by
  have HR0:=Aside0.mk hr0
  have HC0:=Aside0.mk hc0
  clear hr0 hc0
  have HR1:=Aside0.mk hr1
  have HC1:=Aside0.mk hc1
  clear hr1 hc1
  have HB:=Aside0.mk (Below.refl w.heap.size w)
  have H:((gimbalref90_halves.f k l0).bind fun t167=>((gimbalref90_halves.f k l1).bind fun t170=>(gimbalref90_NLess.l0 k t167 t170 ([]:List Int) 0 0)))=some r:=h
  clear h
  replace H:=Option.bind_eq_some_iff.mp H
  obtain ⟨t167,A30,H⟩:=H
  replace H:((gimbalref90_halves.f k l1).bind fun t170=>(gimbalref90_NLess.l0 k t167 t170 ([]:List Int) 0 0))=some r:=H
  have A3:=Aside0.mk A30
  clear A30
  replace H:=Option.bind_eq_some_iff.mp H
  obtain ⟨t170,A40,H⟩:=H
  replace H:(gimbalref90_NLess.l0 k t167 t170 ([]:List Int) 0 0)=some r:=H
  have A4:=Aside0.mk A40
  clear A40
  have H':=Aside0.mk H
  clear H
  go_enter Try.func70,Try.ntmps70
  go_wp2_with (first|((with_reducible refine gate_callee (f:=101) rfl ?_);refine goesL_ (some 11) rfl rfl Try.func101 (by kernel_rfl) rfl #[.slice A0 l0.length c0] rfl (by (try simp only [List.map_toArray,List.map_cons,List.map_nil]);first|done|rfl|(simp only [List.length_drop,List.length_take];rfl)) ?_;(with_reducible refine (gimbalref90_halves.calls k _ _ l0 t167 _ ?side1 ?side2 A3.out).mono ?_);(case side1=>repeat (first|exact HR0.out|(with_reducible refine Kd.C_alloc ?_ _)|(with_reducible refine Kd.C_drewN ?_ _)|(with_reducible refine Kd.C_drew ?_)));(case side2=>exact HC0.out);rintro e w5 ⟨v168,rfl,ho0,hb⟩;refine ⟨_,rfl,?_⟩;have n0_:=Aside0.mk (Kd.R_lower ho0 (below_size (by repeat (first|(with_reducible first|exact HB.out|apply below_alloc|apply pw_below_drewN|apply below_drew1)|exact HB.out))));have n1_:=Aside0.mk (below_step (by repeat (first|(with_reducible first|exact HB.out|apply below_alloc|apply pw_below_drewN|apply below_drew1)|exact HB.out)) hb);clear HB;have HO169:=n0_;have HB:=n1_;clear n0_ n1_;(try clear hb);(try clear hb2);(try clear hk);(try clear hi);(try clear ho0))|((with_reducible refine gate_callee (f:=101) rfl ?_);refine goesL_ (some 13) rfl rfl Try.func101 (by kernel_rfl) rfl #[.slice A1 l1.length c1] rfl (by (try simp only [List.map_toArray,List.map_cons,List.map_nil]);first|done|rfl|(simp only [List.length_drop,List.length_take];rfl)) ?_;(with_reducible refine (gimbalref90_halves.calls k _ _ l1 t170 _ ?side1 ?side2 A4.out).mono ?_);(case side1=>repeat (first|exact (Kd.C_below HR1.out HB.out)|(with_reducible refine Kd.C_alloc ?_ _)|(with_reducible refine Kd.C_drewN ?_ _)|(with_reducible refine Kd.C_drew ?_)));(case side2=>exact HC1.out);rintro e w6 ⟨v171,rfl,ho0,hb⟩;refine ⟨_,rfl,?_⟩;have n0_:=Aside0.mk (Kd.R_elder' (by (with_reducible repeat (first|apply Kd.R_alloc|apply Kd.R_drewN|apply Kd.R_drew));exact HO169.out) (Kd.R_base ho0) hb);have n1_:=Aside0.mk (Kd.R_lower (Kd.R_new' ho0 (Kd.R_lt (by (with_reducible repeat (first|apply Kd.R_alloc|apply Kd.R_drewN|apply Kd.R_drew));exact HO169.out))) (below_size (by repeat (first|(with_reducible first|exact HB.out|apply below_alloc|apply pw_below_drewN|apply below_drew1)|exact HB.out))));have n2_:=Aside0.mk (below_step (by repeat (first|(with_reducible first|exact HB.out|apply below_alloc|apply pw_below_drewN|apply below_drew1)|exact HB.out)) hb);clear HO169;clear HB;have HO169:=n0_;have HO172:=n1_;have HB:=n2_;clear n0_ n1_ n2_;(try clear hb);(try clear hb2);(try clear hk);(try clear hi);(try clear ho0)))
  go_loopg [7,8,9] k (fun kq v7 v8 v9 w'=>∃ (x7_1:List Int) (x8_1:Int) (x9_1:Int),v8 = .int .i64 x8_1∧v9 = .int .i64 x9_1∧Aside0 (gimbalref90_NLess.l0 kq t167 t170 x7_1 x8_1 x9_1=some r)∧Aside0 (kq≤k)∧Aside0 (Kd.R (Kd.int .u32) 102 w' w.heap.size (fun k_=>some k_≠(v171:Value).ownBlock∧some k_≠(v7:Value).ownBlock) v168 t167)∧Aside0 (Kd.R (Kd.int .u32) 102 w' w.heap.size (fun k_=>some k_≠(v168:Value).ownBlock∧some k_≠(v7:Value).ownBlock) v171 t170)∧Aside0 (Kd.R (Kd.int .u32) 102 w' w.heap.size (fun k_=>some k_≠(v168:Value).ownBlock∧some k_≠(v171:Value).ownBlock) v7 x7_1)∧Aside0 (Below w.heap.size w w'))
  case atStart=>exact ⟨(([]:List Int)),(0),(0),(by first|rfl|(simp;done)|(simp [*];done)),(by first|rfl|(simp;done)|(simp [*];done)),H',⟨Nat.le_refl _⟩,⟨by (with_reducible repeat (first|apply Kd.R_alloc|apply Kd.R_drewN|apply Kd.R_drew));exact Kd.R_mono HO169.out (fun _ hk=>⟨hk.2,(by simp [Value.ownBlock])⟩)⟩,⟨by (with_reducible repeat (first|apply Kd.R_alloc|apply Kd.R_drewN|apply Kd.R_drew));exact Kd.R_mono HO172.out (fun _ hk=>⟨hk.2,(by simp [Value.ownBlock])⟩)⟩,⟨by first|exact Kd.R_nil _ _ _ _ _|exact Kd.N_nil _ _ _ _ _|exact Kd.V_nil _ _ _ _ _|exact Kd.Q_nil _ _ _ _ _|exact Kd.S_nil _ _ _ _ _⟩,⟨by repeat (first|(with_reducible first|exact HB.out|apply below_alloc|apply pw_below_drewN|apply below_drew1)|exact HB.out)⟩⟩
  case round =>
    clear H'
    try clear c1
    try clear p2
    obtain ⟨x7_1,x8_1,x9_1,rfl,rfl,HA,HK1,HO_5,HO_6,HO_7,HB⟩:=hrel
    cases gk with
    | zero=>exact absurd HA.out (by simp [gimbalref90_NLess.l0])
    | succ k1 =>
      have H:=HA.out
      clear HA
      simp only [gimbalref90_NLess.l0] at H
      by_cases c7:x9_1<(t167.length:Int)
      · rw [if_pos c7] at H
        have c7b0:decide (x9_1<(t167.length:Int))=true:=decide_eq_true c7
        clear c7
        by_cases c8:0≤x9_1
        · rw [if_pos c8] at H
          have c8b0:decide (0≤x9_1)=true:=decide_eq_true c8
          clear c8
          by_cases c9:x9_1<(t170.length:Int)
          · rw [if_pos c9] at H
            have c9b0:decide (x9_1<(t170.length:Int))=true:=decide_eq_true c9
            clear c9
            by_cases c10:x7_1.length<35184372088832
            · rw [if_pos c10] at H
              have LMc10:=Aside0.mk c10
              clear c10
              obtain ⟨y175,hy175⟩:∃ y_:List Int,y_=(x7_1++[(IntKind.u64.wrap (wrap64 ((wrap64 (x8_1+(wrap64 (rd t167 x9_1))))-(wrap64 (rd t170 x9_1)))))%4294967296]):=⟨_,rfl⟩
              replace H:(gimbalref90_NLess.l0 k1 t167 t170 y175 ((wrap64 ((wrap64 (x8_1+(wrap64 (rd t167 x9_1))))-(wrap64 (rd t170 x9_1))))/4294967296) (wrap64 (x9_1+1)))=some r:=by first|(rw [hy175];with_reducible exact H)|(have H2_:=(Option.bind_some _ _).symm.trans H;rw [hy175];with_reducible exact H2_)|(have H2_:=(Option.bind_some _ _).symm.trans H;with_reducible exact H2_)|with_reducible exact H|(rw [hy175];exact H)|exact H
              have Ny175:=Aside0.mk hy175
              clear hy175
              have H':=Aside0.mk H
              clear H
              obtain ⟨Ao11,co11,eo11⟩:=Kd.R_slice HO_5.out
              subst eo11
              have p173:0≤(x9_1:Int):=of_decide_eq_true (by first|(with_reducible assumption)|assumption)
              have q173:x9_1<(t167.length:Int):=of_decide_eq_true (by first|(with_reducible assumption)|assumption)
              obtain ⟨ad173,e173,hx173_0⟩:=Kd.at_int (Kd.R_reads' HO_5.out).2.2 x9_1 p173 q173
              cases e173
              replace p173:=eq_true p173
              replace q173:=eq_true q173
              obtain ⟨Ao12,co12,eo12⟩:=Kd.R_slice HO_6.out
              subst eo12
              have p174:0≤(x9_1:Int):=of_decide_eq_true (by first|(with_reducible assumption)|assumption)
              have q174:x9_1<(t170.length:Int):=of_decide_eq_true (by first|(with_reducible assumption)|assumption)
              obtain ⟨ad174,e174,hx174_0⟩:=Kd.at_int (Kd.R_reads' HO_6.out).2.2 x9_1 p174 q174
              cases e174
              replace p174:=eq_true p174
              replace q174:=eq_true q174
              go_wp2_with (first|((with_reducible refine gate_builtin (b := .append) (xs:=#[.tmp 38,.tmp 42]) rfl ?_);at_builtin;refine Kd.R_append (Kd.int .u32) (w0:=w) w.heap.size rfl (.tmp 38) (.tmp 42) 100 102 (.int .u32 0) 4 rfl Try.underlying100 info102 rfl (by decide) (by omega) u7 x7_1 ((IntKind.u64.wrap (wrap64 ((wrap64 (x8_1+(wrap64 (rd t167 x9_1))))-(wrap64 (rd t170 x9_1)))))%4294967296) [.int .u32 ((IntKind.u64.wrap (wrap64 ((wrap64 (x8_1+(wrap64 (rd t167 x9_1))))-(wrap64 (rd t170 x9_1)))))%4294967296)] (fun k_=>some k_≠(.slice (some ad173) t167.length co11:Value).ownBlock∧some k_≠(.slice (some ad174) t170.length co12:Value).ownBlock) (fun _=>False) rfl rfl ?aP (fun _ hk=>hk.elim) ?aF ?aO ?aB ?aS ?aL ?_;(case aP=>exact rfl);(case aB=>exact (by repeat (first|(with_reducible first|exact HB.out|apply below_alloc|apply pw_below_drewN|apply below_drew1)|exact HB.out)));(case aF=>exact (fun k_ hk=>⟨Kd.fresh' (Kd.R_lt (by (with_reducible repeat (first|apply Kd.R_alloc|apply Kd.R_drewN|apply Kd.R_drew));exact HO_5.out)) k_ hk,Kd.fresh' (Kd.R_lt (by (with_reducible repeat (first|apply Kd.R_alloc|apply Kd.R_drewN|apply Kd.R_drew));exact HO_6.out)) k_ hk⟩));(case aO=>exact (by (with_reducible repeat (first|apply Kd.R_alloc|apply Kd.R_drewN|apply Kd.R_drew));exact HO_7.out));(case aS=>exact (below_size (by repeat (first|(with_reducible first|exact HB.out|apply below_alloc|apply pw_below_drewN|apply below_drew1)|exact HB.out))));(case aL=>have:=LMc10.out;omega);intro v176 w13 ho hb hg hat;rw [← Ny175.out] at ho;have n0_:=Aside0.mk (Kd.R_after (ok:=(fun k_=>some k_≠(.slice (some ad174) t170.length co12:Value).ownBlock)) (by (with_reducible repeat (first|apply Kd.R_alloc|apply Kd.R_drewN|apply Kd.R_drew));exact HO_5.out) hg hat);have n1_:=Aside0.mk (Kd.R_after (ok:=(fun k_=>some k_≠(.slice (some ad173) t167.length co11:Value).ownBlock)) (by (with_reducible repeat (first|apply Kd.R_alloc|apply Kd.R_drewN|apply Kd.R_drew));exact HO_6.out) hg hat);have n2_:=Aside0.mk (hb);have n3_:=Aside0.mk (ho);clear HO_5;clear HO_6;clear HB;clear HO_7;have HO_5:=n0_;have HO_6:=n1_;have HB:=n2_;have HO177:=n3_;clear n0_ n1_ n2_ n3_;clear ho hb hg hat))
              go_roundg k1
              case measure=>have:=HK1.out;omega
              case rel=>exact ⟨(y175),((wrap64 ((wrap64 (x8_1+(wrap64 (rd t167 x9_1))))-(wrap64 (rd t170 x9_1))))/4294967296),(wrap64 (x9_1+1)),(by first|rfl|(simp;done)|(simp [*];done)),(by first|rfl|(simp;done)|(simp [*];done)),H',⟨by have:=HK1.out;omega⟩,⟨by (with_reducible repeat (first|apply Kd.R_alloc|apply Kd.R_drewN|apply Kd.R_drew));exact HO_5.out⟩,⟨by (with_reducible repeat (first|apply Kd.R_alloc|apply Kd.R_drewN|apply Kd.R_drew));exact HO_6.out⟩,⟨by (with_reducible repeat (first|apply Kd.R_alloc|apply Kd.R_drewN|apply Kd.R_drew));exact HO177.out⟩,⟨by repeat (first|(with_reducible first|exact HB.out|apply below_alloc|apply pw_below_drewN|apply below_drew1)|exact HB.out)⟩⟩
            · rw [if_neg c10] at H
              exact absurd H (by simp)
          · rw [if_neg c9] at H
            have c9b0:decide (x9_1<(t170.length:Int))=false:=decide_eq_false c9
            clear c9
            by_cases c14:x7_1.length<35184372088832
            · rw [if_pos c14] at H
              have LMc14:=Aside0.mk c14
              clear c14
              obtain ⟨y178,hy178⟩:∃ y_:List Int,y_=(x7_1++[(IntKind.u64.wrap (wrap64 (x8_1+(wrap64 (rd t167 x9_1)))))%4294967296]):=⟨_,rfl⟩
              replace H:(gimbalref90_NLess.l0 k1 t167 t170 y178 ((wrap64 (x8_1+(wrap64 (rd t167 x9_1))))/4294967296) (wrap64 (x9_1+1)))=some r:=by first|(rw [hy178];with_reducible exact H)|(have H2_:=(Option.bind_some _ _).symm.trans H;rw [hy178];with_reducible exact H2_)|(have H2_:=(Option.bind_some _ _).symm.trans H;with_reducible exact H2_)|with_reducible exact H|(rw [hy178];exact H)|exact H
              have Ny178:=Aside0.mk hy178
              clear hy178
              have H':=Aside0.mk H
              clear H
              obtain ⟨Ao15,co15,eo15⟩:=Kd.R_slice HO_5.out
              subst eo15
              have p173:0≤(x9_1:Int):=of_decide_eq_true (by first|(with_reducible assumption)|assumption)
              have q173:x9_1<(t167.length:Int):=of_decide_eq_true (by first|(with_reducible assumption)|assumption)
              obtain ⟨ad173,e173,hx173_0⟩:=Kd.at_int (Kd.R_reads' HO_5.out).2.2 x9_1 p173 q173
              cases e173
              replace p173:=eq_true p173
              replace q173:=eq_true q173
              obtain ⟨Ao16,co16,eo16⟩:=Kd.R_slice HO_6.out
              subst eo16
              go_wp2_with (first|((with_reducible refine gate_builtin (b := .append) (xs:=#[.tmp 38,.tmp 42]) rfl ?_);at_builtin;refine Kd.R_append (Kd.int .u32) (w0:=w) w.heap.size rfl (.tmp 38) (.tmp 42) 100 102 (.int .u32 0) 4 rfl Try.underlying100 info102 rfl (by decide) (by omega) u7 x7_1 ((IntKind.u64.wrap (wrap64 (x8_1+(wrap64 (rd t167 x9_1)))))%4294967296) [.int .u32 ((IntKind.u64.wrap (wrap64 (x8_1+(wrap64 (rd t167 x9_1)))))%4294967296)] (fun k_=>some k_≠(.slice (some ad173) t167.length co15:Value).ownBlock∧some k_≠(.slice Ao16 t170.length co16:Value).ownBlock) (fun _=>False) rfl rfl ?aP (fun _ hk=>hk.elim) ?aF ?aO ?aB ?aS ?aL ?_;(case aP=>exact rfl);(case aB=>exact (by repeat (first|(with_reducible first|exact HB.out|apply below_alloc|apply pw_below_drewN|apply below_drew1)|exact HB.out)));(case aF=>exact (fun k_ hk=>⟨Kd.fresh' (Kd.R_lt (by (with_reducible repeat (first|apply Kd.R_alloc|apply Kd.R_drewN|apply Kd.R_drew));exact HO_5.out)) k_ hk,Kd.fresh' (Kd.R_lt (by (with_reducible repeat (first|apply Kd.R_alloc|apply Kd.R_drewN|apply Kd.R_drew));exact HO_6.out)) k_ hk⟩));(case aO=>exact (by (with_reducible repeat (first|apply Kd.R_alloc|apply Kd.R_drewN|apply Kd.R_drew));exact HO_7.out));(case aS=>exact (below_size (by repeat (first|(with_reducible first|exact HB.out|apply below_alloc|apply pw_below_drewN|apply below_drew1)|exact HB.out))));(case aL=>have:=LMc14.out;omega);intro v179 w17 ho hb hg hat;rw [← Ny178.out] at ho;have n0_:=Aside0.mk (Kd.R_after (ok:=(fun k_=>some k_≠(.slice Ao16 t170.length co16:Value).ownBlock)) (by (with_reducible repeat (first|apply Kd.R_alloc|apply Kd.R_drewN|apply Kd.R_drew));exact HO_5.out) hg hat);have n1_:=Aside0.mk (Kd.R_after (ok:=(fun k_=>some k_≠(.slice (some ad173) t167.length co15:Value).ownBlock)) (by (with_reducible repeat (first|apply Kd.R_alloc|apply Kd.R_drewN|apply Kd.R_drew));exact HO_6.out) hg hat);have n2_:=Aside0.mk (hb);have n3_:=Aside0.mk (ho);clear HO_5;clear HO_6;clear HB;clear HO_7;have HO_5:=n0_;have HO_6:=n1_;have HB:=n2_;have HO180:=n3_;clear n0_ n1_ n2_ n3_;clear ho hb hg hat))
              go_roundg k1
              case measure=>have:=HK1.out;omega
              case rel=>exact ⟨(y178),((wrap64 (x8_1+(wrap64 (rd t167 x9_1))))/4294967296),(wrap64 (x9_1+1)),(by first|rfl|(simp;done)|(simp [*];done)),(by first|rfl|(simp;done)|(simp [*];done)),H',⟨by have:=HK1.out;omega⟩,⟨by (with_reducible repeat (first|apply Kd.R_alloc|apply Kd.R_drewN|apply Kd.R_drew));exact HO_5.out⟩,⟨by (with_reducible repeat (first|apply Kd.R_alloc|apply Kd.R_drewN|apply Kd.R_drew));exact HO_6.out⟩,⟨by (with_reducible repeat (first|apply Kd.R_alloc|apply Kd.R_drewN|apply Kd.R_drew));exact HO180.out⟩,⟨by repeat (first|(with_reducible first|exact HB.out|apply below_alloc|apply pw_below_drewN|apply below_drew1)|exact HB.out)⟩⟩
            · rw [if_neg c14] at H
              exact absurd H (by simp)
        · rw [if_neg c8] at H
          exact absurd H (by simp)
      · rw [if_neg c7] at H
        have c7b0:decide (x9_1<(t167.length:Int))=false:=decide_eq_false c7
        clear c7
        replace H:=Option.bind_eq_some_iff.mp H
        obtain ⟨t181,A180,H⟩:=H
        replace H:((gimbalref90_whole.f k1 t181).bind fun t184=>(some t184))=some r:=H
        have A18:=Aside0.mk A180
        clear A180
        replace H:=Option.bind_eq_some_iff.mp H
        obtain ⟨t184,A190,H⟩:=H
        replace H:(some t184)=some r:=H
        have A19:=Aside0.mk A190
        clear A190
        obtain rfl:=Option.some.inj H
        obtain ⟨Ao20,co20,eo20⟩:=Kd.R_slice HO_5.out
        subst eo20
        obtain ⟨Ao21,co21,eo21⟩:=Kd.R_slice HO_7.out
        subst eo21
        go_wp2_with (first|((with_reducible refine gate_callee (f:=103) rfl ?_);refine goesL_ (some 47) rfl rfl Try.func103 (by kernel_rfl) rfl #[.slice Ao21 x7_1.length co21] rfl (by (try simp only [List.map_toArray,List.map_cons,List.map_nil]);first|done|rfl|(simp only [List.length_drop,List.length_take];rfl)) ?_;(with_reducible refine (gimbalref90_cut.calls k1 (fun k_=>some k_=(.slice Ao21 x7_1.length co21:Value).ownBlock) (.slice Ao21 x7_1.length co21) x7_1 t181 w _ ?side1 ?side2 A18.out).mono ?_);(case side1=>repeat (first|(with_reducible first|exact HB.out|apply below_alloc|apply pw_below_drewN|apply below_drew1)|exact HB.out));(case side2=>exact Kd.R_tight rfl HO_7.out);rintro e w22 ⟨v182,rfl,ho0,hb,hkp⟩;refine ⟨_,rfl,?_⟩;have n0_:=Aside0.mk (Kd.R_mono (ok':=fun k_=>some k_≠(v171:Value).ownBlock∧some k_≠(v182:Value).ownBlock) (Kd.R_keptB (HO_5.out) hkp (fun k_ hk_ hs_=>(hk_.2) hs_)) (fun k_ hk_=>⟨hk_.1.1,fun e_=>Or.elim (ho0.1 k_ e_.symm) (fun hs_=>hk_.2.1 hs_) (fun hn_=>Nat.not_le.2 hk_.2.2 hn_)⟩));have n1_:=Aside0.mk (Kd.R_mono (ok':=fun k_=>some k_≠(.slice Ao20 t167.length co20:Value).ownBlock∧some k_≠(v182:Value).ownBlock) (Kd.R_keptB (HO_6.out) hkp (fun k_ hk_ hs_=>(hk_.2) hs_)) (fun k_ hk_=>⟨hk_.1.1,fun e_=>Or.elim (ho0.1 k_ e_.symm) (fun hs_=>hk_.2.1 hs_) (fun hn_=>Nat.not_le.2 hk_.2.2 hn_)⟩));have n2_:=Aside0.mk (Kd.R_mono (ok':=fun k_=>some k_≠(.slice Ao20 t167.length co20:Value).ownBlock∧some k_≠(v171:Value).ownBlock) ho0 (fun k_ hk_=>⟨Or.elim hk_ (fun hs_=>fun e_=>(((HO_5.out).1 k_ e_.symm).2) hs_) (fun hn_=>(Kd.fresh' (Kd.R_lt (by (with_reducible repeat (first|apply Kd.R_alloc|apply Kd.R_drewN|apply Kd.R_drew));exact HO_5.out)) k_ hn_)),Or.elim hk_ (fun hs_=>fun e_=>(((HO_6.out).1 k_ e_.symm).2) hs_) (fun hn_=>(Kd.fresh' (Kd.R_lt (by (with_reducible repeat (first|apply Kd.R_alloc|apply Kd.R_drewN|apply Kd.R_drew));exact HO_6.out)) k_ hn_))⟩));have n3_:=Aside0.mk (hb);clear HO_5;clear HO_6;clear HB;clear HO_7;have HO_5:=n0_;have HO_6:=n1_;have HO183:=n2_;have HB:=n3_;clear n0_ n1_ n2_ n3_;(try clear hb);(try clear hkp);(try clear ho0);obtain ⟨Ao23,co23,eo23⟩:=Kd.R_slice HO183.out;subst eo23)|((with_reducible refine gate_callee (f:=102) rfl ?_);refine goesL_ (some 48) rfl rfl Try.func102 (by kernel_rfl) rfl #[.slice Ao23 t181.length co23] rfl (by (try simp only [List.map_toArray,List.map_cons,List.map_nil]);first|done|rfl|(simp only [List.length_drop,List.length_take];rfl)) ?_;(with_reducible refine (gimbalref90_whole.calls k1 _ _ t181 t184 _ ?side1 ?side2 A19.out).mono ?_);(case side1=>repeat (first|exact (Kd.R_reads' HO183.out).2.2|(with_reducible refine Kd.C_alloc ?_ _)|(with_reducible refine Kd.C_drewN ?_ _)|(with_reducible refine Kd.C_drew ?_)));(case side2=>exact (Kd.R_reads' HO183.out).2.1);rintro e w24 ⟨v185,rfl,ho0,hb⟩;refine ⟨_,rfl,?_⟩;have n0_:=Aside0.mk (Kd.R_below (by (with_reducible repeat (first|apply Kd.R_alloc|apply Kd.R_drewN|apply Kd.R_drew));exact HO_5.out) hb);have n1_:=Aside0.mk (Kd.R_below (by (with_reducible repeat (first|apply Kd.R_alloc|apply Kd.R_drewN|apply Kd.R_drew));exact HO_6.out) hb);have n2_:=Aside0.mk (Kd.R_below (by (with_reducible repeat (first|apply Kd.R_alloc|apply Kd.R_drewN|apply Kd.R_drew));exact HO183.out) hb);have n3_:=Aside0.mk (Kd.R_lower ho0 (below_size (by repeat (first|(with_reducible first|exact HB.out|apply below_alloc|apply pw_below_drewN|apply below_drew1)|exact HB.out))));have n4_:=Aside0.mk (below_step (by repeat (first|(with_reducible first|exact HB.out|apply below_alloc|apply pw_below_drewN|apply below_drew1)|exact HB.out)) hb);clear HO_5;clear HO_6;clear HO183;clear HB;have HO_5:=n0_;have HO_6:=n1_;have HO183:=n2_;have HO186:=n3_;have HB:=n4_;clear n0_ n1_ n2_ n3_ n4_;(try clear hb);(try clear hb2);(try clear hk);(try clear hi);(try clear ho0)))
        go_ret
        exact ⟨_,by first|rfl|(simp [errW_none,errW_some]<;>rfl)|(simp [*,errW_none,errW_some]<;>rfl),by (with_reducible repeat (first|apply Kd.R_alloc|apply Kd.R_drewN|apply Kd.R_drew));exact HO186.out,by repeat (first|(with_reducible first|exact HB.out|apply below_alloc|apply pw_below_drewN|apply below_drew1)|exact HB.out)⟩
end Go.Proofs.Ythokdnheijnmmaa.QN90
end
section
namespace Go.Proofs.Ythokdnheijnmmaa.QN90
open Go.RowKit Go.Proofs.YthokdnheijnmmaaW.PrintWords Go.Proofs.YthokdnheijnmmaaW.PrintLast Go.Proofs.YthokdnheijnmmaaW.PrintMore
attribute [local go_sem] max2_int min2_int max_two min_two max_three min_three max_four min_four   -- for this text's walks alone
set_option linter.unusedVariables false
set_option linter.unusedSimpArgs false
mutual
def gimbalref90_NTimes.l0:Nat→List Int→List Int→List Int→Int→Option (List Int)
  | 0,_,_,_,_=>none
  | k+1,x5,x6,x7,x8=>if x8<(x5.length:Int) then (gimbalref90_NTimes.l1 k x5 x6 x7 x8 0 0) else ((gimbalref90_cut.f k x7).bind fun t196=>((gimbalref90_whole.f k t196).bind fun t199=>(some t199)))
def gimbalref90_NTimes.l1:Nat→List Int→List Int→List Int→Int→Int→Int→Option (List Int)
  | 0,_,_,_,_,_,_=>none
  | k+1,x5,x6,x7,x8,x9,x10=>if x10<(x6.length:Int) then (if 0≤(wrap64 (x8+x10)) then (if (wrap64 (x8+x10))<(x7.length:Int) then (if 0≤x8 then (if x8<(x5.length:Int) then (if 0≤x10 then (gimbalref90_NTimes.l1 k x5 x6 (x7.set ((wrap64 (x8+x10)):Int).toNat ((IntKind.u64.wrap ((IntKind.u64.wrap (x9+(IntKind.u64.wrap (rd x7 (wrap64 (x8+x10))))))+(IntKind.u64.wrap ((IntKind.u64.wrap (rd x5 x8))*(IntKind.u64.wrap (rd x6 x10))))))%4294967296)) x8 ((IntKind.u64.wrap ((IntKind.u64.wrap (x9+(IntKind.u64.wrap (rd x7 (wrap64 (x8+x10))))))+(IntKind.u64.wrap ((IntKind.u64.wrap (rd x5 x8))*(IntKind.u64.wrap (rd x6 x10))))))/4294967296) (wrap64 (x10+1))) else (none)) else (none)) else (none)) else (none)) else (none)) else (if 0≤(wrap64 (x8+(x6.length:Int))) then (if (wrap64 (x8+(x6.length:Int)))<(x7.length:Int) then (gimbalref90_NTimes.l0 k x5 x6 (x7.set ((wrap64 (x8+(x6.length:Int))):Int).toNat ((x9)%4294967296)) (wrap64 (x8+1))) else (none)) else (none))
end
def gimbalref90_NTimes.f (k:Nat) (l0:List Int) (l1:List Int):Option (List Int):=(gimbalref90_halves.f k l0).bind fun t187=>((gimbalref90_halves.f k l1).bind fun t190=>(if 0≤(wrap64 ((t187.length:Int)+(t190.length:Int))) then (if (wrap64 ((t187.length:Int)+(t190.length:Int)):Int).toNat≤70368744177664 then (gimbalref90_NTimes.l0 k t187 t190 (List.replicate (wrap64 ((t187.length:Int)+(t190.length:Int)):Int).toNat 0) 0) else (none)) else (none)))
set_option maxHeartbeats 8000000 in
set_option maxRecDepth 100000 in
theorem gimbalref90_NTimes.calls (k:Nat) (A0:Option Addr) (c0:Nat) (l0:List Int) (A1:Option Addr) (c1:Nat) (l1:List Int) (r:List Int) (w:World) (hr0:Kd.C (Kd.int .u64) w A0 l0.length l0) (hc0:l0.length≤c0) (hr1:Kd.C (Kd.int .u64) w A1 l1.length l1) (hc1:l1.length≤c1) (h:gimbalref90_NTimes.f k l0 l1=some r) :
    Calls Try.prog 65 #[.slice A0 l0.length c0,.slice A1 l1.length c1] w fun e w'=>∃ v0_:Value,e = .returned (v0_)∧Kd.R (Kd.int .u64) 76 w' w.heap.size (fun _=>True) v0_ r∧Below w.heap.size w w':=by
  have HR0:=Aside0.mk hr0
  have HC0:=Aside0.mk hc0
  clear hr0 hc0
  have HR1:=Aside0.mk hr1
  have HC1:=Aside0.mk hc1
  clear hr1 hc1
  have HB:=Aside0.mk (Below.refl w.heap.size w)
  have H:((gimbalref90_halves.f k l0).bind fun t187=>((gimbalref90_halves.f k l1).bind fun t190=>(if 0≤(wrap64 ((t187.length:Int)+(t190.length:Int))) then (if (wrap64 ((t187.length:Int)+(t190.length:Int)):Int).toNat≤70368744177664 then (gimbalref90_NTimes.l0 k t187 t190 (List.replicate (wrap64 ((t187.length:Int)+(t190.length:Int)):Int).toNat 0) 0) else (none)) else (none))))=some r:=h
  clear h
  replace H:=Option.bind_eq_some_iff.mp H
  obtain ⟨t187,A30,H⟩:=H
  replace H:((gimbalref90_halves.f k l1).bind fun t190=>(if 0≤(wrap64 ((t187.length:Int)+(t190.length:Int))) then (if (wrap64 ((t187.length:Int)+(t190.length:Int)):Int).toNat≤70368744177664 then (gimbalref90_NTimes.l0 k t187 t190 (List.replicate (wrap64 ((t187.length:Int)+(t190.length:Int)):Int).toNat 0) 0) else (none)) else (none)))=some r:=H
  have A3:=Aside0.mk A30
  clear A30
  replace H:=Option.bind_eq_some_iff.mp H
  obtain ⟨t190,A40,H⟩:=H
  replace H:(if 0≤(wrap64 ((t187.length:Int)+(t190.length:Int))) then (if (wrap64 ((t187.length:Int)+(t190.length:Int)):Int).toNat≤70368744177664 then (gimbalref90_NTimes.l0 k t187 t190 (List.replicate (wrap64 ((t187.length:Int)+(t190.length:Int)):Int).toNat 0) 0) else (none)) else (none))=some r:=H
  have A4:=Aside0.mk A40
  clear A40
  obtain ⟨ji5,hji5⟩:∃ j_:Int,(wrap64 ((t187.length:Int)+(t190.length:Int)))=j_:=⟨_,rfl⟩
  replace H:(if 0≤(ji5) then (if (ji5:Int).toNat≤70368744177664 then (gimbalref90_NTimes.l0 k t187 t190 (List.replicate (ji5:Int).toNat 0) 0) else (none)) else (none))=some r:=by first|(rw [hji5] at H;exact H)|(simp only [hji5] at H ⊢;exact H)
  (try rw [hji5] at A3)
  (try rw [hji5] at A4)
  have hji5w:(IntKind.i64.wrap ((t187.length:Int)+(t190.length:Int)))=ji5:=(i64_w _).trans hji5
  by_cases c6:0≤(ji5)
  · rw [if_pos c6] at H
    have c6b0:=eq_true c6
    have c6b1:decide (0≤(ji5))=true:=decide_eq_true c6
    clear c6
    by_cases c7:(ji5:Int).toNat≤70368744177664
    · rw [if_pos c7] at H
      have c7b0:=eq_true c7
      have c7b1:decide ((ji5:Int).toNat≤70368744177664)=true:=decide_eq_true c7
      clear c7
      obtain ⟨y193,hy193⟩:∃ y_:List Int,y_=(List.replicate (ji5:Int).toNat 0):=⟨_,rfl⟩
      replace H:(gimbalref90_NTimes.l0 k t187 t190 y193 0)=some r:=by first|(rw [hy193];with_reducible exact H)|(have H2_:=(Option.bind_some _ _).symm.trans H;rw [hy193];with_reducible exact H2_)|(have H2_:=(Option.bind_some _ _).symm.trans H;with_reducible exact H2_)|with_reducible exact H|(rw [hy193];exact H)|exact H
      have Ny193:=Aside0.mk hy193
      clear hy193
      have H':=Aside0.mk H
      clear H
      go_enter Try.func65,Try.ntmps65
      go_wp2_with (first|(go_at_call 101;(with_reducible refine (gimbalref90_halves.calls k _ _ l0 t187 _ ?side1 ?side2 A3.out).mono ?_);(case side1=>repeat (first|exact HR0.out|(with_reducible refine Kd.C_alloc ?_ _)|(with_reducible refine Kd.C_drewN ?_ _)|(with_reducible refine Kd.C_drew ?_)));(case side2=>exact HC0.out);rintro e w8 ⟨v188,rfl,ho0,hb⟩;have n0_:=Aside0.mk (Kd.R_lower ho0 (below_size (by repeat (first|(with_reducible first|exact HB.out|apply below_alloc|apply pw_below_drewN|apply below_drew1)|exact HB.out))));have n1_:=Aside0.mk (below_step (by repeat (first|(with_reducible first|exact HB.out|apply below_alloc|apply pw_below_drewN|apply below_drew1)|exact HB.out)) hb);clear HB;have HO189:=n0_;have HB:=n1_;clear n0_ n1_;(try clear hb);(try clear hb2);(try clear hk);(try clear hi);(try clear ho0))|(go_at_call 101;(with_reducible refine (gimbalref90_halves.calls k _ _ l1 t190 _ ?side1 ?side2 A4.out).mono ?_);(case side1=>repeat (first|exact (Kd.C_below HR1.out HB.out)|(with_reducible refine Kd.C_alloc ?_ _)|(with_reducible refine Kd.C_drewN ?_ _)|(with_reducible refine Kd.C_drew ?_)));(case side2=>exact HC1.out);rintro e w9 ⟨v191,rfl,ho0,hb⟩;have n0_:=Aside0.mk (Kd.R_elder' (by (with_reducible repeat (first|apply Kd.R_alloc|apply Kd.R_drewN|apply Kd.R_drew));exact HO189.out) (Kd.R_base ho0) hb);have n1_:=Aside0.mk (Kd.R_lower (Kd.R_new' ho0 (Kd.R_lt (by (with_reducible repeat (first|apply Kd.R_alloc|apply Kd.R_drewN|apply Kd.R_drew));exact HO189.out))) (below_size (by repeat (first|(with_reducible first|exact HB.out|apply below_alloc|apply pw_below_drewN|apply below_drew1)|exact HB.out))));have n2_:=Aside0.mk (below_step (by repeat (first|(with_reducible first|exact HB.out|apply below_alloc|apply pw_below_drewN|apply below_drew1)|exact HB.out)) hb);clear HO189;clear HB;have HO189:=n0_;have HO192:=n1_;have HB:=n2_;clear n0_ n1_ n2_;(try clear hb);(try clear hb2);(try clear hk);(try clear hi);(try clear ho0);obtain ⟨Ao10,co10,eo10⟩:=Kd.R_slice HO189.out;subst eo10;obtain ⟨Ao11,co11,eo11⟩:=Kd.R_slice HO192.out;subst eo11)|((with_reducible refine gate_dst (N:=20) rfl ?_);refine Kd.R_make (Kd.int .u32) _ 102 rfl (N:=20) rfl 100 _ _ rfl ji5 rfl rfl Try.underlying100 (.int .u32 0) 4 info102 rfl (by decide) (by omega) 0 (ok:=fun _=>True) (okp:=fun _=>True) rfl (fun _ hk=>hk) trivial (of_decide_eq_true (by first|(with_reducible assumption)|assumption)) (Nat.le_trans (Nat.mul_le_mul_right _ (of_decide_eq_true (by first|(with_reducible assumption)|assumption):ji5.toNat≤70368744177664)) (by omega)) (Below.refl _ _) (Nat.le_refl _) ?_;intro v194 w12 ho13 hb hg_ hnew_;clear hg_ hnew_;(first|rw [← Ny193.out] at ho13|(simp only [Int.reduceToNat] at ho13;rw [← Ny193.out] at ho13));have n0_:=Aside0.mk (Kd.R_elder' (by (with_reducible repeat (first|apply Kd.R_alloc|apply Kd.R_drewN|apply Kd.R_drew));exact HO189.out) (Kd.R_base ho13) hb);have n1_:=Aside0.mk (Kd.R_elder' (by (with_reducible repeat (first|apply Kd.R_alloc|apply Kd.R_drewN|apply Kd.R_drew));exact HO192.out) (Kd.R_base ho13) hb);have n2_:=Aside0.mk (Kd.R_lower (Kd.R_new' (Kd.R_new' ho13 (Kd.R_lt (by (with_reducible repeat (first|apply Kd.R_alloc|apply Kd.R_drewN|apply Kd.R_drew));exact HO189.out))) (Kd.R_lt (by (with_reducible repeat (first|apply Kd.R_alloc|apply Kd.R_drewN|apply Kd.R_drew));exact HO192.out))) (below_size (by repeat (first|(with_reducible first|exact HB.out|apply below_alloc|apply pw_below_drewN|apply below_drew1)|exact HB.out))));have n3_:=Aside0.mk (below_step (by repeat (first|(with_reducible first|exact HB.out|apply below_alloc|apply pw_below_drewN|apply below_drew1)|exact HB.out)) hb);clear HO189;clear HO192;clear HB;have HO189:=n0_;have HO192:=n1_;have HO195:=n2_;have HB:=n3_;clear n0_ n1_ n2_ n3_;clear hb ho13))
      repeat (go_quiet (first|(go_at_call 101;(with_reducible refine (gimbalref90_halves.calls k _ _ l0 t187 _ ?side1 ?side2 A3.out).mono ?_);(case side1=>repeat (first|exact HR0.out|(with_reducible refine Kd.C_alloc ?_ _)|(with_reducible refine Kd.C_drewN ?_ _)|(with_reducible refine Kd.C_drew ?_)));(case side2=>exact HC0.out);rintro e w8 ⟨v188,rfl,ho0,hb⟩;have n0_:=Aside0.mk (Kd.R_lower ho0 (below_size (by repeat (first|(with_reducible first|exact HB.out|apply below_alloc|apply pw_below_drewN|apply below_drew1)|exact HB.out))));have n1_:=Aside0.mk (below_step (by repeat (first|(with_reducible first|exact HB.out|apply below_alloc|apply pw_below_drewN|apply below_drew1)|exact HB.out)) hb);clear HB;have HO189:=n0_;have HB:=n1_;clear n0_ n1_;(try clear hb);(try clear hb2);(try clear hk);(try clear hi);(try clear ho0))|(go_at_call 101;(with_reducible refine (gimbalref90_halves.calls k _ _ l1 t190 _ ?side1 ?side2 A4.out).mono ?_);(case side1=>repeat (first|exact (Kd.C_below HR1.out HB.out)|(with_reducible refine Kd.C_alloc ?_ _)|(with_reducible refine Kd.C_drewN ?_ _)|(with_reducible refine Kd.C_drew ?_)));(case side2=>exact HC1.out);rintro e w9 ⟨v191,rfl,ho0,hb⟩;have n0_:=Aside0.mk (Kd.R_elder' (by (with_reducible repeat (first|apply Kd.R_alloc|apply Kd.R_drewN|apply Kd.R_drew));exact HO189.out) (Kd.R_base ho0) hb);have n1_:=Aside0.mk (Kd.R_lower (Kd.R_new' ho0 (Kd.R_lt (by (with_reducible repeat (first|apply Kd.R_alloc|apply Kd.R_drewN|apply Kd.R_drew));exact HO189.out))) (below_size (by repeat (first|(with_reducible first|exact HB.out|apply below_alloc|apply pw_below_drewN|apply below_drew1)|exact HB.out))));have n2_:=Aside0.mk (below_step (by repeat (first|(with_reducible first|exact HB.out|apply below_alloc|apply pw_below_drewN|apply below_drew1)|exact HB.out)) hb);clear HO189;clear HB;have HO189:=n0_;have HO192:=n1_;have HB:=n2_;clear n0_ n1_ n2_;(try clear hb);(try clear hb2);(try clear hk);(try clear hi);(try clear ho0);obtain ⟨Ao10,co10,eo10⟩:=Kd.R_slice HO189.out;subst eo10;obtain ⟨Ao11,co11,eo11⟩:=Kd.R_slice HO192.out;subst eo11)|((with_reducible refine gate_dst (N:=20) rfl ?_);refine Kd.R_make (Kd.int .u32) _ 102 rfl (N:=20) rfl 100 _ _ rfl ji5 rfl rfl Try.underlying100 (.int .u32 0) 4 info102 rfl (by decide) (by omega) 0 (ok:=fun _=>True) (okp:=fun _=>True) rfl (fun _ hk=>hk) trivial (of_decide_eq_true (by first|(with_reducible assumption)|assumption)) (Nat.le_trans (Nat.mul_le_mul_right _ (of_decide_eq_true (by first|(with_reducible assumption)|assumption):ji5.toNat≤70368744177664)) (by omega)) (Below.refl _ _) (Nat.le_refl _) ?_;intro v194 w12 ho13 hb hg_ hnew_;clear hg_ hnew_;(first|rw [← Ny193.out] at ho13|(simp only [Int.reduceToNat] at ho13;rw [← Ny193.out] at ho13));have n0_:=Aside0.mk (Kd.R_elder' (by (with_reducible repeat (first|apply Kd.R_alloc|apply Kd.R_drewN|apply Kd.R_drew));exact HO189.out) (Kd.R_base ho13) hb);have n1_:=Aside0.mk (Kd.R_elder' (by (with_reducible repeat (first|apply Kd.R_alloc|apply Kd.R_drewN|apply Kd.R_drew));exact HO192.out) (Kd.R_base ho13) hb);have n2_:=Aside0.mk (Kd.R_lower (Kd.R_new' (Kd.R_new' ho13 (Kd.R_lt (by (with_reducible repeat (first|apply Kd.R_alloc|apply Kd.R_drewN|apply Kd.R_drew));exact HO189.out))) (Kd.R_lt (by (with_reducible repeat (first|apply Kd.R_alloc|apply Kd.R_drewN|apply Kd.R_drew));exact HO192.out))) (below_size (by repeat (first|(with_reducible first|exact HB.out|apply below_alloc|apply pw_below_drewN|apply below_drew1)|exact HB.out))));have n3_:=Aside0.mk (below_step (by repeat (first|(with_reducible first|exact HB.out|apply below_alloc|apply pw_below_drewN|apply below_drew1)|exact HB.out)) hb);clear HO189;clear HO192;clear HB;have HO189:=n0_;have HO192:=n1_;have HO195:=n2_;have HB:=n3_;clear n0_ n1_ n2_ n3_;clear hb ho13));try go_wp2_with (first|(go_at_call 101;(with_reducible refine (gimbalref90_halves.calls k _ _ l0 t187 _ ?side1 ?side2 A3.out).mono ?_);(case side1=>repeat (first|exact HR0.out|(with_reducible refine Kd.C_alloc ?_ _)|(with_reducible refine Kd.C_drewN ?_ _)|(with_reducible refine Kd.C_drew ?_)));(case side2=>exact HC0.out);rintro e w8 ⟨v188,rfl,ho0,hb⟩;have n0_:=Aside0.mk (Kd.R_lower ho0 (below_size (by repeat (first|(with_reducible first|exact HB.out|apply below_alloc|apply pw_below_drewN|apply below_drew1)|exact HB.out))));have n1_:=Aside0.mk (below_step (by repeat (first|(with_reducible first|exact HB.out|apply below_alloc|apply pw_below_drewN|apply below_drew1)|exact HB.out)) hb);clear HB;have HO189:=n0_;have HB:=n1_;clear n0_ n1_;(try clear hb);(try clear hb2);(try clear hk);(try clear hi);(try clear ho0))|(go_at_call 101;(with_reducible refine (gimbalref90_halves.calls k _ _ l1 t190 _ ?side1 ?side2 A4.out).mono ?_);(case side1=>repeat (first|exact (Kd.C_below HR1.out HB.out)|(with_reducible refine Kd.C_alloc ?_ _)|(with_reducible refine Kd.C_drewN ?_ _)|(with_reducible refine Kd.C_drew ?_)));(case side2=>exact HC1.out);rintro e w9 ⟨v191,rfl,ho0,hb⟩;have n0_:=Aside0.mk (Kd.R_elder' (by (with_reducible repeat (first|apply Kd.R_alloc|apply Kd.R_drewN|apply Kd.R_drew));exact HO189.out) (Kd.R_base ho0) hb);have n1_:=Aside0.mk (Kd.R_lower (Kd.R_new' ho0 (Kd.R_lt (by (with_reducible repeat (first|apply Kd.R_alloc|apply Kd.R_drewN|apply Kd.R_drew));exact HO189.out))) (below_size (by repeat (first|(with_reducible first|exact HB.out|apply below_alloc|apply pw_below_drewN|apply below_drew1)|exact HB.out))));have n2_:=Aside0.mk (below_step (by repeat (first|(with_reducible first|exact HB.out|apply below_alloc|apply pw_below_drewN|apply below_drew1)|exact HB.out)) hb);clear HO189;clear HB;have HO189:=n0_;have HO192:=n1_;have HB:=n2_;clear n0_ n1_ n2_;(try clear hb);(try clear hb2);(try clear hk);(try clear hi);(try clear ho0);obtain ⟨Ao10,co10,eo10⟩:=Kd.R_slice HO189.out;subst eo10;obtain ⟨Ao11,co11,eo11⟩:=Kd.R_slice HO192.out;subst eo11)|((with_reducible refine gate_dst (N:=20) rfl ?_);refine Kd.R_make (Kd.int .u32) _ 102 rfl (N:=20) rfl 100 _ _ rfl ji5 rfl rfl Try.underlying100 (.int .u32 0) 4 info102 rfl (by decide) (by omega) 0 (ok:=fun _=>True) (okp:=fun _=>True) rfl (fun _ hk=>hk) trivial (of_decide_eq_true (by first|(with_reducible assumption)|assumption)) (Nat.le_trans (Nat.mul_le_mul_right _ (of_decide_eq_true (by first|(with_reducible assumption)|assumption):ji5.toNat≤70368744177664)) (by omega)) (Below.refl _ _) (Nat.le_refl _) ?_;intro v194 w12 ho13 hb hg_ hnew_;clear hg_ hnew_;(first|rw [← Ny193.out] at ho13|(simp only [Int.reduceToNat] at ho13;rw [← Ny193.out] at ho13));have n0_:=Aside0.mk (Kd.R_elder' (by (with_reducible repeat (first|apply Kd.R_alloc|apply Kd.R_drewN|apply Kd.R_drew));exact HO189.out) (Kd.R_base ho13) hb);have n1_:=Aside0.mk (Kd.R_elder' (by (with_reducible repeat (first|apply Kd.R_alloc|apply Kd.R_drewN|apply Kd.R_drew));exact HO192.out) (Kd.R_base ho13) hb);have n2_:=Aside0.mk (Kd.R_lower (Kd.R_new' (Kd.R_new' ho13 (Kd.R_lt (by (with_reducible repeat (first|apply Kd.R_alloc|apply Kd.R_drewN|apply Kd.R_drew));exact HO189.out))) (Kd.R_lt (by (with_reducible repeat (first|apply Kd.R_alloc|apply Kd.R_drewN|apply Kd.R_drew));exact HO192.out))) (below_size (by repeat (first|(with_reducible first|exact HB.out|apply below_alloc|apply pw_below_drewN|apply below_drew1)|exact HB.out))));have n3_:=Aside0.mk (below_step (by repeat (first|(with_reducible first|exact HB.out|apply below_alloc|apply pw_below_drewN|apply below_drew1)|exact HB.out)) hb);clear HO189;clear HO192;clear HB;have HO189:=n0_;have HO192:=n1_;have HO195:=n2_;have HB:=n3_;clear n0_ n1_ n2_ n3_;clear hb ho13)))
      go_loopg [8] k (fun kq v8 w'=>∃ (x7_1:List Int) (x8_1:Int),v8 = .int .i64 x8_1∧Aside0 (gimbalref90_NTimes.l0 kq t187 t190 x7_1 x8_1=some r)∧Aside0 (kq≤k)∧Aside0 (Kd.R (Kd.int .u32) 102 w' w.heap.size (fun k_=>some k_≠((.slice Ao11 t190.length co11):Value).ownBlock∧some k_≠(v194:Value).ownBlock) (.slice Ao10 t187.length co10) t187)∧Aside0 (Kd.R (Kd.int .u32) 102 w' w.heap.size (fun k_=>some k_≠((.slice Ao10 t187.length co10):Value).ownBlock∧some k_≠(v194:Value).ownBlock) (.slice Ao11 t190.length co11) t190)∧Aside0 (Kd.R (Kd.int .u32) 102 w' w.heap.size (fun k_=>some k_≠((.slice Ao10 t187.length co10):Value).ownBlock∧some k_≠((.slice Ao11 t190.length co11):Value).ownBlock) v194 x7_1)∧Aside0 (Below w.heap.size w w'))
      case atStart=>exact ⟨(y193),(0),(by first|rfl|(simp;done)|(simp [*];done)),H',⟨Nat.le_refl _⟩,⟨by (with_reducible repeat (first|apply Kd.R_alloc|apply Kd.R_drewN|apply Kd.R_drew));exact Kd.R_mono HO189.out (fun _ hk=>⟨hk.1.2,hk.2⟩)⟩,⟨by (with_reducible repeat (first|apply Kd.R_alloc|apply Kd.R_drewN|apply Kd.R_drew));exact Kd.R_mono HO192.out (fun _ hk=>⟨hk.1.2,hk.2⟩)⟩,⟨by (with_reducible repeat (first|apply Kd.R_alloc|apply Kd.R_drewN|apply Kd.R_drew));exact Kd.R_mono HO195.out (fun _ hk=>⟨hk.1.2,hk.2⟩)⟩,⟨by repeat (first|(with_reducible first|exact HB.out|apply below_alloc|apply pw_below_drewN|apply below_drew1)|exact HB.out)⟩⟩
      case round =>
        clear H'
        try clear c1
        try clear p2
        try clear c6
        try clear c6b0
        try clear c6b1
        try clear p6
        try clear c7
        try clear c7b0
        try clear c7b1
        obtain ⟨x7_1,x8_1,rfl,HA,HK1,HO_5,HO_6,HO_7,HB⟩:=hrel
        cases gk with
        | zero=>exact absurd HA.out (by simp [gimbalref90_NTimes.l0])
        | succ k1 =>
          have H:=HA.out
          clear HA
          simp only [gimbalref90_NTimes.l0] at H
          by_cases c14:x8_1<(t187.length:Int)
          · rw [if_pos c14] at H
            have c14b0:decide (x8_1<(t187.length:Int))=true:=decide_eq_true c14
            clear c14
            have H':=Aside0.mk H
            clear H
            go_wp2
            repeat (go_quiet (fail);try go_wp2)
            go_loopg [9,10] k1 (fun kq v9 v10 w'=>∃ (x7_2:List Int) (x9_2:Int) (x10_2:Int),v9 = .int .u64 x9_2∧v10 = .int .i64 x10_2∧Aside0 (gimbalref90_NTimes.l1 kq t187 t190 x7_2 x8_1 x9_2 x10_2=some r)∧Aside0 (kq≤k1)∧Aside0 (Kd.R (Kd.int .u32) 102 w' w.heap.size (fun k_=>some k_≠((.slice Ao11 t190.length co11):Value).ownBlock∧some k_≠(v194:Value).ownBlock) (.slice Ao10 t187.length co10) t187)∧Aside0 (Kd.R (Kd.int .u32) 102 w' w.heap.size (fun k_=>some k_≠((.slice Ao10 t187.length co10):Value).ownBlock∧some k_≠(v194:Value).ownBlock) (.slice Ao11 t190.length co11) t190)∧Aside0 (Kd.R (Kd.int .u32) 102 w' w.heap.size (fun k_=>some k_≠((.slice Ao10 t187.length co10):Value).ownBlock∧some k_≠((.slice Ao11 t190.length co11):Value).ownBlock) v194 x7_2)∧Aside0 (Below w.heap.size w w'))
            case atStart=>exact ⟨(x7_1),(0),(0),(by first|rfl|(simp;done)|(simp [*];done)),(by first|rfl|(simp;done)|(simp [*];done)),H',⟨Nat.le_refl _⟩,⟨by (with_reducible repeat (first|apply Kd.R_alloc|apply Kd.R_drewN|apply Kd.R_drew));exact HO_5.out⟩,⟨by (with_reducible repeat (first|apply Kd.R_alloc|apply Kd.R_drewN|apply Kd.R_drew));exact HO_6.out⟩,⟨by (with_reducible repeat (first|apply Kd.R_alloc|apply Kd.R_drewN|apply Kd.R_drew));exact HO_7.out⟩,⟨by repeat (first|(with_reducible first|exact HB.out|apply below_alloc|apply pw_below_drewN|apply below_drew1)|exact HB.out)⟩⟩
            case round =>
              clear H'
              try clear c1
              try clear p2
              try clear c6
              try clear c6b0
              try clear c6b1
              try clear p6
              try clear c7
              try clear c7b0
              try clear c7b1
              try clear c14
              try clear c14b0
              try clear p2
              try clear p6
              obtain ⟨x7_2,x9_2,x10_2,rfl,rfl,HA,HK2,HO_5,HO_6,HO_7,HB⟩:=hrel
              cases gk with
              | zero=>exact absurd HA.out (by simp [gimbalref90_NTimes.l1])
              | succ k2 =>
                have H:=HA.out
                clear HA
                simp only [gimbalref90_NTimes.l1] at H
                by_cases c15:x10_2<(t190.length:Int)
                · rw [if_pos c15] at H
                  have c15b0:decide (x10_2<(t190.length:Int))=true:=decide_eq_true c15
                  clear c15
                  obtain ⟨ji16,hji16⟩:∃ j_:Int,(wrap64 (x8_1+x10_2))=j_:=⟨_,rfl⟩
                  replace H:(if 0≤(ji16) then (if (ji16)<(x7_2.length:Int) then (if 0≤x8_1 then (if x8_1<(t187.length:Int) then (if 0≤x10_2 then (gimbalref90_NTimes.l1 k2 t187 t190 (x7_2.set ((ji16):Int).toNat ((IntKind.u64.wrap ((IntKind.u64.wrap (x9_2+(IntKind.u64.wrap (rd x7_2 (ji16)))))+(IntKind.u64.wrap ((IntKind.u64.wrap (rd t187 x8_1))*(IntKind.u64.wrap (rd t190 x10_2))))))%4294967296)) x8_1 ((IntKind.u64.wrap ((IntKind.u64.wrap (x9_2+(IntKind.u64.wrap (rd x7_2 (ji16)))))+(IntKind.u64.wrap ((IntKind.u64.wrap (rd t187 x8_1))*(IntKind.u64.wrap (rd t190 x10_2))))))/4294967296) (wrap64 (x10_2+1))) else (none)) else (none)) else (none)) else (none)) else (none))=some r:=by first|(rw [hji16] at H;exact H)|(simp only [hji16] at H ⊢;exact H)
                  have hji16w:(IntKind.i64.wrap (x8_1+x10_2))=ji16:=(i64_w _).trans hji16
                  by_cases c17:0≤(ji16)
                  · rw [if_pos c17] at H
                    have c17b0:decide (0≤(ji16))=true:=decide_eq_true c17
                    clear c17
                    by_cases c18:(ji16)<(x7_2.length:Int)
                    · rw [if_pos c18] at H
                      have c18b0:decide ((ji16)<(x7_2.length:Int))=true:=decide_eq_true c18
                      clear c18
                      by_cases c19:0≤x8_1
                      · rw [if_pos c19] at H
                        have c19b0:decide (0≤x8_1)=true:=decide_eq_true c19
                        clear c19
                        by_cases c20:x8_1<(t187.length:Int)
                        · rw [if_pos c20] at H
                          have c20b0:decide (x8_1<(t187.length:Int))=true:=decide_eq_true c20
                          clear c20
                          by_cases c21:0≤x10_2
                          · rw [if_pos c21] at H
                            have c21b0:decide (0≤x10_2)=true:=decide_eq_true c21
                            clear c21
                            obtain ⟨y205,hy205⟩:∃ y_:List Int,y_=(x7_2.set ((ji16):Int).toNat ((IntKind.u64.wrap ((IntKind.u64.wrap (x9_2+(IntKind.u64.wrap (rd x7_2 (ji16)))))+(IntKind.u64.wrap ((IntKind.u64.wrap (rd t187 x8_1))*(IntKind.u64.wrap (rd t190 x10_2))))))%4294967296)):=⟨_,rfl⟩
                            replace H:(gimbalref90_NTimes.l1 k2 t187 t190 y205 x8_1 ((IntKind.u64.wrap ((IntKind.u64.wrap (x9_2+(IntKind.u64.wrap (rd x7_2 (ji16)))))+(IntKind.u64.wrap ((IntKind.u64.wrap (rd t187 x8_1))*(IntKind.u64.wrap (rd t190 x10_2))))))/4294967296) (wrap64 (x10_2+1)))=some r:=by first|(rw [hy205];with_reducible exact H)|(have H2_:=(Option.bind_some _ _).symm.trans H;rw [hy205];with_reducible exact H2_)|(have H2_:=(Option.bind_some _ _).symm.trans H;with_reducible exact H2_)|with_reducible exact H|(rw [hy205];exact H)|exact H
                            have Ny205:=Aside0.mk hy205
                            clear hy205
                            have H':=Aside0.mk H
                            clear H
                            obtain ⟨Ao23,co23,eo23⟩:=Kd.R_slice HO_7.out
                            subst eo23
                            have p202:0≤((ji16):Int):=of_decide_eq_true (by first|(with_reducible assumption)|assumption)
                            have q202:(ji16)<(x7_2.length:Int):=of_decide_eq_true (by first|(with_reducible assumption)|assumption)
                            obtain ⟨ad202,e202,hx202_0⟩:=Kd.at_int (Kd.R_reads' HO_7.out).2.2 (ji16) p202 q202
                            cases e202
                            replace p202:=eq_true p202
                            replace q202:=eq_true q202
                            have p203:0≤(x8_1:Int):=of_decide_eq_true (by first|(with_reducible assumption)|assumption)
                            have q203:x8_1<(t187.length:Int):=of_decide_eq_true (by first|(with_reducible assumption)|assumption)
                            obtain ⟨ad203,e203,hx203_0⟩:=Kd.at_int (Kd.R_reads' HO_5.out).2.2 x8_1 p203 q203
                            cases e203
                            replace p203:=eq_true p203
                            replace q203:=eq_true q203
                            have p204:0≤(x10_2:Int):=of_decide_eq_true (by first|(with_reducible assumption)|assumption)
                            have q204:x10_2<(t190.length:Int):=of_decide_eq_true (by first|(with_reducible assumption)|assumption)
                            obtain ⟨ad204,e204,hx204_0⟩:=Kd.at_int (Kd.R_reads' HO_6.out).2.2 x10_2 p204 q204
                            cases e204
                            replace p204:=eq_true p204
                            replace q204:=eq_true q204
                            have p22:0≤((ji16):Int):=of_decide_eq_true (by first|(with_reducible assumption)|assumption)
                            have q22:((ji16):Int)<((x7_2.length:Int):Int):=of_decide_eq_true (by first|(with_reducible assumption)|assumption)
                            obtain ⟨go22,co22,eo22,gb22,gl22,cl22,HG22⟩:=Kd.R_form HO_7.out (by omega)
                            (first|cases eo22|(injection eo22 with ea_ en_ ec_;(first|subst ea_|(injection ea_ with ea_;subst ea_));subst ec_;clear en_))
                            have GB22:=Aside0.mk gb22
                            have GG22:=Aside0.mk HG22
                            clear gb22 gl22 HG22
                            (first|simp only [add_plain] at hx202_0|skip)
                            obtain ⟨hx22_0,hf22_0⟩:=Kd.R_celln 0 HO_7.out ((ji16):Int) p22 q22
                            replace p22:=eq_true p22
                            replace q22:=eq_true q22
                            have HP24:=Kd.R_putg HO_7.out ((ji16):Int) ((IntKind.u64.wrap ((IntKind.u64.wrap (x9_2+(IntKind.u64.wrap (rd x7_2 (ji16)))))+(IntKind.u64.wrap ((IntKind.u64.wrap (rd t187 x8_1))*(IntKind.u64.wrap (rd t190 x10_2))))))%4294967296)
                            go_wp2_with (first|((with_reducible refine gate_store (t:=102) (p:=60) rfl ?_);(try (rw [drewN_self wr];generalize hq_:World.drewN wr _=wr;have n0_:=Aside0.mk (Kd.R_at hq_ HO_5.out);have n1_:=Aside0.mk (Kd.R_at hq_ HO_6.out);have n2_:=Aside0.mk (Kd.R_at hq_ HO_7.out);have n3_:=Aside0.mk (below_at hq_ HB.out);clear hq_ HO_5 HO_6 HO_7 HB;have HO_5:=n0_;have HO_6:=n1_;have HO_7:=n2_;have HB:=n3_;clear n0_ n1_ n2_ n3_;(try (have HP24:=Kd.R_putg HO_7.out ((ji16):Int) ((IntKind.u64.wrap ((IntKind.u64.wrap (x9_2+(IntKind.u64.wrap (rd x7_2 (ji16)))))+(IntKind.u64.wrap ((IntKind.u64.wrap (rd t187 x8_1))*(IntKind.u64.wrap (rd t190 x10_2))))))%4294967296)))));refine store_event (t:=102) (p:=60) (v:=?vo_w25) (w1:=(wr.setCell ⟨go22,((ji16):Int).toNat,none⟩ (.int .u32 ((IntKind.u64.wrap ((IntKind.u64.wrap (x9_2+(IntKind.u64.wrap (rd x7_2 (ji16)))))+(IntKind.u64.wrap ((IntKind.u64.wrap (rd t187 x8_1))*(IntKind.u64.wrap (rd t190 x10_2))))))%4294967296)))) ?hg ?ho ?hn ?hr ?_;(case ho=>rfl);(case hg=>rfl);(case hn=>rfl);(case hr=>first|(go_simp;done)|(go_simp;rfl));intro w25 hw;have hg:wr.grownBy w25 (some go22):=(by rw [hw];exact HP24.2);have hp_:Kd.R (Kd.int .u32) 102 w25 w.heap.size (fun k_=>some k_≠(.slice (some ad203) t187.length co10:Value).ownBlock∧some k_≠(.slice (some ad204) t190.length co11:Value).ownBlock) (.slice (some ⟨go22,0,none⟩) x7_2.length co23) y205:=(by rw [hw,Ny205.out];exact HP24.1);clear HP24;have n0_:=Aside0.mk (Kd.R_after (v:=(.slice (some ⟨go22,0,none⟩) x7_2.length co23)) (v1:=(.slice (some ⟨go22,0,none⟩) x7_2.length co23)) (ok:=(fun k_=>some k_≠(.slice (some ad204) t190.length co11:Value).ownBlock)) (by (with_reducible repeat (first|apply Kd.R_alloc|apply Kd.R_drewN|apply Kd.R_drew));exact HO_5.out) hg (.inl rfl));have n1_:=Aside0.mk (Kd.R_after (v:=(.slice (some ⟨go22,0,none⟩) x7_2.length co23)) (v1:=(.slice (some ⟨go22,0,none⟩) x7_2.length co23)) (ok:=(fun k_=>some k_≠(.slice (some ad203) t187.length co10:Value).ownBlock)) (by (with_reducible repeat (first|apply Kd.R_alloc|apply Kd.R_drewN|apply Kd.R_drew));exact HO_6.out) hg (.inl rfl));have n2_:=Aside0.mk (hp_);have n3_:=Aside0.mk ((by rw [hw];exact below_set (HB.out) GB22.out:Below w.heap.size w w25));clear HO_5;clear HO_6;clear HO_7;clear HB;have HO_5:=n0_;have HO_6:=n1_;have HO_7:=n2_;have HB:=n3_;clear n0_ n1_ n2_ n3_;clear hg hw hp_))
                            repeat (go_quiet (first|((with_reducible refine gate_store (t:=102) (p:=60) rfl ?_);(try (rw [drewN_self wr];generalize hq_:World.drewN wr _=wr;have n0_:=Aside0.mk (Kd.R_at hq_ HO_5.out);have n1_:=Aside0.mk (Kd.R_at hq_ HO_6.out);have n2_:=Aside0.mk (Kd.R_at hq_ HO_7.out);have n3_:=Aside0.mk (below_at hq_ HB.out);clear hq_ HO_5 HO_6 HO_7 HB;have HO_5:=n0_;have HO_6:=n1_;have HO_7:=n2_;have HB:=n3_;clear n0_ n1_ n2_ n3_;(try (have HP24:=Kd.R_putg HO_7.out ((ji16):Int) ((IntKind.u64.wrap ((IntKind.u64.wrap (x9_2+(IntKind.u64.wrap (rd x7_2 (ji16)))))+(IntKind.u64.wrap ((IntKind.u64.wrap (rd t187 x8_1))*(IntKind.u64.wrap (rd t190 x10_2))))))%4294967296)))));refine store_event (t:=102) (p:=60) (v:=?vo_w25) (w1:=(wr.setCell ⟨go22,((ji16):Int).toNat,none⟩ (.int .u32 ((IntKind.u64.wrap ((IntKind.u64.wrap (x9_2+(IntKind.u64.wrap (rd x7_2 (ji16)))))+(IntKind.u64.wrap ((IntKind.u64.wrap (rd t187 x8_1))*(IntKind.u64.wrap (rd t190 x10_2))))))%4294967296)))) ?hg ?ho ?hn ?hr ?_;(case ho=>rfl);(case hg=>rfl);(case hn=>rfl);(case hr=>first|(go_simp;done)|(go_simp;rfl));intro w25 hw;have hg:wr.grownBy w25 (some go22):=(by rw [hw];exact HP24.2);have hp_:Kd.R (Kd.int .u32) 102 w25 w.heap.size (fun k_=>some k_≠(.slice (some ad203) t187.length co10:Value).ownBlock∧some k_≠(.slice (some ad204) t190.length co11:Value).ownBlock) (.slice (some ⟨go22,0,none⟩) x7_2.length co23) y205:=(by rw [hw,Ny205.out];exact HP24.1);clear HP24;have n0_:=Aside0.mk (Kd.R_after (v:=(.slice (some ⟨go22,0,none⟩) x7_2.length co23)) (v1:=(.slice (some ⟨go22,0,none⟩) x7_2.length co23)) (ok:=(fun k_=>some k_≠(.slice (some ad204) t190.length co11:Value).ownBlock)) (by (with_reducible repeat (first|apply Kd.R_alloc|apply Kd.R_drewN|apply Kd.R_drew));exact HO_5.out) hg (.inl rfl));have n1_:=Aside0.mk (Kd.R_after (v:=(.slice (some ⟨go22,0,none⟩) x7_2.length co23)) (v1:=(.slice (some ⟨go22,0,none⟩) x7_2.length co23)) (ok:=(fun k_=>some k_≠(.slice (some ad203) t187.length co10:Value).ownBlock)) (by (with_reducible repeat (first|apply Kd.R_alloc|apply Kd.R_drewN|apply Kd.R_drew));exact HO_6.out) hg (.inl rfl));have n2_:=Aside0.mk (hp_);have n3_:=Aside0.mk ((by rw [hw];exact below_set (HB.out) GB22.out:Below w.heap.size w w25));clear HO_5;clear HO_6;clear HO_7;clear HB;have HO_5:=n0_;have HO_6:=n1_;have HO_7:=n2_;have HB:=n3_;clear n0_ n1_ n2_ n3_;clear hg hw hp_));try go_wp2_with (first|((with_reducible refine gate_store (t:=102) (p:=60) rfl ?_);(try (rw [drewN_self wr];generalize hq_:World.drewN wr _=wr;have n0_:=Aside0.mk (Kd.R_at hq_ HO_5.out);have n1_:=Aside0.mk (Kd.R_at hq_ HO_6.out);have n2_:=Aside0.mk (Kd.R_at hq_ HO_7.out);have n3_:=Aside0.mk (below_at hq_ HB.out);clear hq_ HO_5 HO_6 HO_7 HB;have HO_5:=n0_;have HO_6:=n1_;have HO_7:=n2_;have HB:=n3_;clear n0_ n1_ n2_ n3_;(try (have HP24:=Kd.R_putg HO_7.out ((ji16):Int) ((IntKind.u64.wrap ((IntKind.u64.wrap (x9_2+(IntKind.u64.wrap (rd x7_2 (ji16)))))+(IntKind.u64.wrap ((IntKind.u64.wrap (rd t187 x8_1))*(IntKind.u64.wrap (rd t190 x10_2))))))%4294967296)))));refine store_event (t:=102) (p:=60) (v:=?vo_w25) (w1:=(wr.setCell ⟨go22,((ji16):Int).toNat,none⟩ (.int .u32 ((IntKind.u64.wrap ((IntKind.u64.wrap (x9_2+(IntKind.u64.wrap (rd x7_2 (ji16)))))+(IntKind.u64.wrap ((IntKind.u64.wrap (rd t187 x8_1))*(IntKind.u64.wrap (rd t190 x10_2))))))%4294967296)))) ?hg ?ho ?hn ?hr ?_;(case ho=>rfl);(case hg=>rfl);(case hn=>rfl);(case hr=>first|(go_simp;done)|(go_simp;rfl));intro w25 hw;have hg:wr.grownBy w25 (some go22):=(by rw [hw];exact HP24.2);have hp_:Kd.R (Kd.int .u32) 102 w25 w.heap.size (fun k_=>some k_≠(.slice (some ad203) t187.length co10:Value).ownBlock∧some k_≠(.slice (some ad204) t190.length co11:Value).ownBlock) (.slice (some ⟨go22,0,none⟩) x7_2.length co23) y205:=(by rw [hw,Ny205.out];exact HP24.1);clear HP24;have n0_:=Aside0.mk (Kd.R_after (v:=(.slice (some ⟨go22,0,none⟩) x7_2.length co23)) (v1:=(.slice (some ⟨go22,0,none⟩) x7_2.length co23)) (ok:=(fun k_=>some k_≠(.slice (some ad204) t190.length co11:Value).ownBlock)) (by (with_reducible repeat (first|apply Kd.R_alloc|apply Kd.R_drewN|apply Kd.R_drew));exact HO_5.out) hg (.inl rfl));have n1_:=Aside0.mk (Kd.R_after (v:=(.slice (some ⟨go22,0,none⟩) x7_2.length co23)) (v1:=(.slice (some ⟨go22,0,none⟩) x7_2.length co23)) (ok:=(fun k_=>some k_≠(.slice (some ad203) t187.length co10:Value).ownBlock)) (by (with_reducible repeat (first|apply Kd.R_alloc|apply Kd.R_drewN|apply Kd.R_drew));exact HO_6.out) hg (.inl rfl));have n2_:=Aside0.mk (hp_);have n3_:=Aside0.mk ((by rw [hw];exact below_set (HB.out) GB22.out:Below w.heap.size w w25));clear HO_5;clear HO_6;clear HO_7;clear HB;have HO_5:=n0_;have HO_6:=n1_;have HO_7:=n2_;have HB:=n3_;clear n0_ n1_ n2_ n3_;clear hg hw hp_)))
                            have HOD0:Kd.R (Kd.int .u32) 102 (wr.drewN nq) w.heap.size (fun k_=>some k_≠(.slice (some ad203) t187.length co10:Value).ownBlock∧some k_≠(.slice (some ad204) t190.length co11:Value).ownBlock) (.slice (some ⟨go22,0,none⟩) x7_2.length co23) x7_2:=by (with_reducible repeat (first|apply Kd.R_alloc|apply Kd.R_drewN|apply Kd.R_drew));exact HO_7.out
                            have HOD:=Kd.R_putg HOD0 ((ji16):Int) ((IntKind.u64.wrap ((IntKind.u64.wrap (x9_2+(IntKind.u64.wrap (rd x7_2 (ji16)))))+(IntKind.u64.wrap ((IntKind.u64.wrap (rd t187 x8_1))*(IntKind.u64.wrap (rd t190 x10_2))))))%4294967296)
                            go_roundg k2
                            case measure=>have:=HK1.out;have:=HK2.out;omega
                            case rel=>exact ⟨(y205),((IntKind.u64.wrap ((IntKind.u64.wrap (x9_2+(IntKind.u64.wrap (rd x7_2 (ji16)))))+(IntKind.u64.wrap ((IntKind.u64.wrap (rd t187 x8_1))*(IntKind.u64.wrap (rd t190 x10_2))))))/4294967296),(wrap64 (x10_2+1)),(by first|rfl|(simp;done)|(simp only [← hji16]<;>(first|rfl|simp))|(simp [*];done)),(by first|rfl|(simp;done)|(simp [*];done)),H',⟨by have:=HK1.out;have:=HK2.out;omega⟩,⟨by refine Kd.R_after (W:=wr.drewN nq) (v:=(.slice (some ⟨go22,0,none⟩) x7_2.length co23)) (v1:=(.slice (some ⟨go22,0,none⟩) x7_2.length co23)) (ok:=(fun k_=>some k_≠(.slice (some ad204) t190.length co11:Value).ownBlock)) ?_ HOD.2 (.inl rfl);(with_reducible repeat (first|apply Kd.R_alloc|apply Kd.R_drewN|apply Kd.R_drew));exact HO_5.out⟩,⟨by refine Kd.R_after (W:=wr.drewN nq) (v:=(.slice (some ⟨go22,0,none⟩) x7_2.length co23)) (v1:=(.slice (some ⟨go22,0,none⟩) x7_2.length co23)) (ok:=(fun k_=>some k_≠(.slice (some ad203) t187.length co10:Value).ownBlock)) ?_ HOD.2 (.inl rfl);(with_reducible repeat (first|apply Kd.R_alloc|apply Kd.R_drewN|apply Kd.R_drew));exact HO_6.out⟩,⟨by rw [Ny205.out];exact HOD.1⟩,⟨below_set (pw_below_drewN HB.out nq) GB22.out⟩⟩
                          · rw [if_neg c21] at H
                            exact absurd H (by simp)
                        · rw [if_neg c20] at H
                          exact absurd H (by simp)
                      · rw [if_neg c19] at H
                        exact absurd H (by simp)
                    · rw [if_neg c18] at H
                      exact absurd H (by simp)
                  · rw [if_neg c17] at H
                    exact absurd H (by simp)
                · rw [if_neg c15] at H
                  have c15b0:decide (x10_2<(t190.length:Int))=false:=decide_eq_false c15
                  clear c15
                  obtain ⟨ji26,hji26⟩:∃ j_:Int,(wrap64 (x8_1+(t190.length:Int)))=j_:=⟨_,rfl⟩
                  replace H:(if 0≤(ji26) then (if (ji26)<(x7_2.length:Int) then (gimbalref90_NTimes.l0 k2 t187 t190 (x7_2.set ((ji26):Int).toNat ((x9_2)%4294967296)) (wrap64 (x8_1+1))) else (none)) else (none))=some r:=by first|(rw [hji26] at H;exact H)|(simp only [hji26] at H ⊢;exact H)
                  have hji26w:(IntKind.i64.wrap (x8_1+(t190.length:Int)))=ji26:=(i64_w _).trans hji26
                  by_cases c27:0≤(ji26)
                  · rw [if_pos c27] at H
                    have c27b0:decide (0≤(ji26))=true:=decide_eq_true c27
                    clear c27
                    by_cases c28:(ji26)<(x7_2.length:Int)
                    · rw [if_pos c28] at H
                      have c28b0:decide ((ji26)<(x7_2.length:Int))=true:=decide_eq_true c28
                      clear c28
                      obtain ⟨y206,hy206⟩:∃ y_:List Int,y_=(x7_2.set ((ji26):Int).toNat ((x9_2)%4294967296)):=⟨_,rfl⟩
                      replace H:(gimbalref90_NTimes.l0 k2 t187 t190 y206 (wrap64 (x8_1+1)))=some r:=by first|(rw [hy206];with_reducible exact H)|(have H2_:=(Option.bind_some _ _).symm.trans H;rw [hy206];with_reducible exact H2_)|(have H2_:=(Option.bind_some _ _).symm.trans H;with_reducible exact H2_)|with_reducible exact H|(rw [hy206];exact H)|exact H
                      have Ny206:=Aside0.mk hy206
                      clear hy206
                      have H':=Aside0.mk H
                      clear H
                      have p29:0≤((ji26):Int):=of_decide_eq_true (by first|(with_reducible assumption)|assumption)
                      have q29:((ji26):Int)<((x7_2.length:Int):Int):=of_decide_eq_true (by first|(with_reducible assumption)|assumption)
                      obtain ⟨go29,co29,eo29,gb29,gl29,cl29,HG29⟩:=Kd.R_form HO_7.out (by omega)
                      (first|cases eo29|(injection eo29 with ea_ en_ ec_;(first|subst ea_|(injection ea_ with ea_;subst ea_));subst ec_;clear en_))
                      have GB29:=Aside0.mk gb29
                      have GG29:=Aside0.mk HG29
                      clear gb29 gl29 HG29
                      obtain ⟨hx29_0,hf29_0⟩:=Kd.R_celln 0 HO_7.out ((ji26):Int) p29 q29
                      replace p29:=eq_true p29
                      replace q29:=eq_true q29
                      have HP30:=Kd.R_putg HO_7.out ((ji26):Int) ((x9_2)%4294967296)
                      go_wp2_with (first|((with_reducible refine gate_store (t:=102) (p:=70) rfl ?_);(try (rw [drewN_self wr];generalize hq_:World.drewN wr _=wr;have n0_:=Aside0.mk (Kd.R_at hq_ HO_5.out);have n1_:=Aside0.mk (Kd.R_at hq_ HO_6.out);have n2_:=Aside0.mk (Kd.R_at hq_ HO_7.out);have n3_:=Aside0.mk (below_at hq_ HB.out);clear hq_ HO_5 HO_6 HO_7 HB;have HO_5:=n0_;have HO_6:=n1_;have HO_7:=n2_;have HB:=n3_;clear n0_ n1_ n2_ n3_;(try (have HP30:=Kd.R_putg HO_7.out ((ji26):Int) ((x9_2)%4294967296)))));refine store_event (t:=102) (p:=70) (v:=?vo_w31) (w1:=(wr.setCell ⟨go29,((ji26):Int).toNat,none⟩ (.int .u32 ((x9_2)%4294967296)))) ?hg ?ho ?hn ?hr ?_;(case ho=>rfl);(case hg=>rfl);(case hn=>rfl);(case hr=>first|(go_simp;done)|(go_simp;rfl));intro w31 hw;have hg:wr.grownBy w31 (some go29):=(by rw [hw];exact HP30.2);have hp_:Kd.R (Kd.int .u32) 102 w31 w.heap.size (fun k_=>some k_≠(.slice Ao10 t187.length co10:Value).ownBlock∧some k_≠(.slice Ao11 t190.length co11:Value).ownBlock) (.slice (some ⟨go29,0,none⟩) x7_2.length co29) y206:=(by rw [hw,Ny206.out];exact HP30.1);clear HP30;have n0_:=Aside0.mk (Kd.R_after (v:=(.slice (some ⟨go29,0,none⟩) x7_2.length co29)) (v1:=(.slice (some ⟨go29,0,none⟩) x7_2.length co29)) (ok:=(fun k_=>some k_≠(.slice Ao11 t190.length co11:Value).ownBlock)) (by (with_reducible repeat (first|apply Kd.R_alloc|apply Kd.R_drewN|apply Kd.R_drew));exact HO_5.out) hg (.inl rfl));have n1_:=Aside0.mk (Kd.R_after (v:=(.slice (some ⟨go29,0,none⟩) x7_2.length co29)) (v1:=(.slice (some ⟨go29,0,none⟩) x7_2.length co29)) (ok:=(fun k_=>some k_≠(.slice Ao10 t187.length co10:Value).ownBlock)) (by (with_reducible repeat (first|apply Kd.R_alloc|apply Kd.R_drewN|apply Kd.R_drew));exact HO_6.out) hg (.inl rfl));have n2_:=Aside0.mk (hp_);have n3_:=Aside0.mk ((by rw [hw];exact below_set (HB.out) GB29.out:Below w.heap.size w w31));clear HO_5;clear HO_6;clear HO_7;clear HB;have HO_5:=n0_;have HO_6:=n1_;have HO_7:=n2_;have HB:=n3_;clear n0_ n1_ n2_ n3_;clear hg hw hp_))
                      repeat (go_quiet (first|((with_reducible refine gate_store (t:=102) (p:=70) rfl ?_);(try (rw [drewN_self wr];generalize hq_:World.drewN wr _=wr;have n0_:=Aside0.mk (Kd.R_at hq_ HO_5.out);have n1_:=Aside0.mk (Kd.R_at hq_ HO_6.out);have n2_:=Aside0.mk (Kd.R_at hq_ HO_7.out);have n3_:=Aside0.mk (below_at hq_ HB.out);clear hq_ HO_5 HO_6 HO_7 HB;have HO_5:=n0_;have HO_6:=n1_;have HO_7:=n2_;have HB:=n3_;clear n0_ n1_ n2_ n3_;(try (have HP30:=Kd.R_putg HO_7.out ((ji26):Int) ((x9_2)%4294967296)))));refine store_event (t:=102) (p:=70) (v:=?vo_w31) (w1:=(wr.setCell ⟨go29,((ji26):Int).toNat,none⟩ (.int .u32 ((x9_2)%4294967296)))) ?hg ?ho ?hn ?hr ?_;(case ho=>rfl);(case hg=>rfl);(case hn=>rfl);(case hr=>first|(go_simp;done)|(go_simp;rfl));intro w31 hw;have hg:wr.grownBy w31 (some go29):=(by rw [hw];exact HP30.2);have hp_:Kd.R (Kd.int .u32) 102 w31 w.heap.size (fun k_=>some k_≠(.slice Ao10 t187.length co10:Value).ownBlock∧some k_≠(.slice Ao11 t190.length co11:Value).ownBlock) (.slice (some ⟨go29,0,none⟩) x7_2.length co29) y206:=(by rw [hw,Ny206.out];exact HP30.1);clear HP30;have n0_:=Aside0.mk (Kd.R_after (v:=(.slice (some ⟨go29,0,none⟩) x7_2.length co29)) (v1:=(.slice (some ⟨go29,0,none⟩) x7_2.length co29)) (ok:=(fun k_=>some k_≠(.slice Ao11 t190.length co11:Value).ownBlock)) (by (with_reducible repeat (first|apply Kd.R_alloc|apply Kd.R_drewN|apply Kd.R_drew));exact HO_5.out) hg (.inl rfl));have n1_:=Aside0.mk (Kd.R_after (v:=(.slice (some ⟨go29,0,none⟩) x7_2.length co29)) (v1:=(.slice (some ⟨go29,0,none⟩) x7_2.length co29)) (ok:=(fun k_=>some k_≠(.slice Ao10 t187.length co10:Value).ownBlock)) (by (with_reducible repeat (first|apply Kd.R_alloc|apply Kd.R_drewN|apply Kd.R_drew));exact HO_6.out) hg (.inl rfl));have n2_:=Aside0.mk (hp_);have n3_:=Aside0.mk ((by rw [hw];exact below_set (HB.out) GB29.out:Below w.heap.size w w31));clear HO_5;clear HO_6;clear HO_7;clear HB;have HO_5:=n0_;have HO_6:=n1_;have HO_7:=n2_;have HB:=n3_;clear n0_ n1_ n2_ n3_;clear hg hw hp_));try go_wp2_with (first|((with_reducible refine gate_store (t:=102) (p:=70) rfl ?_);(try (rw [drewN_self wr];generalize hq_:World.drewN wr _=wr;have n0_:=Aside0.mk (Kd.R_at hq_ HO_5.out);have n1_:=Aside0.mk (Kd.R_at hq_ HO_6.out);have n2_:=Aside0.mk (Kd.R_at hq_ HO_7.out);have n3_:=Aside0.mk (below_at hq_ HB.out);clear hq_ HO_5 HO_6 HO_7 HB;have HO_5:=n0_;have HO_6:=n1_;have HO_7:=n2_;have HB:=n3_;clear n0_ n1_ n2_ n3_;(try (have HP30:=Kd.R_putg HO_7.out ((ji26):Int) ((x9_2)%4294967296)))));refine store_event (t:=102) (p:=70) (v:=?vo_w31) (w1:=(wr.setCell ⟨go29,((ji26):Int).toNat,none⟩ (.int .u32 ((x9_2)%4294967296)))) ?hg ?ho ?hn ?hr ?_;(case ho=>rfl);(case hg=>rfl);(case hn=>rfl);(case hr=>first|(go_simp;done)|(go_simp;rfl));intro w31 hw;have hg:wr.grownBy w31 (some go29):=(by rw [hw];exact HP30.2);have hp_:Kd.R (Kd.int .u32) 102 w31 w.heap.size (fun k_=>some k_≠(.slice Ao10 t187.length co10:Value).ownBlock∧some k_≠(.slice Ao11 t190.length co11:Value).ownBlock) (.slice (some ⟨go29,0,none⟩) x7_2.length co29) y206:=(by rw [hw,Ny206.out];exact HP30.1);clear HP30;have n0_:=Aside0.mk (Kd.R_after (v:=(.slice (some ⟨go29,0,none⟩) x7_2.length co29)) (v1:=(.slice (some ⟨go29,0,none⟩) x7_2.length co29)) (ok:=(fun k_=>some k_≠(.slice Ao11 t190.length co11:Value).ownBlock)) (by (with_reducible repeat (first|apply Kd.R_alloc|apply Kd.R_drewN|apply Kd.R_drew));exact HO_5.out) hg (.inl rfl));have n1_:=Aside0.mk (Kd.R_after (v:=(.slice (some ⟨go29,0,none⟩) x7_2.length co29)) (v1:=(.slice (some ⟨go29,0,none⟩) x7_2.length co29)) (ok:=(fun k_=>some k_≠(.slice Ao10 t187.length co10:Value).ownBlock)) (by (with_reducible repeat (first|apply Kd.R_alloc|apply Kd.R_drewN|apply Kd.R_drew));exact HO_6.out) hg (.inl rfl));have n2_:=Aside0.mk (hp_);have n3_:=Aside0.mk ((by rw [hw];exact below_set (HB.out) GB29.out:Below w.heap.size w w31));clear HO_5;clear HO_6;clear HO_7;clear HB;have HO_5:=n0_;have HO_6:=n1_;have HO_7:=n2_;have HB:=n3_;clear n0_ n1_ n2_ n3_;clear hg hw hp_)))
                      go_roundg k2
                      case measure=>have:=HK1.out;have:=HK2.out;omega
                      case rel=>exact ⟨(y206),(wrap64 (x8_1+1)),(by first|rfl|(simp;done)|(simp [*];done)),H',⟨by have:=HK1.out;have:=HK2.out;omega⟩,⟨by (with_reducible repeat (first|apply Kd.R_alloc|apply Kd.R_drewN|apply Kd.R_drew));exact HO_5.out⟩,⟨by (with_reducible repeat (first|apply Kd.R_alloc|apply Kd.R_drewN|apply Kd.R_drew));exact HO_6.out⟩,⟨by (with_reducible repeat (first|apply Kd.R_alloc|apply Kd.R_drewN|apply Kd.R_drew));exact HO_7.out⟩,⟨by repeat (first|(with_reducible first|exact HB.out|apply below_alloc|apply pw_below_drewN|apply below_drew1)|exact HB.out)⟩⟩
                    · rw [if_neg c28] at H
                      exact absurd H (by simp)
                  · rw [if_neg c27] at H
                    exact absurd H (by simp)
          · rw [if_neg c14] at H
            have c14b0:decide (x8_1<(t187.length:Int))=false:=decide_eq_false c14
            clear c14
            replace H:=Option.bind_eq_some_iff.mp H
            obtain ⟨t196,A320,H⟩:=H
            replace H:((gimbalref90_whole.f k1 t196).bind fun t199=>(some t199))=some r:=H
            have A32:=Aside0.mk A320
            clear A320
            replace H:=Option.bind_eq_some_iff.mp H
            obtain ⟨t199,A330,H⟩:=H
            replace H:(some t199)=some r:=H
            have A33:=Aside0.mk A330
            clear A330
            obtain rfl:=Option.some.inj H
            obtain ⟨Ao34,co34,eo34⟩:=Kd.R_slice HO_7.out
            subst eo34
            go_wp2_with (first|(go_at_call 103;(with_reducible refine (gimbalref90_cut.calls k1 (fun k_=>some k_=(.slice Ao34 x7_1.length co34:Value).ownBlock) (.slice Ao34 x7_1.length co34) x7_1 t196 w _ ?side1 ?side2 A32.out).mono ?_);(case side1=>repeat (first|(with_reducible first|exact HB.out|apply below_alloc|apply pw_below_drewN|apply below_drew1)|exact HB.out));(case side2=>exact Kd.R_tight rfl HO_7.out);rintro e w35 ⟨v197,rfl,ho0,hb,hkp⟩;have n0_:=Aside0.mk (Kd.R_mono (ok':=fun k_=>some k_≠(.slice Ao11 t190.length co11:Value).ownBlock∧some k_≠(v197:Value).ownBlock) (Kd.R_keptB (HO_5.out) hkp (fun k_ hk_ hs_=>(hk_.2) hs_)) (fun k_ hk_=>⟨hk_.1.1,fun e_=>Or.elim (ho0.1 k_ e_.symm) (fun hs_=>hk_.2.1 hs_) (fun hn_=>Nat.not_le.2 hk_.2.2 hn_)⟩));have n1_:=Aside0.mk (Kd.R_mono (ok':=fun k_=>some k_≠(.slice Ao10 t187.length co10:Value).ownBlock∧some k_≠(v197:Value).ownBlock) (Kd.R_keptB (HO_6.out) hkp (fun k_ hk_ hs_=>(hk_.2) hs_)) (fun k_ hk_=>⟨hk_.1.1,fun e_=>Or.elim (ho0.1 k_ e_.symm) (fun hs_=>hk_.2.1 hs_) (fun hn_=>Nat.not_le.2 hk_.2.2 hn_)⟩));have n2_:=Aside0.mk (Kd.R_mono (ok':=fun k_=>some k_≠(.slice Ao10 t187.length co10:Value).ownBlock∧some k_≠(.slice Ao11 t190.length co11:Value).ownBlock) ho0 (fun k_ hk_=>⟨Or.elim hk_ (fun hs_=>fun e_=>(((HO_5.out).1 k_ e_.symm).2) hs_) (fun hn_=>(Kd.fresh' (Kd.R_lt (by (with_reducible repeat (first|apply Kd.R_alloc|apply Kd.R_drewN|apply Kd.R_drew));exact HO_5.out)) k_ hn_)),Or.elim hk_ (fun hs_=>fun e_=>(((HO_6.out).1 k_ e_.symm).2) hs_) (fun hn_=>(Kd.fresh' (Kd.R_lt (by (with_reducible repeat (first|apply Kd.R_alloc|apply Kd.R_drewN|apply Kd.R_drew));exact HO_6.out)) k_ hn_))⟩));have n3_:=Aside0.mk (hb);clear HO_5;clear HO_6;clear HB;clear HO_7;have HO_5:=n0_;have HO_6:=n1_;have HO198:=n2_;have HB:=n3_;clear n0_ n1_ n2_ n3_;(try clear hb);(try clear hkp);(try clear ho0);obtain ⟨Ao36,co36,eo36⟩:=Kd.R_slice HO198.out;subst eo36)|(go_at_call 102;(with_reducible refine (gimbalref90_whole.calls k1 _ _ t196 t199 _ ?side1 ?side2 A33.out).mono ?_);(case side1=>repeat (first|exact (Kd.R_reads' HO198.out).2.2|(with_reducible refine Kd.C_alloc ?_ _)|(with_reducible refine Kd.C_drewN ?_ _)|(with_reducible refine Kd.C_drew ?_)));(case side2=>exact (Kd.R_reads' HO198.out).2.1);rintro e w37 ⟨v200,rfl,ho0,hb⟩;have n0_:=Aside0.mk (Kd.R_below (by (with_reducible repeat (first|apply Kd.R_alloc|apply Kd.R_drewN|apply Kd.R_drew));exact HO_5.out) hb);have n1_:=Aside0.mk (Kd.R_below (by (with_reducible repeat (first|apply Kd.R_alloc|apply Kd.R_drewN|apply Kd.R_drew));exact HO_6.out) hb);have n2_:=Aside0.mk (Kd.R_below (by (with_reducible repeat (first|apply Kd.R_alloc|apply Kd.R_drewN|apply Kd.R_drew));exact HO198.out) hb);have n3_:=Aside0.mk (Kd.R_lower ho0 (below_size (by repeat (first|(with_reducible first|exact HB.out|apply below_alloc|apply pw_below_drewN|apply below_drew1)|exact HB.out))));have n4_:=Aside0.mk (below_step (by repeat (first|(with_reducible first|exact HB.out|apply below_alloc|apply pw_below_drewN|apply below_drew1)|exact HB.out)) hb);clear HO_5;clear HO_6;clear HO198;clear HB;have HO_5:=n0_;have HO_6:=n1_;have HO198:=n2_;have HO201:=n3_;have HB:=n4_;clear n0_ n1_ n2_ n3_ n4_;(try clear hb);(try clear hb2);(try clear hk);(try clear hi);(try clear ho0)))
            repeat (go_quiet (first|(go_at_call 103;(with_reducible refine (gimbalref90_cut.calls k1 (fun k_=>some k_=(.slice Ao34 x7_1.length co34:Value).ownBlock) (.slice Ao34 x7_1.length co34) x7_1 t196 w _ ?side1 ?side2 A32.out).mono ?_);(case side1=>repeat (first|(with_reducible first|exact HB.out|apply below_alloc|apply pw_below_drewN|apply below_drew1)|exact HB.out));(case side2=>exact Kd.R_tight rfl HO_7.out);rintro e w35 ⟨v197,rfl,ho0,hb,hkp⟩;have n0_:=Aside0.mk (Kd.R_mono (ok':=fun k_=>some k_≠(.slice Ao11 t190.length co11:Value).ownBlock∧some k_≠(v197:Value).ownBlock) (Kd.R_keptB (HO_5.out) hkp (fun k_ hk_ hs_=>(hk_.2) hs_)) (fun k_ hk_=>⟨hk_.1.1,fun e_=>Or.elim (ho0.1 k_ e_.symm) (fun hs_=>hk_.2.1 hs_) (fun hn_=>Nat.not_le.2 hk_.2.2 hn_)⟩));have n1_:=Aside0.mk (Kd.R_mono (ok':=fun k_=>some k_≠(.slice Ao10 t187.length co10:Value).ownBlock∧some k_≠(v197:Value).ownBlock) (Kd.R_keptB (HO_6.out) hkp (fun k_ hk_ hs_=>(hk_.2) hs_)) (fun k_ hk_=>⟨hk_.1.1,fun e_=>Or.elim (ho0.1 k_ e_.symm) (fun hs_=>hk_.2.1 hs_) (fun hn_=>Nat.not_le.2 hk_.2.2 hn_)⟩));have n2_:=Aside0.mk (Kd.R_mono (ok':=fun k_=>some k_≠(.slice Ao10 t187.length co10:Value).ownBlock∧some k_≠(.slice Ao11 t190.length co11:Value).ownBlock) ho0 (fun k_ hk_=>⟨Or.elim hk_ (fun hs_=>fun e_=>(((HO_5.out).1 k_ e_.symm).2) hs_) (fun hn_=>(Kd.fresh' (Kd.R_lt (by (with_reducible repeat (first|apply Kd.R_alloc|apply Kd.R_drewN|apply Kd.R_drew));exact HO_5.out)) k_ hn_)),Or.elim hk_ (fun hs_=>fun e_=>(((HO_6.out).1 k_ e_.symm).2) hs_) (fun hn_=>(Kd.fresh' (Kd.R_lt (by (with_reducible repeat (first|apply Kd.R_alloc|apply Kd.R_drewN|apply Kd.R_drew));exact HO_6.out)) k_ hn_))⟩));have n3_:=Aside0.mk (hb);clear HO_5;clear HO_6;clear HB;clear HO_7;have HO_5:=n0_;have HO_6:=n1_;have HO198:=n2_;have HB:=n3_;clear n0_ n1_ n2_ n3_;(try clear hb);(try clear hkp);(try clear ho0);obtain ⟨Ao36,co36,eo36⟩:=Kd.R_slice HO198.out;subst eo36)|(go_at_call 102;(with_reducible refine (gimbalref90_whole.calls k1 _ _ t196 t199 _ ?side1 ?side2 A33.out).mono ?_);(case side1=>repeat (first|exact (Kd.R_reads' HO198.out).2.2|(with_reducible refine Kd.C_alloc ?_ _)|(with_reducible refine Kd.C_drewN ?_ _)|(with_reducible refine Kd.C_drew ?_)));(case side2=>exact (Kd.R_reads' HO198.out).2.1);rintro e w37 ⟨v200,rfl,ho0,hb⟩;have n0_:=Aside0.mk (Kd.R_below (by (with_reducible repeat (first|apply Kd.R_alloc|apply Kd.R_drewN|apply Kd.R_drew));exact HO_5.out) hb);have n1_:=Aside0.mk (Kd.R_below (by (with_reducible repeat (first|apply Kd.R_alloc|apply Kd.R_drewN|apply Kd.R_drew));exact HO_6.out) hb);have n2_:=Aside0.mk (Kd.R_below (by (with_reducible repeat (first|apply Kd.R_alloc|apply Kd.R_drewN|apply Kd.R_drew));exact HO198.out) hb);have n3_:=Aside0.mk (Kd.R_lower ho0 (below_size (by repeat (first|(with_reducible first|exact HB.out|apply below_alloc|apply pw_below_drewN|apply below_drew1)|exact HB.out))));have n4_:=Aside0.mk (below_step (by repeat (first|(with_reducible first|exact HB.out|apply below_alloc|apply pw_below_drewN|apply below_drew1)|exact HB.out)) hb);clear HO_5;clear HO_6;clear HO198;clear HB;have HO_5:=n0_;have HO_6:=n1_;have HO198:=n2_;have HO201:=n3_;have HB:=n4_;clear n0_ n1_ n2_ n3_ n4_;(try clear hb);(try clear hb2);(try clear hk);(try clear hi);(try clear ho0)));try go_wp2_with (first|(go_at_call 103;(with_reducible refine (gimbalref90_cut.calls k1 (fun k_=>some k_=(.slice Ao34 x7_1.length co34:Value).ownBlock) (.slice Ao34 x7_1.length co34) x7_1 t196 w _ ?side1 ?side2 A32.out).mono ?_);(case side1=>repeat (first|(with_reducible first|exact HB.out|apply below_alloc|apply pw_below_drewN|apply below_drew1)|exact HB.out));(case side2=>exact Kd.R_tight rfl HO_7.out);rintro e w35 ⟨v197,rfl,ho0,hb,hkp⟩;have n0_:=Aside0.mk (Kd.R_mono (ok':=fun k_=>some k_≠(.slice Ao11 t190.length co11:Value).ownBlock∧some k_≠(v197:Value).ownBlock) (Kd.R_keptB (HO_5.out) hkp (fun k_ hk_ hs_=>(hk_.2) hs_)) (fun k_ hk_=>⟨hk_.1.1,fun e_=>Or.elim (ho0.1 k_ e_.symm) (fun hs_=>hk_.2.1 hs_) (fun hn_=>Nat.not_le.2 hk_.2.2 hn_)⟩));have n1_:=Aside0.mk (Kd.R_mono (ok':=fun k_=>some k_≠(.slice Ao10 t187.length co10:Value).ownBlock∧some k_≠(v197:Value).ownBlock) (Kd.R_keptB (HO_6.out) hkp (fun k_ hk_ hs_=>(hk_.2) hs_)) (fun k_ hk_=>⟨hk_.1.1,fun e_=>Or.elim (ho0.1 k_ e_.symm) (fun hs_=>hk_.2.1 hs_) (fun hn_=>Nat.not_le.2 hk_.2.2 hn_)⟩));have n2_:=Aside0.mk (Kd.R_mono (ok':=fun k_=>some k_≠(.slice Ao10 t187.length co10:Value).ownBlock∧some k_≠(.slice Ao11 t190.length co11:Value).ownBlock) ho0 (fun k_ hk_=>⟨Or.elim hk_ (fun hs_=>fun e_=>(((HO_5.out).1 k_ e_.symm).2) hs_) (fun hn_=>(Kd.fresh' (Kd.R_lt (by (with_reducible repeat (first|apply Kd.R_alloc|apply Kd.R_drewN|apply Kd.R_drew));exact HO_5.out)) k_ hn_)),Or.elim hk_ (fun hs_=>fun e_=>(((HO_6.out).1 k_ e_.symm).2) hs_) (fun hn_=>(Kd.fresh' (Kd.R_lt (by (with_reducible repeat (first|apply Kd.R_alloc|apply Kd.R_drewN|apply Kd.R_drew));exact HO_6.out)) k_ hn_))⟩));have n3_:=Aside0.mk (hb);clear HO_5;clear HO_6;clear HB;clear HO_7;have HO_5:=n0_;have HO_6:=n1_;have HO198:=n2_;have HB:=n3_;clear n0_ n1_ n2_ n3_;(try clear hb);(try clear hkp);(try clear ho0);obtain ⟨Ao36,co36,eo36⟩:=Kd.R_slice HO198.out;subst eo36)|(go_at_call 102;(with_reducible refine (gimbalref90_whole.calls k1 _ _ t196 t199 _ ?side1 ?side2 A33.out).mono ?_);(case side1=>repeat (first|exact (Kd.R_reads' HO198.out).2.2|(with_reducible refine Kd.C_alloc ?_ _)|(with_reducible refine Kd.C_drewN ?_ _)|(with_reducible refine Kd.C_drew ?_)));(case side2=>exact (Kd.R_reads' HO198.out).2.1);rintro e w37 ⟨v200,rfl,ho0,hb⟩;have n0_:=Aside0.mk (Kd.R_below (by (with_reducible repeat (first|apply Kd.R_alloc|apply Kd.R_drewN|apply Kd.R_drew));exact HO_5.out) hb);have n1_:=Aside0.mk (Kd.R_below (by (with_reducible repeat (first|apply Kd.R_alloc|apply Kd.R_drewN|apply Kd.R_drew));exact HO_6.out) hb);have n2_:=Aside0.mk (Kd.R_below (by (with_reducible repeat (first|apply Kd.R_alloc|apply Kd.R_drewN|apply Kd.R_drew));exact HO198.out) hb);have n3_:=Aside0.mk (Kd.R_lower ho0 (below_size (by repeat (first|(with_reducible first|exact HB.out|apply below_alloc|apply pw_below_drewN|apply below_drew1)|exact HB.out))));have n4_:=Aside0.mk (below_step (by repeat (first|(with_reducible first|exact HB.out|apply below_alloc|apply pw_below_drewN|apply below_drew1)|exact HB.out)) hb);clear HO_5;clear HO_6;clear HO198;clear HB;have HO_5:=n0_;have HO_6:=n1_;have HO198:=n2_;have HO201:=n3_;have HB:=n4_;clear n0_ n1_ n2_ n3_ n4_;(try clear hb);(try clear hb2);(try clear hk);(try clear hi);(try clear ho0))))
            go_ret
            exact ⟨_,by first|rfl|(simp [errW_none,errW_some]<;>rfl)|(simp only [← hji5];first|rfl|(simp [errW_none,errW_some]<;>rfl))|(simp [*,errW_none,errW_some]<;>rfl),by (with_reducible repeat (first|apply Kd.R_alloc|apply Kd.R_drewN|apply Kd.R_drew));exact HO201.out,by repeat (first|(with_reducible first|exact HB.out|apply below_alloc|apply pw_below_drewN|apply below_drew1)|exact HB.out)⟩
    · rw [if_neg c7] at H
      exact absurd H (by simp)
  · rw [if_neg c6] at H
    exact absurd H (by simp)
def gimbalref90_NOf.f (k:Nat) (a0:Int):Option (List Int):=(gimbalref90_NTrim.f k (([a0]:List Int))).bind fun t210=>(some t210)
set_option maxHeartbeats 8000000 in
set_option maxRecDepth 100000 in
theorem gimbalref90_NOf.calls (k:Nat) (a0:Int) (r:List Int) (w:World) (h:gimbalref90_NOf.f k a0=some r) :
    Calls Try.prog 66 #[.int .u64 a0] w fun e w'=>∃ v0_:Value,e = .returned (v0_)∧Kd.R (Kd.int .u64) 76 w' w.heap.size (fun _=>True) v0_ r∧Below w.heap.size w w':=by
  have HB:=Aside0.mk (Below.refl w.heap.size w)
  have H:((gimbalref90_NTrim.f k (([a0]:List Int))).bind fun t210=>(some t210))=some r:=h
  clear h
  obtain ⟨y207,hy207⟩:∃ y_:List Int,y_=(([a0]:List Int)):=⟨_,rfl⟩
  replace H:((gimbalref90_NTrim.f k y207).bind fun t210=>(some t210))=some r:=by first|(rw [hy207];with_reducible exact H)|(have H2_:=(Option.bind_some _ _).symm.trans H;rw [hy207];with_reducible exact H2_)|(have H2_:=(Option.bind_some _ _).symm.trans H;with_reducible exact H2_)|with_reducible exact H|(rw [hy207];exact H)|exact H
  have Ny207:=Aside0.mk hy207
  clear hy207
  replace H:=Option.bind_eq_some_iff.mp H
  obtain ⟨t210,A20,H⟩:=H
  replace H:(some t210)=some r:=H
  have A2:=Aside0.mk A20
  clear A20
  obtain rfl:=Option.some.inj H
  go_enter Try.func66,Try.ntmps66
  go_wp2_with (first|((with_reducible refine gate_dst (N:=4) rfl ?_);refine Kd.R_lit (Kd.int .u64) _ 76 ?hg (N:=4) ?hd (xs:=([a0]:List Int)) (inner:=[.int .u64 a0]) (ok:=fun _=>True) (okp:=fun _=>True) ?hr ?hp (fun _ hk=>hk) trivial (Below.refl _ _) (Nat.le_refl _) (by simp) ?_;(case hd=>rfl);(case hg=>rfl);(case hr=>first|(go_simp;done)|(go_simp;rfl));(case hp=>exact (Reps.one (show Kd.M (Kd.int .u64) _ _ _ a0 [.int .u64 a0] from rfl) (Reps.none _ _)));intro v208 w3 ho4 hb hg_ hnew_;clear hg_ hnew_;(first|rw [← Ny207.out] at ho4|(simp only [Int.reduceToNat] at ho4;rw [← Ny207.out] at ho4));have n0_:=Aside0.mk (Kd.R_lower ho4 (below_size (by repeat (first|(with_reducible first|exact HB.out|apply below_alloc|apply pw_below_drewN|apply below_drew1)|exact HB.out))));have n1_:=Aside0.mk (below_step (by repeat (first|(with_reducible first|exact HB.out|apply below_alloc|apply pw_below_drewN|apply below_drew1)|exact HB.out)) hb);clear HB;have HO209:=n0_;have HB:=n1_;clear n0_ n1_;clear hb ho4;obtain ⟨Ao5,co5,eo5⟩:=Kd.R_slice HO209.out;subst eo5)|((with_reducible refine gate_callee (f:=104) rfl ?_);refine goesL_ (some 5) rfl rfl Try.func104 (by kernel_rfl) rfl #[.slice Ao5 y207.length co5] rfl (by (try simp only [List.map_toArray,List.map_cons,List.map_nil]);first|done|rfl|(simp only [List.length_drop,List.length_take];rfl)) ?_;(with_reducible refine (gimbalref90_NTrim.calls k (fun k_=>some k_=(.slice Ao5 y207.length co5:Value).ownBlock) (.slice Ao5 y207.length co5) y207 t210 w _ ?side1 ?side2 A2.out).mono ?_);(case side1=>repeat (first|(with_reducible first|exact HB.out|apply below_alloc|apply pw_below_drewN|apply below_drew1)|exact HB.out));(case side2=>exact Kd.R_tight rfl HO209.out);rintro e w6 ⟨v211,rfl,ho0,hb,hkp⟩;refine ⟨_,rfl,?_⟩;have n0_:=Aside0.mk (Kd.R_mono (ok':=fun k_=>True) ho0 (fun k_ hk_=>trivial));have n1_:=Aside0.mk (hb);clear HB;clear HO209;have HO212:=n0_;have HB:=n1_;clear n0_ n1_;(try clear hb);(try clear hkp);(try clear ho0)))
  go_ret
  exact ⟨_,by first|rfl|(simp [errW_none,errW_some]<;>rfl)|(simp [*,errW_none,errW_some]<;>rfl),by (with_reducible repeat (first|apply Kd.R_alloc|apply Kd.R_drewN|apply Kd.R_drew));exact HO212.out,by repeat (first|(with_reducible first|exact HB.out|apply below_alloc|apply pw_below_drewN|apply below_drew1)|exact HB.out)⟩
end Go.Proofs.Ythokdnheijnmmaa.QN90
end
section
namespace Go.Proofs.Ythokdnheijnmmaa.QN90
open Go.RowKit Go.Proofs.YthokdnheijnmmaaW.PrintWords Go.Proofs.YthokdnheijnmmaaW.PrintLast Go.Proofs.YthokdnheijnmmaaW.PrintMore
attribute [local go_sem] max2_int min2_int max_two min_two max_three min_three max_four min_four   -- for this text's walks alone
set_option linter.unusedVariables false
set_option linter.unusedSimpArgs false
def gimbalref90_NCmp.l0:Nat→List Int→List Int→Int→Option (Int)
  | 0,_,_,_=>none
  | k+1,x0,x1,x5=>if x5≥0 then (if 0≤x5 then (if x5<(x0.length:Int) then (if x5<(x1.length:Int) then (if (rd x0 x5)<(rd x1 x5) then (some (-1)) else (if (rd x0 x5)>(rd x1 x5) then (some 1) else (gimbalref90_NCmp.l0 k x0 x1 (wrap64 (x5-1))))) else (none)) else (none)) else (none)) else (some 0)
def gimbalref90_NCmp.f (k:Nat) (l0:List Int) (l1:List Int):Option (Int):=if (l0.length:Int)=(l1.length:Int) then (gimbalref90_NCmp.l0 k l0 l1 (wrap64 ((l0.length:Int)-1))) else (if (l0.length:Int)<(l1.length:Int) then (some (-1)) else (some 1))
set_option maxHeartbeats 8000000 in
set_option maxRecDepth 100000 in
theorem gimbalref90_NCmp.calls (k:Nat) (A0:Option Addr) (c0:Nat) (l0:List Int) (A1:Option Addr) (c1:Nat) (l1:List Int) (r:Int) (w:World) (hr0:Kd.C (Kd.int .u64) w A0 l0.length l0) (hc0:l0.length≤c0) (hr1:Kd.C (Kd.int .u64) w A1 l1.length l1) (hc1:l1.length≤c1) (h:gimbalref90_NCmp.f k l0 l1=some r) :
    Calls Try.prog 69 #[.slice A0 l0.length c0,.slice A1 l1.length c1] w fun e w'=>e = .returned (.int .i64 r)∧Drawn0 w w':=by
  have HR0:=Aside0.mk hr0
  have HC0:=Aside0.mk hc0
  clear hr0 hc0
  have HR1:=Aside0.mk hr1
  have HC1:=Aside0.mk hc1
  clear hr1 hc1
  have H:(if (l0.length:Int)=(l1.length:Int) then (gimbalref90_NCmp.l0 k l0 l1 (wrap64 ((l0.length:Int)-1))) else (if (l0.length:Int)<(l1.length:Int) then (some (-1)) else (some 1)))=some r:=h
  clear h
  by_cases c3:(l0.length:Int)=(l1.length:Int)
  · rw [if_pos c3] at H
    have c3b0:((l0.length:Int) == (l1.length:Int))=true:=beq_iff_eq.mpr c3
    have c3b1:((l0.length:Int) != (l1.length:Int))=false:=bne_eq_false_iff_eq.mpr c3
    have c3b2:(l0.length == l1.length)=true:=by first|simpa using c3|(simp at c3 ⊢;omega)
    clear c3
    have H':=Aside0.mk H
    clear H
    go_enter Try.func69,Try.ntmps69
    go_wp2
    repeat (go_quiet (fail);try go_wp2)
    go_loopg [5] k (fun kq v5 w'=>∃ (x5_1:Int),v5 = .int .i64 x5_1∧Aside0 (gimbalref90_NCmp.l0 kq l0 l1 x5_1=some r)∧Aside0 (kq≤k)∧Drawn0 w w')
    case atStart=>exact ⟨(wrap64 ((l0.length:Int)-1)),(by first|rfl|(simp;done)|(simp [*];done)),H',⟨Nat.le_refl _⟩,by repeat (first|exact Drawn0.refl _|apply Drawn0.step)⟩
    case round =>
      clear H'
      try clear c1
      try clear p2
      try clear c3
      try clear c3b0
      try clear c3b1
      try clear c3b2
      obtain ⟨x5_1,rfl,HA,HK1,⟨m1,rfl⟩⟩:=hrel
      cases gk with
      | zero=>exact absurd HA.out (by simp [gimbalref90_NCmp.l0])
      | succ k1 =>
        have H:=HA.out
        clear HA
        simp only [gimbalref90_NCmp.l0] at H
        by_cases c4:x5_1≥0
        · rw [if_pos c4] at H
          have c4b0:decide (0≤x5_1)=true:=decide_eq_true c4
          clear c4
          by_cases c5:0≤x5_1
          · rw [if_pos c5] at H
            have c5b0:decide (0≤x5_1)=true:=decide_eq_true c5
            clear c5
            by_cases c6:x5_1<(l0.length:Int)
            · rw [if_pos c6] at H
              have c6b0:decide (x5_1<(l0.length:Int))=true:=decide_eq_true c6
              clear c6
              by_cases c7:x5_1<(l1.length:Int)
              · rw [if_pos c7] at H
                have c7b0:decide (x5_1<(l1.length:Int))=true:=decide_eq_true c7
                clear c7
                by_cases c8:(rd l0 x5_1)<(rd l1 x5_1)
                · rw [if_pos c8] at H
                  have c8b0:decide ((rd l0 x5_1)<(rd l1 x5_1))=true:=decide_eq_true c8
                  clear c8
                  obtain rfl:=Option.some.inj H
                  have p213:0≤(x5_1:Int):=of_decide_eq_true (by first|(with_reducible assumption)|assumption)
                  have q213:x5_1<(l0.length:Int):=of_decide_eq_true (by first|(with_reducible assumption)|assumption)
                  obtain ⟨ad213,e213,hx213_0⟩:=Kd.at_int HR0.out x5_1 p213 q213
                  cases e213
                  replace p213:=eq_true p213
                  replace q213:=eq_true q213
                  have p214:0≤(x5_1:Int):=of_decide_eq_true (by first|(with_reducible assumption)|assumption)
                  have q214:x5_1<(l1.length:Int):=of_decide_eq_true (by first|(with_reducible assumption)|assumption)
                  obtain ⟨ad214,e214,hx214_0⟩:=Kd.at_int HR1.out x5_1 p214 q214
                  cases e214
                  replace p214:=eq_true p214
                  replace q214:=eq_true q214
                  go_wp2
                  repeat (go_quiet (fail);try go_wp2)
                  go_ret
                  exact ⟨by first|rfl|(simp;done)|(simp [*];done),by repeat (first|exact Drawn0.refl _|apply Drawn0.step)⟩
                · rw [if_neg c8] at H
                  have c8b0:decide ((rd l0 x5_1)<(rd l1 x5_1))=false:=decide_eq_false c8
                  clear c8
                  by_cases c9:(rd l0 x5_1)>(rd l1 x5_1)
                  · rw [if_pos c9] at H
                    have c9b0:decide ((rd l1 x5_1)<(rd l0 x5_1))=true:=decide_eq_true c9
                    clear c9
                    obtain rfl:=Option.some.inj H
                    have p213:0≤(x5_1:Int):=of_decide_eq_true (by first|(with_reducible assumption)|assumption)
                    have q213:x5_1<(l0.length:Int):=of_decide_eq_true (by first|(with_reducible assumption)|assumption)
                    obtain ⟨ad213,e213,hx213_0⟩:=Kd.at_int HR0.out x5_1 p213 q213
                    cases e213
                    replace p213:=eq_true p213
                    replace q213:=eq_true q213
                    have p214:0≤(x5_1:Int):=of_decide_eq_true (by first|(with_reducible assumption)|assumption)
                    have q214:x5_1<(l1.length:Int):=of_decide_eq_true (by first|(with_reducible assumption)|assumption)
                    obtain ⟨ad214,e214,hx214_0⟩:=Kd.at_int HR1.out x5_1 p214 q214
                    cases e214
                    replace p214:=eq_true p214
                    replace q214:=eq_true q214
                    have p215:0≤(x5_1:Int):=of_decide_eq_true (by first|(with_reducible assumption)|assumption)
                    have q215:x5_1<(l0.length:Int):=of_decide_eq_true (by first|(with_reducible assumption)|assumption)
                    obtain ⟨ad215,e215,hx215_0⟩:=Kd.at_int HR0.out x5_1 p215 q215
                    obtain rfl:ad213=ad215:=(by injection e215)
                    replace p215:=eq_true p215
                    replace q215:=eq_true q215
                    have p216:0≤(x5_1:Int):=of_decide_eq_true (by first|(with_reducible assumption)|assumption)
                    have q216:x5_1<(l1.length:Int):=of_decide_eq_true (by first|(with_reducible assumption)|assumption)
                    obtain ⟨ad216,e216,hx216_0⟩:=Kd.at_int HR1.out x5_1 p216 q216
                    obtain rfl:ad214=ad216:=(by injection e216)
                    replace p216:=eq_true p216
                    replace q216:=eq_true q216
                    go_wp2
                    repeat (go_quiet (fail);try go_wp2)
                    go_ret
                    exact ⟨by first|rfl|(simp;done)|(simp [*];done),by repeat (first|exact Drawn0.refl _|apply Drawn0.step)⟩
                  · rw [if_neg c9] at H
                    have c9b0:decide ((rd l1 x5_1)<(rd l0 x5_1))=false:=decide_eq_false c9
                    clear c9
                    have H':=Aside0.mk H
                    clear H
                    have p213:0≤(x5_1:Int):=of_decide_eq_true (by first|(with_reducible assumption)|assumption)
                    have q213:x5_1<(l0.length:Int):=of_decide_eq_true (by first|(with_reducible assumption)|assumption)
                    obtain ⟨ad213,e213,hx213_0⟩:=Kd.at_int HR0.out x5_1 p213 q213
                    cases e213
                    replace p213:=eq_true p213
                    replace q213:=eq_true q213
                    have p214:0≤(x5_1:Int):=of_decide_eq_true (by first|(with_reducible assumption)|assumption)
                    have q214:x5_1<(l1.length:Int):=of_decide_eq_true (by first|(with_reducible assumption)|assumption)
                    obtain ⟨ad214,e214,hx214_0⟩:=Kd.at_int HR1.out x5_1 p214 q214
                    cases e214
                    replace p214:=eq_true p214
                    replace q214:=eq_true q214
                    have p215:0≤(x5_1:Int):=of_decide_eq_true (by first|(with_reducible assumption)|assumption)
                    have q215:x5_1<(l0.length:Int):=of_decide_eq_true (by first|(with_reducible assumption)|assumption)
                    obtain ⟨ad215,e215,hx215_0⟩:=Kd.at_int HR0.out x5_1 p215 q215
                    obtain rfl:ad213=ad215:=(by injection e215)
                    replace p215:=eq_true p215
                    replace q215:=eq_true q215
                    have p216:0≤(x5_1:Int):=of_decide_eq_true (by first|(with_reducible assumption)|assumption)
                    have q216:x5_1<(l1.length:Int):=of_decide_eq_true (by first|(with_reducible assumption)|assumption)
                    obtain ⟨ad216,e216,hx216_0⟩:=Kd.at_int HR1.out x5_1 p216 q216
                    obtain rfl:ad214=ad216:=(by injection e216)
                    replace p216:=eq_true p216
                    replace q216:=eq_true q216
                    go_wp2
                    repeat (go_quiet (fail);try go_wp2)
                    go_roundg k1
                    case measure=>have:=HK1.out;omega
                    case rel=>exact ⟨(wrap64 (x5_1-1)),(by first|rfl|(simp;done)|(simp [*];done)),H',⟨by have:=HK1.out;omega⟩,by repeat (first|exact Drawn0.refl _|apply Drawn0.step)⟩
              · rw [if_neg c7] at H
                exact absurd H (by simp)
            · rw [if_neg c6] at H
              exact absurd H (by simp)
          · rw [if_neg c5] at H
            exact absurd H (by simp)
        · rw [if_neg c4] at H
          have c4b0:decide (0≤x5_1)=false:=decide_eq_false c4
          clear c4
          obtain rfl:=Option.some.inj H
          go_wp2
          repeat (go_quiet (fail);try go_wp2)
          go_ret
          exact ⟨by first|rfl|(simp;done)|(simp [*];done),by repeat (first|exact Drawn0.refl _|apply Drawn0.step)⟩
  · rw [if_neg c3] at H
    have c3b0:((l0.length:Int) == (l1.length:Int))=false:=beq_eq_false_iff_ne.mpr c3
    have c3b1:((l0.length:Int) != (l1.length:Int))=true:=bne_iff_ne.mpr c3
    have c3b2:(l0.length == l1.length)=false:=by first|simpa using c3|(simp at c3 ⊢;omega)
    by_cases c10:(l0.length:Int)<(l1.length:Int)
    · rw [if_pos c10] at H
      have c10b0:decide ((l0.length:Int)<(l1.length:Int))=true:=decide_eq_true c10
      have c10b1:decide (l0.length<l1.length)=true:=decide_eq_true (Int.ofNat_lt.mp c10)
      clear c10
      obtain rfl:=Option.some.inj H
      go_enter Try.func69,Try.ntmps69
      go_wp2
      repeat (go_quiet (fail);try go_wp2)
      go_ret
      exact ⟨by first|rfl|(simp;done)|(simp [*];done),by repeat (first|exact Drawn0.refl _|apply Drawn0.step)⟩
    · rw [if_neg c10] at H
      have c10b0:decide ((l0.length:Int)<(l1.length:Int))=false:=decide_eq_false c10
      have c10b1:decide (l0.length<l1.length)=false:=decide_eq_false (fun h=>c10 (Int.ofNat_lt.mpr h))
      clear c10
      obtain rfl:=Option.some.inj H
      go_enter Try.func69,Try.ntmps69
      go_wp2
      repeat (go_quiet (fail);try go_wp2)
      go_ret
      exact ⟨by first|rfl|(simp;done)|(simp [*];done),by repeat (first|exact Drawn0.refl _|apply Drawn0.step)⟩
def gimbalref90_Up2.l0:Nat→List Int→List Int→Int→Int→Int→Option (List Int)
  | 0,_,_,_,_,_=>none
  | k+1,x0,x5,x6,x7,x8=>if x8<(x0.length:Int) then (if 0≤x8 then (if 0≤x6 then (if x5.length<17592186044416 then ((some (x5++[Go.bits .or .u64 (shl .u64 (rd x0 x8) x6) x7]:List Int)).bind fun y221=>(if x6>0 then (if 0≤(IntKind.u64.wrap (64-x6)) then (gimbalref90_Up2.l0 k x0 y221 x6 (shr .u64 (rd x0 x8) (IntKind.u64.wrap (64-x6))) (wrap64 (x8+1))) else (none)) else (gimbalref90_Up2.l0 k x0 y221 x6 0 (wrap64 (x8+1))))) else (none)) else (none)) else (none)) else (if x5.length<17592186044416 then ((gimbalref90_NTrim.f k (x5++[x7])).bind fun t228=>(some t228)) else (none))
def gimbalref90_Up2.f (k:Nat) (l0:List Int) (a1:Int):Option (List Int):=if (l0.length:Int)=0 then (some ([]:List Int)) else (if 0≤(wrap64 (Int.tdiv a1 64)) then (if (wrap64 (Int.tdiv a1 64):Int).toNat≤35184372088832 then (gimbalref90_Up2.l0 k l0 (List.replicate (wrap64 (Int.tdiv a1 64):Int).toNat 0) (IntKind.u64.wrap (Int.tmod a1 64)) 0 0) else (none)) else (none))
set_option maxHeartbeats 8000000 in
set_option maxRecDepth 100000 in
theorem gimbalref90_Up2.calls (k:Nat) (A0:Option Addr) (c0:Nat) (l0:List Int) (a1:Int) (r:List Int) (w:World) (hr0:Kd.C (Kd.int .u64) w A0 l0.length l0) (hc0:l0.length≤c0) (h:gimbalref90_Up2.f k l0 a1=some r) :
    Calls Try.prog 71 #[.slice A0 l0.length c0,.int .i64 a1] w fun e w'=>∃ v0_:Value,e = .returned (v0_)∧Kd.R (Kd.int .u64) 76 w' w.heap.size (fun _=>True) v0_ r∧Below w.heap.size w w':=by
  have HR0:=Aside0.mk hr0
  have HC0:=Aside0.mk hc0
  clear hr0 hc0
  have HB:=Aside0.mk (Below.refl w.heap.size w)
  have H:(if (l0.length:Int)=0 then (some ([]:List Int)) else (if 0≤(wrap64 (Int.tdiv a1 64)) then (if (wrap64 (Int.tdiv a1 64):Int).toNat≤35184372088832 then (gimbalref90_Up2.l0 k l0 (List.replicate (wrap64 (Int.tdiv a1 64):Int).toNat 0) (IntKind.u64.wrap (Int.tmod a1 64)) 0 0) else (none)) else (none)))=some r:=h
  clear h
  by_cases c3:(l0.length:Int)=0
  · rw [if_pos c3] at H
    have c3b0:((l0.length:Int) == 0)=true:=beq_iff_eq.mpr c3
    have c3b1:((l0.length:Int) != 0)=false:=bne_eq_false_iff_eq.mpr c3
    clear c3
    obtain rfl:=Option.some.inj H
    go_enter Try.func71,Try.ntmps71
    go_wp2
    go_ret
    exact ⟨_,by first|rfl|(simp [errW_none,errW_some]<;>rfl)|(simp [*,errW_none,errW_some]<;>rfl),by first|exact Kd.R_nil _ _ _ _ _|exact Kd.N_nil _ _ _ _ _|exact Kd.V_nil _ _ _ _ _|exact Kd.Q_nil _ _ _ _ _|exact Kd.S_nil _ _ _ _ _,by repeat (first|(with_reducible first|exact HB.out|apply below_alloc|apply pw_below_drewN|apply below_drew1)|exact HB.out)⟩
  · rw [if_neg c3] at H
    have c3b0:((l0.length:Int) == 0)=false:=beq_eq_false_iff_ne.mpr c3
    have c3b1:((l0.length:Int) != 0)=true:=bne_iff_ne.mpr c3
    have c3b2:¬ (l0=[]):=fun h_=>c3 (by rw [h_];rfl)
    obtain ⟨ji4,hji4⟩:∃ j_:Int,(wrap64 (Int.tdiv a1 64))=j_:=⟨_,rfl⟩
    replace H:(if 0≤(ji4) then (if (ji4:Int).toNat≤35184372088832 then (gimbalref90_Up2.l0 k l0 (List.replicate (ji4:Int).toNat 0) (IntKind.u64.wrap (Int.tmod a1 64)) 0 0) else (none)) else (none))=some r:=by first|(rw [hji4] at H;exact H)|(simp only [hji4] at H ⊢;exact H)
    have hji4w:(IntKind.i64.wrap (Int.tdiv a1 64))=ji4:=(i64_w _).trans hji4
    by_cases c5:0≤(ji4)
    · rw [if_pos c5] at H
      have c5b0:=eq_true c5
      have c5b1:decide (0≤(ji4))=true:=decide_eq_true c5
      clear c5
      by_cases c6:(ji4:Int).toNat≤35184372088832
      · rw [if_pos c6] at H
        have c6b0:=eq_true c6
        have c6b1:decide ((ji4:Int).toNat≤35184372088832)=true:=decide_eq_true c6
        clear c6
        obtain ⟨y217,hy217⟩:∃ y_:List Int,y_=(List.replicate (ji4:Int).toNat 0):=⟨_,rfl⟩
        replace H:(gimbalref90_Up2.l0 k l0 y217 (IntKind.u64.wrap (Int.tmod a1 64)) 0 0)=some r:=by first|(rw [hy217];with_reducible exact H)|(have H2_:=(Option.bind_some _ _).symm.trans H;rw [hy217];with_reducible exact H2_)|(have H2_:=(Option.bind_some _ _).symm.trans H;with_reducible exact H2_)|with_reducible exact H|(rw [hy217];exact H)|exact H
        have Ny217:=Aside0.mk hy217
        clear hy217
        have H':=Aside0.mk H
        clear H
        go_enter Try.func71,Try.ntmps71
        go_wp2_with (first|((with_reducible refine gate_dst (N:=14) rfl ?_);refine Kd.R_make (Kd.int .u64) _ 76 rfl (N:=14) rfl 42 _ _ rfl ji4 rfl rfl Try.underlying42 (.int .u64 0) 8 info76 rfl (by decide) (by omega) 0 (ok:=fun _=>True) (okp:=fun _=>True) rfl (fun _ hk=>hk) trivial (of_decide_eq_true (by first|(with_reducible assumption)|assumption)) (Nat.le_trans (Nat.mul_le_mul_right _ (of_decide_eq_true (by first|(with_reducible assumption)|assumption):ji4.toNat≤35184372088832)) (by omega)) (Below.refl _ _) (Nat.le_refl _) ?_;intro v218 w7 ho8 hb hg_ hnew_;clear hg_ hnew_;(first|rw [← Ny217.out] at ho8|(simp only [Int.reduceToNat] at ho8;rw [← Ny217.out] at ho8));have n0_:=Aside0.mk (Kd.R_lower ho8 (below_size (by repeat (first|(with_reducible first|exact HB.out|apply below_alloc|apply pw_below_drewN|apply below_drew1)|exact HB.out))));have n1_:=Aside0.mk (below_step (by repeat (first|(with_reducible first|exact HB.out|apply below_alloc|apply pw_below_drewN|apply below_drew1)|exact HB.out)) hb);clear HB;have HO219:=n0_;have HB:=n1_;clear n0_ n1_;clear hb ho8))
        go_loopg [5,7,8] k (fun kq v5 v7 v8 w'=>∃ (x5_1:List Int) (x7_1:Int) (x8_1:Int),v7 = .int .u64 x7_1∧v8 = .int .i64 x8_1∧Aside0 (gimbalref90_Up2.l0 kq l0 x5_1 (IntKind.u64.wrap (Int.tmod a1 64)) x7_1 x8_1=some r)∧Aside0 (kq≤k)∧Aside0 (Kd.R (Kd.int .u64) 76 w' w.heap.size (fun _=>True) v5 x5_1)∧Aside0 (Below w.heap.size w w'))
        case atStart=>exact ⟨(y217),(0),(0),(by first|rfl|(simp;done)|(simp [*];done)),(by first|rfl|(simp;done)|(simp [*];done)),H',⟨Nat.le_refl _⟩,⟨by (with_reducible repeat (first|apply Kd.R_alloc|apply Kd.R_drewN|apply Kd.R_drew));exact HO219.out⟩,⟨by repeat (first|(with_reducible first|exact HB.out|apply below_alloc|apply pw_below_drewN|apply below_drew1)|exact HB.out)⟩⟩
        case round =>
          clear H'
          try clear p2
          try clear c3
          try clear c3b0
          try clear c3b1
          try clear c3b2
          try clear c5
          try clear c5b0
          try clear c5b1
          try clear c6
          try clear c6b0
          try clear c6b1
          try clear p6
          try clear c7
          obtain ⟨x5_1,x7_1,x8_1,rfl,rfl,HA,HK1,HO_5,HB⟩:=hrel
          cases gk with
          | zero=>exact absurd HA.out (by simp [gimbalref90_Up2.l0])
          | succ k1 =>
            have H:=HA.out
            clear HA
            simp only [gimbalref90_Up2.l0] at H
            by_cases c9:x8_1<(l0.length:Int)
            · rw [if_pos c9] at H
              have c9b0:decide (x8_1<(l0.length:Int))=true:=decide_eq_true c9
              clear c9
              by_cases c10:0≤x8_1
              · rw [if_pos c10] at H
                have c10b0:decide (0≤x8_1)=true:=decide_eq_true c10
                clear c10
                obtain ⟨ji11,hji11⟩:∃ j_:Int,(IntKind.u64.wrap (Int.tmod a1 64))=j_:=⟨_,rfl⟩
                replace H:(if 0≤(ji11) then (if x5_1.length<17592186044416 then ((some (x5_1++[Go.bits .or .u64 (shl .u64 (rd l0 x8_1) (ji11)) x7_1]:List Int)).bind fun y221=>(if (ji11)>0 then (if 0≤(IntKind.u64.wrap (64-(ji11))) then (gimbalref90_Up2.l0 k1 l0 y221 (ji11) (shr .u64 (rd l0 x8_1) (IntKind.u64.wrap (64-(ji11)))) (wrap64 (x8_1+1))) else (none)) else (gimbalref90_Up2.l0 k1 l0 y221 (ji11) 0 (wrap64 (x8_1+1))))) else (none)) else (none))=some r:=by first|(rw [hji11] at H;exact H)|(simp only [hji11] at H ⊢;exact H)
                by_cases c12:0≤(ji11)
                · rw [if_pos c12] at H
                  have c12b0:=eq_true c12
                  have c12b1:decide (0≤(ji11))=true:=decide_eq_true c12
                  clear c12
                  obtain ⟨ji13,hji13⟩:∃ j_:Int,(shl .u64 (rd l0 x8_1) (ji11))=j_:=⟨_,rfl⟩
                  replace H:(if x5_1.length<17592186044416 then ((some (x5_1++[Go.bits .or .u64 (ji13) x7_1]:List Int)).bind fun y221=>(if (ji11)>0 then (if 0≤(IntKind.u64.wrap (64-(ji11))) then (gimbalref90_Up2.l0 k1 l0 y221 (ji11) (shr .u64 (rd l0 x8_1) (IntKind.u64.wrap (64-(ji11)))) (wrap64 (x8_1+1))) else (none)) else (gimbalref90_Up2.l0 k1 l0 y221 (ji11) 0 (wrap64 (x8_1+1))))) else (none))=some r:=by first|(rw [hji13] at H;exact H)|(simp only [hji13] at H ⊢;exact H)
                  have hji13_:(IntKind.u64.wrap ((rd l0 x8_1)*2 ^ min (ji11).toNat 64))=ji13:=hji13
                  have hji13z:(ji11)≤64→(IntKind.u64.wrap ((rd l0 x8_1)*2 ^ (ji11).toNat))=ji13:=shl_small hji13
                  by_cases c14:x5_1.length<17592186044416
                  · rw [if_pos c14] at H
                    have LMc14:=Aside0.mk c14
                    clear c14
                    obtain ⟨y221,hy221⟩:∃ y_:List Int,y_=(x5_1++[Go.bits .or .u64 (ji13) x7_1]):=⟨_,rfl⟩
                    replace H:(if (ji11)>0 then (if 0≤(IntKind.u64.wrap (64-(ji11))) then (gimbalref90_Up2.l0 k1 l0 y221 (ji11) (shr .u64 (rd l0 x8_1) (IntKind.u64.wrap (64-(ji11)))) (wrap64 (x8_1+1))) else (none)) else (gimbalref90_Up2.l0 k1 l0 y221 (ji11) 0 (wrap64 (x8_1+1))))=some r:=by first|(rw [hy221];with_reducible exact H)|(have H2_:=(Option.bind_some _ _).symm.trans H;rw [hy221];with_reducible exact H2_)|(have H2_:=(Option.bind_some _ _).symm.trans H;with_reducible exact H2_)|with_reducible exact H|(rw [hy221];exact H)|exact H
                    have Ny221:=Aside0.mk hy221
                    clear hy221
                    by_cases c15:(ji11)>0
                    · rw [if_pos c15] at H
                      have c15b0:decide (0<(ji11))=true:=decide_eq_true c15
                      clear c15
                      obtain ⟨ji16,hji16⟩:∃ j_:Int,(IntKind.u64.wrap (64-(ji11)))=j_:=⟨_,rfl⟩
                      replace H:(if 0≤(ji16) then (gimbalref90_Up2.l0 k1 l0 y221 (ji11) (shr .u64 (rd l0 x8_1) (ji16)) (wrap64 (x8_1+1))) else (none))=some r:=by first|(rw [hji16] at H;exact H)|(simp only [hji16] at H ⊢;exact H)
                      by_cases c17:0≤(ji16)
                      · rw [if_pos c17] at H
                        have c17b0:=eq_true c17
                        have c17b1:decide (0≤(ji16))=true:=decide_eq_true c17
                        clear c17
                        obtain ⟨ji18,hji18⟩:∃ j_:Int,(shr .u64 (rd l0 x8_1) (ji16))=j_:=⟨_,rfl⟩
                        replace H:(gimbalref90_Up2.l0 k1 l0 y221 (ji11) ji18 (wrap64 (x8_1+1)))=some r:=by first|(rw [hji18] at H;exact H)|(simp only [hji18] at H ⊢;exact H)
                        have hji18_:((rd l0 x8_1)/2 ^ min (ji16).toNat 64)=ji18:=hji18
                        have hji18z:(ji16)≤64→((rd l0 x8_1)/2 ^ (ji16).toNat)=ji18:=shr_small hji18
                        have H':=Aside0.mk H
                        clear H
                        have p220:0≤(x8_1:Int):=of_decide_eq_true (by first|(with_reducible assumption)|assumption)
                        have q220:x8_1<(l0.length:Int):=of_decide_eq_true (by first|(with_reducible assumption)|assumption)
                        obtain ⟨ad220,e220,hx220_0⟩:=Kd.at_int HR0.out x8_1 p220 q220
                        cases e220
                        replace hx220_0:=(HB.out.cell (World.block_lt_of_cell? w _ hx220_0)).trans hx220_0
                        replace p220:=eq_true p220
                        replace q220:=eq_true q220
                        go_wp2_with (first|((with_reducible refine gate_builtin (b := .append) (xs:=#[.tmp 24,.tmp 33]) rfl ?_);at_builtin;refine Kd.R_append (Kd.int .u64) (w0:=w) w.heap.size rfl (.tmp 24) (.tmp 33) 42 76 (.int .u64 0) 8 rfl Try.underlying42 info76 rfl (by decide) (by omega) u5 x5_1 (Go.bits .or .u64 (ji13) x7_1) [.int .u64 (Go.bits .or .u64 (ji13) x7_1)] (fun _=>True) (fun _=>False) rfl rfl ?aP (fun _ hk=>hk.elim) ?aF ?aO ?aB ?aS ?aL ?_;(case aP=>exact rfl);(case aB=>exact (by repeat (first|(with_reducible first|exact HB.out|apply below_alloc|apply pw_below_drewN|apply below_drew1)|exact HB.out)));(case aF=>exact (fun _ _=>trivial));(case aO=>exact (by (with_reducible repeat (first|apply Kd.R_alloc|apply Kd.R_drewN|apply Kd.R_drew));exact HO_5.out));(case aS=>exact (below_size (by repeat (first|(with_reducible first|exact HB.out|apply below_alloc|apply pw_below_drewN|apply below_drew1)|exact HB.out))));(case aL=>have:=LMc14.out;omega);intro v222 w19 ho hb hg hat;rw [← Ny221.out] at ho;have n0_:=Aside0.mk (hb);have n1_:=Aside0.mk (ho);clear HB;clear HO_5;have HB:=n0_;have HO223:=n1_;clear n0_ n1_;clear ho hb hg hat;have p224:0≤(x8_1:Int):=of_decide_eq_true (by first|(with_reducible assumption)|assumption);have q224:x8_1<(l0.length:Int):=of_decide_eq_true (by first|(with_reducible assumption)|assumption);obtain ⟨ad224,e224,hx224_0⟩:=Kd.at_int HR0.out x8_1 p224 q224;obtain rfl:ad220=ad224:=(by injection e224);replace hx224_0:=(HB.out.cell (World.block_lt_of_cell? w _ hx224_0)).trans hx224_0;replace p224:=eq_true p224;replace q224:=eq_true q224))
                        try subst hji4
                        try subst hji11
                        try subst hji13
                        try subst hji16
                        go_roundg k1
                        case measure=>have:=HK1.out;omega
                        case rel=>exact ⟨(y221),(ji18),(wrap64 (x8_1+1)),(by first|rfl|(simp;done)|(simp only [← hji18]<;>(first|rfl|simp))|(simp [*];done)),(by first|rfl|(simp;done)|(simp [*];done)),H',⟨by have:=HK1.out;omega⟩,⟨by (with_reducible repeat (first|apply Kd.R_alloc|apply Kd.R_drewN|apply Kd.R_drew));exact HO223.out⟩,⟨by repeat (first|(with_reducible first|exact HB.out|apply below_alloc|apply pw_below_drewN|apply below_drew1)|exact HB.out)⟩⟩
                      · rw [if_neg c17] at H
                        exact absurd H (by simp)
                    · rw [if_neg c15] at H
                      have c15b0:decide (0<(ji11))=false:=decide_eq_false c15
                      clear c15
                      have H':=Aside0.mk H
                      clear H
                      have p220:0≤(x8_1:Int):=of_decide_eq_true (by first|(with_reducible assumption)|assumption)
                      have q220:x8_1<(l0.length:Int):=of_decide_eq_true (by first|(with_reducible assumption)|assumption)
                      obtain ⟨ad220,e220,hx220_0⟩:=Kd.at_int HR0.out x8_1 p220 q220
                      cases e220
                      replace hx220_0:=(HB.out.cell (World.block_lt_of_cell? w _ hx220_0)).trans hx220_0
                      replace p220:=eq_true p220
                      replace q220:=eq_true q220
                      go_wp2_with (first|((with_reducible refine gate_builtin (b := .append) (xs:=#[.tmp 24,.tmp 33]) rfl ?_);at_builtin;refine Kd.R_append (Kd.int .u64) (w0:=w) w.heap.size rfl (.tmp 24) (.tmp 33) 42 76 (.int .u64 0) 8 rfl Try.underlying42 info76 rfl (by decide) (by omega) u5 x5_1 (Go.bits .or .u64 (ji13) x7_1) [.int .u64 (Go.bits .or .u64 (ji13) x7_1)] (fun _=>True) (fun _=>False) rfl rfl ?aP (fun _ hk=>hk.elim) ?aF ?aO ?aB ?aS ?aL ?_;(case aP=>exact rfl);(case aB=>exact (by repeat (first|(with_reducible first|exact HB.out|apply below_alloc|apply pw_below_drewN|apply below_drew1)|exact HB.out)));(case aF=>exact (fun _ _=>trivial));(case aO=>exact (by (with_reducible repeat (first|apply Kd.R_alloc|apply Kd.R_drewN|apply Kd.R_drew));exact HO_5.out));(case aS=>exact (below_size (by repeat (first|(with_reducible first|exact HB.out|apply below_alloc|apply pw_below_drewN|apply below_drew1)|exact HB.out))));(case aL=>have:=LMc14.out;omega);intro v222 w20 ho hb hg hat;rw [← Ny221.out] at ho;have n0_:=Aside0.mk (hb);have n1_:=Aside0.mk (ho);clear HB;clear HO_5;have HB:=n0_;have HO223:=n1_;clear n0_ n1_;clear ho hb hg hat))
                      try subst hji4
                      try subst hji11
                      try subst hji13
                      try subst hji16
                      go_roundg k1
                      case measure=>have:=HK1.out;omega
                      case rel=>exact ⟨(y221),(0),(wrap64 (x8_1+1)),(by first|rfl|(simp;done)|(simp [*];done)),(by first|rfl|(simp;done)|(simp [*];done)),H',⟨by have:=HK1.out;omega⟩,⟨by (with_reducible repeat (first|apply Kd.R_alloc|apply Kd.R_drewN|apply Kd.R_drew));exact HO223.out⟩,⟨by repeat (first|(with_reducible first|exact HB.out|apply below_alloc|apply pw_below_drewN|apply below_drew1)|exact HB.out)⟩⟩
                  · rw [if_neg c14] at H
                    exact absurd H (by simp)
                · rw [if_neg c12] at H
                  exact absurd H (by simp)
              · rw [if_neg c10] at H
                exact absurd H (by simp)
            · rw [if_neg c9] at H
              have c9b0:decide (x8_1<(l0.length:Int))=false:=decide_eq_false c9
              clear c9
              by_cases c21:x5_1.length<17592186044416
              · rw [if_pos c21] at H
                have LMc21:=Aside0.mk c21
                clear c21
                obtain ⟨y225,hy225⟩:∃ y_:List Int,y_=(x5_1++[x7_1]):=⟨_,rfl⟩
                replace H:((gimbalref90_NTrim.f k1 y225).bind fun t228=>(some t228))=some r:=by first|(rw [hy225];with_reducible exact H)|(have H2_:=(Option.bind_some _ _).symm.trans H;rw [hy225];with_reducible exact H2_)|(have H2_:=(Option.bind_some _ _).symm.trans H;with_reducible exact H2_)|with_reducible exact H|(rw [hy225];exact H)|exact H
                have Ny225:=Aside0.mk hy225
                clear hy225
                replace H:=Option.bind_eq_some_iff.mp H
                obtain ⟨t228,A220,H⟩:=H
                replace H:(some t228)=some r:=H
                have A22:=Aside0.mk A220
                clear A220
                obtain rfl:=Option.some.inj H
                go_wp2_with (first|((with_reducible refine gate_builtin (b := .append) (xs:=#[.tmp 44,.tmp 46]) rfl ?_);at_builtin;refine Kd.R_append (Kd.int .u64) (w0:=w) w.heap.size rfl (.tmp 44) (.tmp 46) 42 76 (.int .u64 0) 8 rfl Try.underlying42 info76 rfl (by decide) (by omega) u5 x5_1 x7_1 [.int .u64 x7_1] (fun _=>True) (fun _=>False) rfl rfl ?aP (fun _ hk=>hk.elim) ?aF ?aO ?aB ?aS ?aL ?_;(case aP=>exact rfl);(case aB=>exact (by repeat (first|(with_reducible first|exact HB.out|apply below_alloc|apply pw_below_drewN|apply below_drew1)|exact HB.out)));(case aF=>exact (fun _ _=>trivial));(case aO=>exact (by (with_reducible repeat (first|apply Kd.R_alloc|apply Kd.R_drewN|apply Kd.R_drew));exact HO_5.out));(case aS=>exact (below_size (by repeat (first|(with_reducible first|exact HB.out|apply below_alloc|apply pw_below_drewN|apply below_drew1)|exact HB.out))));(case aL=>have:=LMc21.out;omega);intro v226 w23 ho hb hg hat;rw [← Ny225.out] at ho;have n0_:=Aside0.mk (hb);have n1_:=Aside0.mk (ho);clear HB;clear HO_5;have HB:=n0_;have HO227:=n1_;clear n0_ n1_;clear ho hb hg hat;obtain ⟨Ao24,co24,eo24⟩:=Kd.R_slice HO227.out;subst eo24)|((with_reducible refine gate_callee (f:=104) rfl ?_);refine goesL_ (some 48) rfl rfl Try.func104 (by kernel_rfl) rfl #[.slice Ao24 y225.length co24] rfl (by (try simp only [List.map_toArray,List.map_cons,List.map_nil]);first|done|rfl|(simp only [List.length_drop,List.length_take];rfl)) ?_;(with_reducible refine (gimbalref90_NTrim.calls k1 (fun k_=>some k_=(.slice Ao24 y225.length co24:Value).ownBlock) (.slice Ao24 y225.length co24) y225 t228 w _ ?side1 ?side2 A22.out).mono ?_);(case side1=>repeat (first|(with_reducible first|exact HB.out|apply below_alloc|apply pw_below_drewN|apply below_drew1)|exact HB.out));(case side2=>exact Kd.R_tight rfl HO227.out);rintro e w25 ⟨v229,rfl,ho0,hb,hkp⟩;refine ⟨_,rfl,?_⟩;have n0_:=Aside0.mk (Kd.R_mono (ok':=fun k_=>True) ho0 (fun k_ hk_=>trivial));have n1_:=Aside0.mk (hb);clear HB;clear HO227;have HO230:=n0_;have HB:=n1_;clear n0_ n1_;(try clear hb);(try clear hkp);(try clear ho0)))
                go_ret
                exact ⟨_,by first|rfl|(simp [errW_none,errW_some]<;>rfl)|(simp only [← hji4];first|rfl|(simp [errW_none,errW_some]<;>rfl))|(simp [*,errW_none,errW_some]<;>rfl),by (with_reducible repeat (first|apply Kd.R_alloc|apply Kd.R_drewN|apply Kd.R_drew));exact HO230.out,by repeat (first|(with_reducible first|exact HB.out|apply below_alloc|apply pw_below_drewN|apply below_drew1)|exact HB.out)⟩
              · rw [if_neg c21] at H
                exact absurd H (by simp)
      · rw [if_neg c6] at H
        exact absurd H (by simp)
    · rw [if_neg c5] at H
      exact absurd H (by simp)
end Go.Proofs.Ythokdnheijnmmaa.QN90
end
section
namespace Go.Proofs.Ythokdnheijnmmaa.QN90
open Go.RowKit Go.Proofs.YthokdnheijnmmaaW.PrintWords Go.Proofs.YthokdnheijnmmaaW.PrintLast Go.Proofs.YthokdnheijnmmaaW.PrintMore
attribute [local go_sem] max2_int min2_int max_two min_two max_three min_three max_four min_four   -- for this text's walks alone
set_option linter.unusedVariables false
set_option linter.unusedSimpArgs false
def gimbalref90_NLen.l0:Nat→Int→Int→Option (Int)
  | 0,_,_=>none
  | k+1,x3,x4=>if x4=0 then (some x3) else (gimbalref90_NLen.l0 k (wrap64 (x3+1)) (x4/2))
def gimbalref90_NLen.f (k:Nat) (l0:List Int):Option (Int):=if (l0.length:Int)=0 then (some 0) else (if 0≤(wrap64 ((l0.length:Int)-1)) then (if (wrap64 ((l0.length:Int)-1))<(l0.length:Int) then (gimbalref90_NLen.l0 k (wrap64 (64*(wrap64 ((l0.length:Int)-1)))) (rd l0 (wrap64 ((l0.length:Int)-1)))) else (none)) else (none))
set_option maxHeartbeats 8000000 in
set_option maxRecDepth 100000 in
theorem gimbalref90_NLen.calls (k:Nat) (A0:Option Addr) (c0:Nat) (l0:List Int) (r:Int) (w:World) (hr0:Kd.C (Kd.int .u64) w A0 l0.length l0) (hc0:l0.length≤c0) (h:gimbalref90_NLen.f k l0=some r) :
    Calls Try.prog 117 #[.slice A0 l0.length c0] w fun e w'=>e = .returned (.int .i64 r)∧Drawn0 w w':=by
  have HR0:=Aside0.mk hr0
  have HC0:=Aside0.mk hc0
  clear hr0 hc0
  have H:(if (l0.length:Int)=0 then (some 0) else (if 0≤(wrap64 ((l0.length:Int)-1)) then (if (wrap64 ((l0.length:Int)-1))<(l0.length:Int) then (gimbalref90_NLen.l0 k (wrap64 (64*(wrap64 ((l0.length:Int)-1)))) (rd l0 (wrap64 ((l0.length:Int)-1)))) else (none)) else (none)))=some r:=h
  clear h
  by_cases c2:(l0.length:Int)=0
  · rw [if_pos c2] at H
    have c2b0:((l0.length:Int) == 0)=true:=beq_iff_eq.mpr c2
    have c2b1:((l0.length:Int) != 0)=false:=bne_eq_false_iff_eq.mpr c2
    clear c2
    obtain rfl:=Option.some.inj H
    go_enter Try.func117,Try.ntmps117
    go_wp2
    go_ret
    exact ⟨by first|rfl|(simp;done)|(simp [*];done),by repeat (first|exact Drawn0.refl _|apply Drawn0.step)⟩
  · rw [if_neg c2] at H
    have c2b0:((l0.length:Int) == 0)=false:=beq_eq_false_iff_ne.mpr c2
    have c2b1:((l0.length:Int) != 0)=true:=bne_iff_ne.mpr c2
    have c2b2:¬ (l0=[]):=fun h_=>c2 (by rw [h_];rfl)
    obtain ⟨ji3,hji3⟩:∃ j_:Int,(wrap64 ((l0.length:Int)-1))=j_:=⟨_,rfl⟩
    replace H:(if 0≤(ji3) then (if (ji3)<(l0.length:Int) then (gimbalref90_NLen.l0 k (wrap64 (64*(ji3))) (rd l0 (ji3))) else (none)) else (none))=some r:=by first|(rw [hji3] at H;exact H)|(simp only [hji3] at H ⊢;exact H)
    have hji3w:(IntKind.i64.wrap ((l0.length:Int)-1))=ji3:=(i64_w _).trans hji3
    by_cases c4:0≤(ji3)
    · rw [if_pos c4] at H
      have c4b0:decide (0≤(ji3))=true:=decide_eq_true c4
      clear c4
      by_cases c5:(ji3)<(l0.length:Int)
      · rw [if_pos c5] at H
        have c5b0:decide ((ji3)<(l0.length:Int))=true:=decide_eq_true c5
        clear c5
        have H':=Aside0.mk H
        clear H
        have p231:0≤((ji3):Int):=of_decide_eq_true (by first|(with_reducible assumption)|assumption)
        have q231:(ji3)<(l0.length:Int):=of_decide_eq_true (by first|(with_reducible assumption)|assumption)
        obtain ⟨ad231,e231,hx231_0⟩:=Kd.at_int HR0.out (ji3) p231 q231
        cases e231
        replace p231:=eq_true p231
        replace q231:=eq_true q231
        go_enter Try.func117,Try.ntmps117
        go_wp2
        go_loopg [3,4] k (fun kq v3 v4 w'=>∃ (x3_1:Int) (x4_1:Int),v3 = .int .i64 x3_1∧v4 = .int .u64 x4_1∧Aside0 (gimbalref90_NLen.l0 kq x3_1 x4_1=some r)∧Aside0 (kq≤k)∧Drawn0 w w')
        case atStart=>exact ⟨(wrap64 (64*(ji3))),(rd l0 (ji3)),(by first|rfl|(simp;done)|(simp only [← hji3]<;>(first|rfl|simp))|(simp [*];done)),(by first|rfl|(simp;done)|(simp only [← hji3]<;>(first|rfl|simp))|(simp [*];done)),H',⟨Nat.le_refl _⟩,by repeat (first|exact Drawn0.refl _|apply Drawn0.step)⟩
        case round =>
          clear H'
          try clear c1
          try clear c2
          try clear c2b0
          try clear c2b1
          try clear c2b2
          try clear p2
          try clear q2
          try clear hx2
          try clear c4
          try clear c4b0
          try clear c5
          try clear c5b0
          try clear hx231_0
          try clear p231
          try clear q231
          obtain ⟨x3_1,x4_1,rfl,rfl,HA,HK1,⟨m1,rfl⟩⟩:=hrel
          cases gk with
          | zero=>exact absurd HA.out (by simp [gimbalref90_NLen.l0])
          | succ k1 =>
            have H:=HA.out
            clear HA
            simp only [gimbalref90_NLen.l0] at H
            by_cases c6:x4_1=0
            · rw [if_pos c6] at H
              have c6b0:(x4_1 == 0)=true:=beq_iff_eq.mpr c6
              have c6b1:(x4_1 != 0)=false:=bne_eq_false_iff_eq.mpr c6
              clear c6
              obtain rfl:=Option.some.inj H
              go_wp2
              go_ret
              exact ⟨by first|rfl|(simp;done)|(simp only [← hji3]<;>(first|rfl|simp))|(simp [*];done),by repeat (first|exact Drawn0.refl _|apply Drawn0.step)⟩
            · rw [if_neg c6] at H
              have c6b0:(x4_1 == 0)=false:=beq_eq_false_iff_ne.mpr c6
              have c6b1:(x4_1 != 0)=true:=bne_iff_ne.mpr c6
              have H':=Aside0.mk H
              clear H
              go_wp2
              go_roundg k1
              case measure=>have:=HK1.out;omega
              case rel=>exact ⟨(wrap64 (x3_1+1)),(x4_1/2),(by first|rfl|(simp;done)|(simp [*];done)),(by first|rfl|(simp;done)|(simp [*];done)),H',⟨by have:=HK1.out;omega⟩,by repeat (first|exact Drawn0.refl _|apply Drawn0.step)⟩
      · rw [if_neg c5] at H
        exact absurd H (by simp)
    · rw [if_neg c4] at H
      exact absurd H (by simp)
def gimbalref90_Down2.l0:Nat→List Int→Int→List Int→Int→Option (List Int)
  | 0,_,_,_,_=>none
  | k+1,x0,x5,x6,x7=>if x7<(x0.length:Int) then (if 0≤x7 then (if 0≤x5 then (if x5>0 then (if (wrap64 (x7+1))<(x0.length:Int) then (if 0≤(wrap64 (x7+1)) then (if 0≤(IntKind.u64.wrap (64-x5)) then (if x6.length<17592186044416 then (gimbalref90_Down2.l0 k x0 x5 (x6++[Go.bits .or .u64 (shr .u64 (rd x0 x7) x5) (shl .u64 (rd x0 (wrap64 (x7+1))) (IntKind.u64.wrap (64-x5)))]) (wrap64 (x7+1))) else (none)) else (none)) else (none)) else (if x6.length<17592186044416 then (gimbalref90_Down2.l0 k x0 x5 (x6++[shr .u64 (rd x0 x7) x5]) (wrap64 (x7+1))) else (none))) else (if x6.length<17592186044416 then (gimbalref90_Down2.l0 k x0 x5 (x6++[shr .u64 (rd x0 x7) x5]) (wrap64 (x7+1))) else (none))) else (none)) else (none)) else ((gimbalref90_NTrim.f k x6).bind fun t244=>(some t244))
def gimbalref90_Down2.f (k:Nat) (l0:List Int) (a1:Int):Option (List Int):=(gimbalref90_NLen.f k l0).bind fun t232=>(if a1≥t232 then (some ([]:List Int)) else (gimbalref90_Down2.l0 k l0 (IntKind.u64.wrap (Int.tmod a1 64)) ([]:List Int) (wrap64 (Int.tdiv a1 64))))
set_option maxHeartbeats 8000000 in
set_option maxRecDepth 100000 in
theorem gimbalref90_Down2.calls (k:Nat) (A0:Option Addr) (c0:Nat) (l0:List Int) (a1:Int) (r:List Int) (w:World) (hr0:Kd.C (Kd.int .u64) w A0 l0.length l0) (hc0:l0.length≤c0) (h:gimbalref90_Down2.f k l0 a1=some r) :
    Calls Try.prog 119 #[.slice A0 l0.length c0,.int .i64 a1] w fun e w'=>∃ v0_:Value,e = .returned (v0_)∧Kd.R (Kd.int .u64) 76 w' w.heap.size (fun _=>True) v0_ r∧Below w.heap.size w w':=by
  have HR0:=Aside0.mk hr0
  have HC0:=Aside0.mk hc0
  clear hr0 hc0
  have HB:=Aside0.mk (Below.refl w.heap.size w)
  have H:((gimbalref90_NLen.f k l0).bind fun t232=>(if a1≥t232 then (some ([]:List Int)) else (gimbalref90_Down2.l0 k l0 (IntKind.u64.wrap (Int.tmod a1 64)) ([]:List Int) (wrap64 (Int.tdiv a1 64)))))=some r:=h
  clear h
  replace H:=Option.bind_eq_some_iff.mp H
  obtain ⟨t232,A30,H⟩:=H
  replace H:(if a1≥t232 then (some ([]:List Int)) else (gimbalref90_Down2.l0 k l0 (IntKind.u64.wrap (Int.tmod a1 64)) ([]:List Int) (wrap64 (Int.tdiv a1 64))))=some r:=H
  have A3:=Aside0.mk A30
  clear A30
  by_cases c4:a1≥t232
  · rw [if_pos c4] at H
    have c4b0:decide (t232≤a1)=true:=decide_eq_true c4
    clear c4
    obtain rfl:=Option.some.inj H
    go_enter Try.func119,Try.ntmps119
    go_wp2_with (first|((with_reducible refine gate_callee (f:=117) rfl ?_);refine goesL_ (some 11) rfl rfl Try.func117 (by kernel_rfl) rfl #[.slice A0 l0.length c0] rfl (by (try simp only [List.map_toArray,List.map_cons,List.map_nil]);first|done|rfl|(simp only [List.length_drop,List.length_take];rfl)) ?_;(with_reducible refine (gimbalref90_NLen.calls k _ _ l0 t232 _ ?side1 ?side2 A3.out).mono ?_);(case side1=>repeat (first|exact HR0.out|(with_reducible refine Kd.C_alloc ?_ _)|(with_reducible refine Kd.C_drewN ?_ _)|(with_reducible refine Kd.C_drew ?_)));(case side2=>exact HC0.out);rintro e w' ⟨rfl,⟨nd,rfl⟩⟩;refine ⟨_,rfl,?_⟩))
    go_ret
    exact ⟨_,by first|rfl|(simp [errW_none,errW_some]<;>rfl)|(simp [*,errW_none,errW_some]<;>rfl),by first|exact Kd.R_nil _ _ _ _ _|exact Kd.N_nil _ _ _ _ _|exact Kd.V_nil _ _ _ _ _|exact Kd.Q_nil _ _ _ _ _|exact Kd.S_nil _ _ _ _ _,by repeat (first|(with_reducible first|exact HB.out|apply below_alloc|apply pw_below_drewN|apply below_drew1)|exact HB.out)⟩
  · rw [if_neg c4] at H
    have c4b0:decide (t232≤a1)=false:=decide_eq_false c4
    clear c4
    have H':=Aside0.mk H
    clear H
    go_enter Try.func119,Try.ntmps119
    go_wp2_with (first|((with_reducible refine gate_callee (f:=117) rfl ?_);refine goesL_ (some 11) rfl rfl Try.func117 (by kernel_rfl) rfl #[.slice A0 l0.length c0] rfl (by (try simp only [List.map_toArray,List.map_cons,List.map_nil]);first|done|rfl|(simp only [List.length_drop,List.length_take];rfl)) ?_;(with_reducible refine (gimbalref90_NLen.calls k _ _ l0 t232 _ ?side1 ?side2 A3.out).mono ?_);(case side1=>repeat (first|exact HR0.out|(with_reducible refine Kd.C_alloc ?_ _)|(with_reducible refine Kd.C_drewN ?_ _)|(with_reducible refine Kd.C_drew ?_)));(case side2=>exact HC0.out);rintro e w' ⟨rfl,⟨nd,rfl⟩⟩;refine ⟨_,rfl,?_⟩))
    go_loopg [6,7] k (fun kq v6 v7 w'=>∃ (x6_1:List Int) (x7_1:Int),v7 = .int .i64 x7_1∧Aside0 (gimbalref90_Down2.l0 kq l0 (IntKind.u64.wrap (Int.tmod a1 64)) x6_1 x7_1=some r)∧Aside0 (kq≤k)∧Aside0 (Kd.R (Kd.int .u64) 76 w' w.heap.size (fun _=>True) v6 x6_1)∧Aside0 (Below w.heap.size w w'))
    case atStart=>exact ⟨(([]:List Int)),(wrap64 (Int.tdiv a1 64)),(by first|rfl|(simp;done)|(simp [*];done)),H',⟨Nat.le_refl _⟩,⟨by first|exact Kd.R_nil _ _ _ _ _|exact Kd.N_nil _ _ _ _ _|exact Kd.V_nil _ _ _ _ _|exact Kd.Q_nil _ _ _ _ _|exact Kd.S_nil _ _ _ _ _⟩,⟨by repeat (first|(with_reducible first|exact HB.out|apply below_alloc|apply pw_below_drewN|apply below_drew1)|exact HB.out)⟩⟩
    case round =>
      clear H'
      try clear c1
      try clear p2
      try clear c4
      try clear c4b0
      obtain ⟨x6_1,x7_1,rfl,HA,HK1,HO_6,HB⟩:=hrel
      cases gk with
      | zero=>exact absurd HA.out (by simp [gimbalref90_Down2.l0])
      | succ k1 =>
        have H:=HA.out
        clear HA
        simp only [gimbalref90_Down2.l0] at H
        by_cases c5:x7_1<(l0.length:Int)
        · rw [if_pos c5] at H
          have c5b0:decide (x7_1<(l0.length:Int))=true:=decide_eq_true c5
          clear c5
          by_cases c6:0≤x7_1
          · rw [if_pos c6] at H
            have c6b0:decide (0≤x7_1)=true:=decide_eq_true c6
            clear c6
            obtain ⟨ji7,hji7⟩:∃ j_:Int,(IntKind.u64.wrap (Int.tmod a1 64))=j_:=⟨_,rfl⟩
            replace H:(if 0≤(ji7) then (if (ji7)>0 then (if (wrap64 (x7_1+1))<(l0.length:Int) then (if 0≤(wrap64 (x7_1+1)) then (if 0≤(IntKind.u64.wrap (64-(ji7))) then (if x6_1.length<17592186044416 then (gimbalref90_Down2.l0 k1 l0 (ji7) (x6_1++[Go.bits .or .u64 (shr .u64 (rd l0 x7_1) (ji7)) (shl .u64 (rd l0 (wrap64 (x7_1+1))) (IntKind.u64.wrap (64-(ji7))))]) (wrap64 (x7_1+1))) else (none)) else (none)) else (none)) else (if x6_1.length<17592186044416 then (gimbalref90_Down2.l0 k1 l0 (ji7) (x6_1++[shr .u64 (rd l0 x7_1) (ji7)]) (wrap64 (x7_1+1))) else (none))) else (if x6_1.length<17592186044416 then (gimbalref90_Down2.l0 k1 l0 (ji7) (x6_1++[shr .u64 (rd l0 x7_1) (ji7)]) (wrap64 (x7_1+1))) else (none))) else (none))=some r:=by first|(rw [hji7] at H;exact H)|(simp only [hji7] at H ⊢;exact H)
            by_cases c8:0≤(ji7)
            · rw [if_pos c8] at H
              have c8b0:=eq_true c8
              have c8b1:decide (0≤(ji7))=true:=decide_eq_true c8
              clear c8
              obtain ⟨ji9,hji9⟩:∃ j_:Int,(shr .u64 (rd l0 x7_1) (ji7))=j_:=⟨_,rfl⟩
              replace H:(if (ji7)>0 then (if (wrap64 (x7_1+1))<(l0.length:Int) then (if 0≤(wrap64 (x7_1+1)) then (if 0≤(IntKind.u64.wrap (64-(ji7))) then (if x6_1.length<17592186044416 then (gimbalref90_Down2.l0 k1 l0 (ji7) (x6_1++[Go.bits .or .u64 (ji9) (shl .u64 (rd l0 (wrap64 (x7_1+1))) (IntKind.u64.wrap (64-(ji7))))]) (wrap64 (x7_1+1))) else (none)) else (none)) else (none)) else (if x6_1.length<17592186044416 then (gimbalref90_Down2.l0 k1 l0 (ji7) (x6_1++[ji9]) (wrap64 (x7_1+1))) else (none))) else (if x6_1.length<17592186044416 then (gimbalref90_Down2.l0 k1 l0 (ji7) (x6_1++[ji9]) (wrap64 (x7_1+1))) else (none)))=some r:=by first|(rw [hji9] at H;exact H)|(simp only [hji9] at H ⊢;exact H)
              have hji9_:((rd l0 x7_1)/2 ^ min (ji7).toNat 64)=ji9:=hji9
              have hji9z:(ji7)≤64→((rd l0 x7_1)/2 ^ (ji7).toNat)=ji9:=shr_small hji9
              by_cases c10:(ji7)>0
              · rw [if_pos c10] at H
                have c10b0:decide (0<(ji7))=true:=decide_eq_true c10
                clear c10
                by_cases c11:(wrap64 (x7_1+1))<(l0.length:Int)
                · rw [if_pos c11] at H
                  have c11b0:decide ((wrap64 (x7_1+1))<(l0.length:Int))=true:=decide_eq_true c11
                  clear c11
                  obtain ⟨ji12,hji12⟩:∃ j_:Int,(wrap64 (x7_1+1))=j_:=⟨_,rfl⟩
                  replace H:(if 0≤(ji12) then (if 0≤(IntKind.u64.wrap (64-(ji7))) then (if x6_1.length<17592186044416 then (gimbalref90_Down2.l0 k1 l0 (ji7) (x6_1++[Go.bits .or .u64 (ji9) (shl .u64 (rd l0 (ji12)) (IntKind.u64.wrap (64-(ji7))))]) ji12) else (none)) else (none)) else (none))=some r:=by first|(rw [hji12] at H;exact H)|(simp only [hji12] at H ⊢;exact H)
                  (try rw [hji12] at c11b0)
                  have hji12w:(IntKind.i64.wrap (x7_1+1))=ji12:=(i64_w _).trans hji12
                  by_cases c13:0≤(ji12)
                  · rw [if_pos c13] at H
                    have c13b0:decide (0≤(ji12))=true:=decide_eq_true c13
                    clear c13
                    obtain ⟨ji14,hji14⟩:∃ j_:Int,(IntKind.u64.wrap (64-(ji7)))=j_:=⟨_,rfl⟩
                    replace H:(if 0≤(ji14) then (if x6_1.length<17592186044416 then (gimbalref90_Down2.l0 k1 l0 (ji7) (x6_1++[Go.bits .or .u64 (ji9) (shl .u64 (rd l0 (ji12)) (ji14))]) ji12) else (none)) else (none))=some r:=by first|(rw [hji14] at H;exact H)|(simp only [hji14] at H ⊢;exact H)
                    by_cases c15:0≤(ji14)
                    · rw [if_pos c15] at H
                      have c15b0:=eq_true c15
                      have c15b1:decide (0≤(ji14))=true:=decide_eq_true c15
                      clear c15
                      obtain ⟨ji16,hji16⟩:∃ j_:Int,(shl .u64 (rd l0 (ji12)) (ji14))=j_:=⟨_,rfl⟩
                      replace H:(if x6_1.length<17592186044416 then (gimbalref90_Down2.l0 k1 l0 (ji7) (x6_1++[Go.bits .or .u64 (ji9) (ji16)]) ji12) else (none))=some r:=by first|(rw [hji16] at H;exact H)|(simp only [hji16] at H ⊢;exact H)
                      have hji16_:(IntKind.u64.wrap ((rd l0 (ji12))*2 ^ min (ji14).toNat 64))=ji16:=hji16
                      have hji16z:(ji14)≤64→(IntKind.u64.wrap ((rd l0 (ji12))*2 ^ (ji14).toNat))=ji16:=shl_small hji16
                      by_cases c17:x6_1.length<17592186044416
                      · rw [if_pos c17] at H
                        have LMc17:=Aside0.mk c17
                        clear c17
                        obtain ⟨y235,hy235⟩:∃ y_:List Int,y_=(x6_1++[Go.bits .or .u64 (ji9) (ji16)]):=⟨_,rfl⟩
                        replace H:(gimbalref90_Down2.l0 k1 l0 (ji7) y235 ji12)=some r:=by first|(rw [hy235];with_reducible exact H)|(have H2_:=(Option.bind_some _ _).symm.trans H;rw [hy235];with_reducible exact H2_)|(have H2_:=(Option.bind_some _ _).symm.trans H;with_reducible exact H2_)|with_reducible exact H|(rw [hy235];exact H)|exact H
                        have Ny235:=Aside0.mk hy235
                        clear hy235
                        have H':=Aside0.mk H
                        clear H
                        have p233:0≤(x7_1:Int):=of_decide_eq_true (by first|(with_reducible assumption)|assumption)
                        have q233:x7_1<(l0.length:Int):=of_decide_eq_true (by first|(with_reducible assumption)|assumption)
                        obtain ⟨ad233,e233,hx233_0⟩:=Kd.at_int HR0.out x7_1 p233 q233
                        cases e233
                        replace hx233_0:=(HB.out.cell (World.block_lt_of_cell? w _ hx233_0)).trans hx233_0
                        replace p233:=eq_true p233
                        replace q233:=eq_true q233
                        have p234:0≤((ji12):Int):=of_decide_eq_true (by first|(with_reducible assumption)|assumption)
                        have q234:(ji12)<(l0.length:Int):=of_decide_eq_true (by first|(with_reducible assumption)|assumption)
                        obtain ⟨ad234,e234,hx234_0⟩:=Kd.at_int HR0.out (ji12) p234 q234
                        obtain rfl:ad233=ad234:=(by injection e234)
                        replace hx234_0:=(HB.out.cell (World.block_lt_of_cell? w _ hx234_0)).trans hx234_0
                        replace p234:=eq_true p234
                        replace q234:=eq_true q234
                        go_wp2_with (first|((with_reducible refine gate_builtin (b := .append) (xs:=#[.tmp 49,.tmp 51]) rfl ?_);(try (refine gate_guard (by rfl) ?_;dsimp only));at_builtin;refine Kd.R_append (Kd.int .u64) (w0:=w) w.heap.size rfl (.tmp 49) (.tmp 51) 42 76 (.int .u64 0) 8 rfl Try.underlying42 info76 rfl (by decide) (by omega) u6 x6_1 (Go.bits .or .u64 (ji9) (ji16)) [.int .u64 (Go.bits .or .u64 (ji9) (ji16))] (fun _=>True) (fun _=>False) rfl rfl ?aP (fun _ hk=>hk.elim) ?aF ?aO ?aB ?aS ?aL ?_;(case aP=>exact rfl);(case aB=>exact (by repeat (first|(with_reducible first|exact HB.out|apply below_alloc|apply pw_below_drewN|apply below_drew1)|exact HB.out)));(case aF=>exact (fun _ _=>trivial));(case aO=>exact (by (with_reducible repeat (first|apply Kd.R_alloc|apply Kd.R_drewN|apply Kd.R_drew));exact HO_6.out));(case aS=>exact (below_size (by repeat (first|(with_reducible first|exact HB.out|apply below_alloc|apply pw_below_drewN|apply below_drew1)|exact HB.out))));(case aL=>have:=LMc17.out;omega);intro v236 w18 ho hb hg hat;rw [← Ny235.out] at ho;have n0_:=Aside0.mk (hb);have n1_:=Aside0.mk (ho);clear HB;clear HO_6;have HB:=n0_;have HO237:=n1_;clear n0_ n1_;clear ho hb hg hat))
                        try subst hji7
                        try subst hji9
                        try subst hji14
                        try subst hji16
                        go_roundg k1
                        case measure=>have:=HK1.out;omega
                        case rel=>exact ⟨(y235),(ji12),(by first|rfl|(simp;done)|(simp only [← hji12]<;>(first|rfl|simp))|(simp [*];done)),H',⟨by have:=HK1.out;omega⟩,⟨by (with_reducible repeat (first|apply Kd.R_alloc|apply Kd.R_drewN|apply Kd.R_drew));exact HO237.out⟩,⟨by repeat (first|(with_reducible first|exact HB.out|apply below_alloc|apply pw_below_drewN|apply below_drew1)|exact HB.out)⟩⟩
                      · rw [if_neg c17] at H
                        exact absurd H (by simp)
                    · rw [if_neg c15] at H
                      exact absurd H (by simp)
                  · rw [if_neg c13] at H
                    exact absurd H (by simp)
                · rw [if_neg c11] at H
                  have c11b0:decide ((wrap64 (x7_1+1))<(l0.length:Int))=false:=decide_eq_false c11
                  clear c11
                  by_cases c19:x6_1.length<17592186044416
                  · rw [if_pos c19] at H
                    have LMc19:=Aside0.mk c19
                    clear c19
                    obtain ⟨y238,hy238⟩:∃ y_:List Int,y_=(x6_1++[ji9]):=⟨_,rfl⟩
                    replace H:(gimbalref90_Down2.l0 k1 l0 (ji7) y238 (wrap64 (x7_1+1)))=some r:=by first|(rw [hy238];with_reducible exact H)|(have H2_:=(Option.bind_some _ _).symm.trans H;rw [hy238];with_reducible exact H2_)|(have H2_:=(Option.bind_some _ _).symm.trans H;with_reducible exact H2_)|with_reducible exact H|(rw [hy238];exact H)|exact H
                    have Ny238:=Aside0.mk hy238
                    clear hy238
                    have H':=Aside0.mk H
                    clear H
                    have p233:0≤(x7_1:Int):=of_decide_eq_true (by first|(with_reducible assumption)|assumption)
                    have q233:x7_1<(l0.length:Int):=of_decide_eq_true (by first|(with_reducible assumption)|assumption)
                    obtain ⟨ad233,e233,hx233_0⟩:=Kd.at_int HR0.out x7_1 p233 q233
                    cases e233
                    replace hx233_0:=(HB.out.cell (World.block_lt_of_cell? w _ hx233_0)).trans hx233_0
                    replace p233:=eq_true p233
                    replace q233:=eq_true q233
                    go_wp2_with (first|((with_reducible refine gate_builtin (b := .append) (xs:=#[.tmp 49,.tmp 51]) rfl ?_);(try (refine gate_guard (by rfl) ?_;dsimp only));at_builtin;refine Kd.R_append (Kd.int .u64) (w0:=w) w.heap.size rfl (.tmp 49) (.tmp 51) 42 76 (.int .u64 0) 8 rfl Try.underlying42 info76 rfl (by decide) (by omega) u6 x6_1 ji9 [.int .u64 ji9] (fun _=>True) (fun _=>False) rfl rfl ?aP (fun _ hk=>hk.elim) ?aF ?aO ?aB ?aS ?aL ?_;(case aP=>exact rfl);(case aB=>exact (by repeat (first|(with_reducible first|exact HB.out|apply below_alloc|apply pw_below_drewN|apply below_drew1)|exact HB.out)));(case aF=>exact (fun _ _=>trivial));(case aO=>exact (by (with_reducible repeat (first|apply Kd.R_alloc|apply Kd.R_drewN|apply Kd.R_drew));exact HO_6.out));(case aS=>exact (below_size (by repeat (first|(with_reducible first|exact HB.out|apply below_alloc|apply pw_below_drewN|apply below_drew1)|exact HB.out))));(case aL=>have:=LMc19.out;omega);intro v239 w20 ho hb hg hat;rw [← Ny238.out] at ho;have n0_:=Aside0.mk (hb);have n1_:=Aside0.mk (ho);clear HB;clear HO_6;have HB:=n0_;have HO240:=n1_;clear n0_ n1_;clear ho hb hg hat))
                    try subst hji7
                    try subst hji9
                    try subst hji12
                    try subst hji14
                    go_roundg k1
                    case measure=>have:=HK1.out;omega
                    case rel=>exact ⟨(y238),(wrap64 (x7_1+1)),(by first|rfl|(simp;done)|(simp [*];done)),H',⟨by have:=HK1.out;omega⟩,⟨by (with_reducible repeat (first|apply Kd.R_alloc|apply Kd.R_drewN|apply Kd.R_drew));exact HO240.out⟩,⟨by repeat (first|(with_reducible first|exact HB.out|apply below_alloc|apply pw_below_drewN|apply below_drew1)|exact HB.out)⟩⟩
                  · rw [if_neg c19] at H
                    exact absurd H (by simp)
              · rw [if_neg c10] at H
                have c10b0:decide (0<(ji7))=false:=decide_eq_false c10
                clear c10
                by_cases c21:x6_1.length<17592186044416
                · rw [if_pos c21] at H
                  have LMc21:=Aside0.mk c21
                  clear c21
                  obtain ⟨y241,hy241⟩:∃ y_:List Int,y_=(x6_1++[ji9]):=⟨_,rfl⟩
                  replace H:(gimbalref90_Down2.l0 k1 l0 (ji7) y241 (wrap64 (x7_1+1)))=some r:=by first|(rw [hy241];with_reducible exact H)|(have H2_:=(Option.bind_some _ _).symm.trans H;rw [hy241];with_reducible exact H2_)|(have H2_:=(Option.bind_some _ _).symm.trans H;with_reducible exact H2_)|with_reducible exact H|(rw [hy241];exact H)|exact H
                  have Ny241:=Aside0.mk hy241
                  clear hy241
                  have H':=Aside0.mk H
                  clear H
                  have p233:0≤(x7_1:Int):=of_decide_eq_true (by first|(with_reducible assumption)|assumption)
                  have q233:x7_1<(l0.length:Int):=of_decide_eq_true (by first|(with_reducible assumption)|assumption)
                  obtain ⟨ad233,e233,hx233_0⟩:=Kd.at_int HR0.out x7_1 p233 q233
                  cases e233
                  replace hx233_0:=(HB.out.cell (World.block_lt_of_cell? w _ hx233_0)).trans hx233_0
                  replace p233:=eq_true p233
                  replace q233:=eq_true q233
                  go_wp2_with (first|((with_reducible refine gate_builtin (b := .append) (xs:=#[.tmp 49,.tmp 51]) rfl ?_);(try (refine gate_guard (by rfl) ?_;dsimp only));at_builtin;refine Kd.R_append (Kd.int .u64) (w0:=w) w.heap.size rfl (.tmp 49) (.tmp 51) 42 76 (.int .u64 0) 8 rfl Try.underlying42 info76 rfl (by decide) (by omega) u6 x6_1 ji9 [.int .u64 ji9] (fun _=>True) (fun _=>False) rfl rfl ?aP (fun _ hk=>hk.elim) ?aF ?aO ?aB ?aS ?aL ?_;(case aP=>exact rfl);(case aB=>exact (by repeat (first|(with_reducible first|exact HB.out|apply below_alloc|apply pw_below_drewN|apply below_drew1)|exact HB.out)));(case aF=>exact (fun _ _=>trivial));(case aO=>exact (by (with_reducible repeat (first|apply Kd.R_alloc|apply Kd.R_drewN|apply Kd.R_drew));exact HO_6.out));(case aS=>exact (below_size (by repeat (first|(with_reducible first|exact HB.out|apply below_alloc|apply pw_below_drewN|apply below_drew1)|exact HB.out))));(case aL=>have:=LMc21.out;omega);intro v242 w22 ho hb hg hat;rw [← Ny241.out] at ho;have n0_:=Aside0.mk (hb);have n1_:=Aside0.mk (ho);clear HB;clear HO_6;have HB:=n0_;have HO243:=n1_;clear n0_ n1_;clear ho hb hg hat))
                  try subst hji7
                  try subst hji9
                  try subst hji12
                  go_roundg k1
                  case measure=>have:=HK1.out;omega
                  case rel=>exact ⟨(y241),(wrap64 (x7_1+1)),(by first|rfl|(simp;done)|(simp [*];done)),H',⟨by have:=HK1.out;omega⟩,⟨by (with_reducible repeat (first|apply Kd.R_alloc|apply Kd.R_drewN|apply Kd.R_drew));exact HO243.out⟩,⟨by repeat (first|(with_reducible first|exact HB.out|apply below_alloc|apply pw_below_drewN|apply below_drew1)|exact HB.out)⟩⟩
                · rw [if_neg c21] at H
                  exact absurd H (by simp)
            · rw [if_neg c8] at H
              exact absurd H (by simp)
          · rw [if_neg c6] at H
            exact absurd H (by simp)
        · rw [if_neg c5] at H
          have c5b0:decide (x7_1<(l0.length:Int))=false:=decide_eq_false c5
          clear c5
          replace H:=Option.bind_eq_some_iff.mp H
          obtain ⟨t244,A230,H⟩:=H
          replace H:(some t244)=some r:=H
          have A23:=Aside0.mk A230
          clear A230
          obtain rfl:=Option.some.inj H
          obtain ⟨Ao24,co24,eo24⟩:=Kd.R_slice HO_6.out
          subst eo24
          go_wp2_with (first|((with_reducible refine gate_callee (f:=104) rfl ?_);refine goesL_ (some 54) rfl rfl Try.func104 (by kernel_rfl) rfl #[.slice Ao24 x6_1.length co24] rfl (by (try simp only [List.map_toArray,List.map_cons,List.map_nil]);first|done|rfl|(simp only [List.length_drop,List.length_take];rfl)) ?_;(with_reducible refine (gimbalref90_NTrim.calls k1 (fun k_=>some k_=(.slice Ao24 x6_1.length co24:Value).ownBlock) (.slice Ao24 x6_1.length co24) x6_1 t244 w _ ?side1 ?side2 A23.out).mono ?_);(case side1=>repeat (first|(with_reducible first|exact HB.out|apply below_alloc|apply pw_below_drewN|apply below_drew1)|exact HB.out));(case side2=>exact Kd.R_tight rfl HO_6.out);rintro e w25 ⟨v245,rfl,ho0,hb,hkp⟩;refine ⟨_,rfl,?_⟩;have n0_:=Aside0.mk (Kd.R_mono (ok':=fun k_=>True) ho0 (fun k_ hk_=>trivial));have n1_:=Aside0.mk (hb);clear HB;clear HO_6;have HO246:=n0_;have HB:=n1_;clear n0_ n1_;(try clear hb);(try clear hkp);(try clear ho0)))
          go_ret
          exact ⟨_,by first|rfl|(simp [errW_none,errW_some]<;>rfl)|(simp [*,errW_none,errW_some]<;>rfl),by (with_reducible repeat (first|apply Kd.R_alloc|apply Kd.R_drewN|apply Kd.R_drew));exact HO246.out,by repeat (first|(with_reducible first|exact HB.out|apply below_alloc|apply pw_below_drewN|apply below_drew1)|exact HB.out)⟩
end Go.Proofs.Ythokdnheijnmmaa.QN90
end
section
namespace Go.Proofs.Ythokdnheijnmmaa.QN90
open Go.RowKit Go.Proofs.YthokdnheijnmmaaW.PrintWords Go.Proofs.YthokdnheijnmmaaW.PrintLast Go.Proofs.YthokdnheijnmmaaW.PrintMore
attribute [local go_sem] max2_int min2_int max_two min_two max_three min_three max_four min_four   -- for this text's walks alone
set_option linter.unusedVariables false
set_option linter.unusedSimpArgs false
def gimbalref90_short.l0:Nat→List Int→Int→List Int→Int→Int→Option (List Int × Int)
  | 0,_,_,_,_,_=>none
  | k+1,x0,x1,x6,x7,x8=>if x8≥0 then (if 0≤x8 then (if x8<(x0.length:Int) then (if (IntKind.u64.wrap (x1))=0 then (none) else (if x8<(x6.length:Int) then (gimbalref90_short.l0 k x0 x1 (x6.set (x8:Int).toNat ((IntKind.u64.wrap (Int.tdiv (Go.bits .or .u64 (IntKind.u64.wrap (x7*4294967296)) (IntKind.u64.wrap (rd x0 x8))) (IntKind.u64.wrap (x1))))%4294967296)) (Int.tmod (Go.bits .or .u64 (IntKind.u64.wrap (x7*4294967296)) (IntKind.u64.wrap (rd x0 x8))) (IntKind.u64.wrap (x1))) (wrap64 (x8-1))) else (none))) else (none)) else (none)) else ((gimbalref90_cut.f k x6).bind fun t252=>(some (t252,(x7)%4294967296)))
def gimbalref90_short.f (k:Nat) (l0:List Int) (a1:Int):Option (List Int × Int):=if 0≤(l0.length:Int) then (if ((l0.length:Int):Int).toNat≤70368744177664 then (gimbalref90_short.l0 k l0 a1 (List.replicate ((l0.length:Int):Int).toNat 0) 0 (wrap64 ((l0.length:Int)-1))) else (none)) else (none)
set_option maxHeartbeats 8000000 in
set_option maxRecDepth 100000 in
theorem gimbalref90_short.calls (k:Nat) (A0:Option Addr) (c0:Nat) (l0:List Int) (a1:Int) (r1:List Int) (r2:Int) (w:World) (hr0:Kd.C (Kd.int .u32) w A0 l0.length l0) (hc0:l0.length≤c0) (h:gimbalref90_short.f k l0 a1=some (r1,r2)) :
    Calls Try.prog 122 #[.slice A0 l0.length c0,.int .u32 a1] w fun e w'=>∃ v0_:Value,e = .returned (.tuple #[v0_,.int .u32 r2])∧Kd.R (Kd.int .u32) 102 w' w.heap.size (fun _=>True) v0_ r1∧Below w.heap.size w w':=by
  have HR0:=Aside0.mk hr0
  have HC0:=Aside0.mk hc0
  clear hr0 hc0
  have HB:=Aside0.mk (Below.refl w.heap.size w)
  have H:(if 0≤(l0.length:Int) then (if ((l0.length:Int):Int).toNat≤70368744177664 then (gimbalref90_short.l0 k l0 a1 (List.replicate ((l0.length:Int):Int).toNat 0) 0 (wrap64 ((l0.length:Int)-1))) else (none)) else (none))=some (r1,r2):=h
  clear h
  by_cases c3:0≤(l0.length:Int)
  · rw [if_pos c3] at H
    have c3b0:=eq_true c3
    have c3b1:decide (0≤(l0.length:Int))=true:=decide_eq_true c3
    clear c3
    by_cases c4:((l0.length:Int):Int).toNat≤70368744177664
    · rw [if_pos c4] at H
      have c4b0:=eq_true c4
      have c4b1:decide (((l0.length:Int):Int).toNat≤70368744177664)=true:=decide_eq_true c4
      clear c4
      obtain ⟨y247,hy247⟩:∃ y_:List Int,y_=(List.replicate ((l0.length:Int):Int).toNat 0):=⟨_,rfl⟩
      replace H:(gimbalref90_short.l0 k l0 a1 y247 0 (wrap64 ((l0.length:Int)-1)))=some (r1,r2):=by first|(rw [hy247];with_reducible exact H)|(have H2_:=(Option.bind_some _ _).symm.trans H;rw [hy247];with_reducible exact H2_)|(have H2_:=(Option.bind_some _ _).symm.trans H;with_reducible exact H2_)|with_reducible exact H|(rw [hy247];exact H)|exact H
      have Ny247:=Aside0.mk hy247
      clear hy247
      have H':=Aside0.mk H
      clear H
      go_enter Try.func122,Try.ntmps122
      go_wp2_with (first|((with_reducible refine gate_dst (N:=11) rfl ?_);refine Kd.R_make (Kd.int .u32) _ 102 rfl (N:=11) rfl 100 _ _ rfl (l0.length:Int) rfl rfl Try.underlying100 (.int .u32 0) 4 info102 rfl (by decide) (by omega) 0 (ok:=fun _=>True) (okp:=fun _=>True) rfl (fun _ hk=>hk) trivial (of_decide_eq_true (by first|(with_reducible assumption)|assumption)) (Nat.le_trans (Nat.mul_le_mul_right _ (of_decide_eq_true (by first|(with_reducible assumption)|assumption):(l0.length:Int).toNat≤70368744177664)) (by omega)) (Below.refl _ _) (Nat.le_refl _) ?_;intro v248 w5 ho6 hb hg_ hnew_;clear hg_ hnew_;(first|rw [← Ny247.out] at ho6|(simp only [Int.reduceToNat] at ho6;rw [← Ny247.out] at ho6));have n0_:=Aside0.mk (Kd.R_lower ho6 (below_size (by repeat (first|(with_reducible first|exact HB.out|apply below_alloc|apply pw_below_drewN|apply below_drew1)|exact HB.out))));have n1_:=Aside0.mk (below_step (by repeat (first|(with_reducible first|exact HB.out|apply below_alloc|apply pw_below_drewN|apply below_drew1)|exact HB.out)) hb);clear HB;have HO249:=n0_;have HB:=n1_;clear n0_ n1_;clear hb ho6))
      go_loopg [7,8] k (fun kq v7 v8 w'=>∃ (x6_1:List Int) (x7_1:Int) (x8_1:Int),v7 = .int .u64 x7_1∧v8 = .int .i64 x8_1∧Aside0 (gimbalref90_short.l0 kq l0 a1 x6_1 x7_1 x8_1=some (r1,r2))∧Aside0 (kq≤k)∧Aside0 (Kd.R (Kd.int .u32) 102 w' w.heap.size (fun _=>True) v248 x6_1)∧Aside0 (Below w.heap.size w w'))
      case atStart=>exact ⟨(y247),(0),(wrap64 ((l0.length:Int)-1)),(by first|rfl|(simp;done)|(simp [*];done)),(by first|rfl|(simp;done)|(simp [*];done)),H',⟨Nat.le_refl _⟩,⟨by (with_reducible repeat (first|apply Kd.R_alloc|apply Kd.R_drewN|apply Kd.R_drew));exact HO249.out⟩,⟨by repeat (first|(with_reducible first|exact HB.out|apply below_alloc|apply pw_below_drewN|apply below_drew1)|exact HB.out)⟩⟩
      case round =>
        clear H'
        try clear c1
        try clear p2
        try clear c3
        try clear c3b0
        try clear c3b1
        try clear c4
        try clear c4b0
        try clear c4b1
        try clear p6
        obtain ⟨x6_1,x7_1,x8_1,rfl,rfl,HA,HK1,HO_6,HB⟩:=hrel
        cases gk with
        | zero=>exact absurd HA.out (by simp [gimbalref90_short.l0])
        | succ k1 =>
          have H:=HA.out
          clear HA
          simp only [gimbalref90_short.l0] at H
          by_cases c7:x8_1≥0
          · rw [if_pos c7] at H
            have c7b0:decide (0≤x8_1)=true:=decide_eq_true c7
            clear c7
            by_cases c8:0≤x8_1
            · rw [if_pos c8] at H
              have c8b0:decide (0≤x8_1)=true:=decide_eq_true c8
              clear c8
              by_cases c9:x8_1<(l0.length:Int)
              · rw [if_pos c9] at H
                have c9b0:decide (x8_1<(l0.length:Int))=true:=decide_eq_true c9
                clear c9
                by_cases c10:(IntKind.u64.wrap (a1))=0
                · rw [if_pos c10] at H
                  exact absurd H (by simp)
                · rw [if_neg c10] at H
                  have c10b0:((IntKind.u64.wrap (a1)) == 0)=false:=beq_eq_false_iff_ne.mpr c10
                  have c10b1:((IntKind.u64.wrap (a1)) != 0)=true:=bne_iff_ne.mpr c10
                  by_cases c11:x8_1<(x6_1.length:Int)
                  · rw [if_pos c11] at H
                    have c11b0:decide (x8_1<(x6_1.length:Int))=true:=decide_eq_true c11
                    clear c11
                    obtain ⟨y251,hy251⟩:∃ y_:List Int,y_=(x6_1.set (x8_1:Int).toNat ((IntKind.u64.wrap (Int.tdiv (Go.bits .or .u64 (IntKind.u64.wrap (x7_1*4294967296)) (IntKind.u64.wrap (rd l0 x8_1))) (IntKind.u64.wrap (a1))))%4294967296)):=⟨_,rfl⟩
                    replace H:(gimbalref90_short.l0 k1 l0 a1 y251 (Int.tmod (Go.bits .or .u64 (IntKind.u64.wrap (x7_1*4294967296)) (IntKind.u64.wrap (rd l0 x8_1))) (IntKind.u64.wrap (a1))) (wrap64 (x8_1-1)))=some (r1,r2):=by first|(rw [hy251];with_reducible exact H)|(have H2_:=(Option.bind_some _ _).symm.trans H;rw [hy251];with_reducible exact H2_)|(have H2_:=(Option.bind_some _ _).symm.trans H;with_reducible exact H2_)|with_reducible exact H|(rw [hy251];exact H)|exact H
                    have Ny251:=Aside0.mk hy251
                    clear hy251
                    have H':=Aside0.mk H
                    clear H
                    have p250:0≤(x8_1:Int):=of_decide_eq_true (by first|(with_reducible assumption)|assumption)
                    have q250:x8_1<(l0.length:Int):=of_decide_eq_true (by first|(with_reducible assumption)|assumption)
                    obtain ⟨ad250,e250,hx250_0⟩:=Kd.at_int HR0.out x8_1 p250 q250
                    cases e250
                    replace hx250_0:=(HB.out.cell (World.block_lt_of_cell? w _ hx250_0)).trans hx250_0
                    replace p250:=eq_true p250
                    replace q250:=eq_true q250
                    have p12:0≤(x8_1:Int):=of_decide_eq_true (by first|(with_reducible assumption)|assumption)
                    have q12:(x8_1:Int)<((x6_1.length:Int):Int):=of_decide_eq_true (by first|(with_reducible assumption)|assumption)
                    obtain ⟨go12,co12,eo12,gb12,gl12,cl12,HG12⟩:=Kd.R_form HO_6.out (by omega)
                    (first|cases eo12|(injection eo12 with ea_ en_ ec_;(first|subst ea_|(injection ea_ with ea_;subst ea_));subst ec_;clear en_))
                    have GB12:=Aside0.mk gb12
                    have GG12:=Aside0.mk HG12
                    clear gb12 gl12 HG12
                    obtain ⟨hx12_0,hf12_0⟩:=Kd.R_celln 0 HO_6.out (x8_1:Int) p12 q12
                    replace p12:=eq_true p12
                    replace q12:=eq_true q12
                    have HP13:=Kd.R_putg HO_6.out (x8_1:Int) ((IntKind.u64.wrap (Int.tdiv (Go.bits .or .u64 (IntKind.u64.wrap (x7_1*4294967296)) (IntKind.u64.wrap (rd l0 x8_1))) (IntKind.u64.wrap (a1))))%4294967296)
                    go_wp2_with (first|((with_reducible refine gate_store (t:=102) (p:=34) rfl ?_);refine store_event (t:=102) (p:=34) (v:=?vo_w14) (w1:=(wr.setCell ⟨go12,(x8_1:Int).toNat,none⟩ (.int .u32 ((IntKind.u64.wrap (Int.tdiv (Go.bits .or .u64 (IntKind.u64.wrap (x7_1*4294967296)) (IntKind.u64.wrap (rd l0 x8_1))) (IntKind.u64.wrap (a1))))%4294967296)))) ?hg ?ho ?hn ?hr ?_;(case ho=>rfl);(case hg=>rfl);(case hn=>rfl);(case hr=>first|(go_simp;done)|(go_simp;rfl));intro w14 hw;have hg:wr.grownBy w14 (some go12):=(by rw [hw];exact HP13.2);have hp_:Kd.R (Kd.int .u32) 102 w14 w.heap.size (fun _=>True) (.slice (some ⟨go12,0,none⟩) x6_1.length co12) y251:=(by rw [hw,Ny251.out];exact HP13.1);clear HP13;have n0_:=Aside0.mk (hp_);have n1_:=Aside0.mk ((by rw [hw];exact below_set (HB.out) GB12.out:Below w.heap.size w w14));clear HO_6;clear HB;have HO_6:=n0_;have HB:=n1_;clear n0_ n1_;clear hg hw hp_))
                    go_roundg k1
                    case measure=>have:=HK1.out;omega
                    case rel=>exact ⟨(y251),(Int.tmod (Go.bits .or .u64 (IntKind.u64.wrap (x7_1*4294967296)) (IntKind.u64.wrap (rd l0 x8_1))) (IntKind.u64.wrap (a1))),(wrap64 (x8_1-1)),(by first|rfl|(simp;done)|(simp [*];done)),(by first|rfl|(simp;done)|(simp [*];done)),H',⟨by have:=HK1.out;omega⟩,⟨by (with_reducible repeat (first|apply Kd.R_alloc|apply Kd.R_drewN|apply Kd.R_drew));exact HO_6.out⟩,⟨by repeat (first|(with_reducible first|exact HB.out|apply below_alloc|apply pw_below_drewN|apply below_drew1)|exact HB.out)⟩⟩
                  · rw [if_neg c11] at H
                    exact absurd H (by simp)
              · rw [if_neg c9] at H
                exact absurd H (by simp)
            · rw [if_neg c8] at H
              exact absurd H (by simp)
          · rw [if_neg c7] at H
            have c7b0:decide (0≤x8_1)=false:=decide_eq_false c7
            clear c7
            replace H:=Option.bind_eq_some_iff.mp H
            obtain ⟨t252,A150,H⟩:=H
            replace H:(some (t252,(x7_1)%4294967296))=some (r1,r2):=H
            have A15:=Aside0.mk A150
            clear A150
            simp only [Option.some.injEq,Prod.mk.injEq] at H
            obtain ⟨rfl,rfl⟩:=H
            obtain ⟨Ao16,co16,eo16⟩:=Kd.R_slice HO_6.out
            subst eo16
            go_wp2_with (first|((with_reducible refine gate_callee (f:=103) rfl ?_);refine goesL_ (some 40) rfl rfl Try.func103 (by kernel_rfl) rfl #[.slice Ao16 x6_1.length co16] rfl (by (try simp only [List.map_toArray,List.map_cons,List.map_nil]);first|done|rfl|(simp only [List.length_drop,List.length_take];rfl)) ?_;(with_reducible refine (gimbalref90_cut.calls k1 (fun k_=>some k_=(.slice Ao16 x6_1.length co16:Value).ownBlock) (.slice Ao16 x6_1.length co16) x6_1 t252 w _ ?side1 ?side2 A15.out).mono ?_);(case side1=>repeat (first|(with_reducible first|exact HB.out|apply below_alloc|apply pw_below_drewN|apply below_drew1)|exact HB.out));(case side2=>exact Kd.R_tight rfl HO_6.out);rintro e w17 ⟨v253,rfl,ho0,hb,hkp⟩;refine ⟨_,rfl,?_⟩;have n0_:=Aside0.mk (Kd.R_mono (ok':=fun k_=>True) ho0 (fun k_ hk_=>trivial));have n1_:=Aside0.mk (hb);clear HB;clear HO_6;have HO254:=n0_;have HB:=n1_;clear n0_ n1_;(try clear hb);(try clear hkp);(try clear ho0)))
            go_ret2
            exact ⟨_,by first|rfl|(simp [errW_none,errW_some]<;>rfl)|(simp [*,errW_none,errW_some]<;>rfl),by (with_reducible repeat (first|apply Kd.R_alloc|apply Kd.R_drewN|apply Kd.R_drew));exact HO254.out,by repeat (first|(with_reducible first|exact HB.out|apply below_alloc|apply pw_below_drewN|apply below_drew1)|exact HB.out)⟩
    · rw [if_neg c4] at H
      exact absurd H (by simp)
  · rw [if_neg c3] at H
    exact absurd H (by simp)
end Go.Proofs.Ythokdnheijnmmaa.QN90
end
