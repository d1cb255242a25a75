/- Part of a proof: texts of this session, one behind the other (wip/tools/pack.py). -/
import Derived.Test.YtaeabemipnbgbaaProg
import Derived.Below
import Derived.Deep.Draws
import Derived.Deep.AppendLies
import Derived.Maps.AppendAt
import Derived.OwnWalk
import Derived.Laws.BytesArg
import Derived.Laws.MakeOwn
import Derived.Laws.OwnMore
import Derived.Deep.OwnRows
import Derived.Tactics
import Derived.Lib.ConvBytes
import Derived.Laws.Slices
import Derived.WalkKit
import Derived.KernelRfl
import Derived.RowKit3
import Derived.Deep.LoopGhost
import Derived.Deep.QuietTactic
import Derived.BigQuiet
import Derived.WideLaws
import Derived.Deep.DeepCutAuto
import Derived.Deep.CutBlock
import Derived.Deep.RegionHeld3
import Derived.Laws.Rows
import Derived.Lib.AppendStr
import Derived.ArgAppend
import Derived.Laws.IdiomCopy
import Derived.OrdersHeld
import Derived.Laws.BitsLemmas
import Derived.RowKit
import Derived.Test.YtaeabemipnbgbaaWWords
import Derived.Test.YtaeabemipnbgbaaWLast
import Derived.Test.YtaeabemipnbgbaaWTab
import Derived.Test.YtaeabemipnbgbaaWQPut
import Derived.Test.YtaeabemipnbgbaaWApart
import Derived.Test.YtaeabemipnbgbaaWArr
import Derived.Test.YtaeabemipnbgbaaWZeros
import Derived.Test.YtaeabemipnbgbaaWFoot
import Derived.Test.YtaeabemipnbgbaaWKept
import Derived.Test.YtaeabemipnbgbaaWShare
import Derived.Test.YtaeabemipnbgbaaWN
import Derived.Laws.StructEq
import Derived.Test.YtaeabemipnbgbaaWRepsOne
import Derived.Test.YtaeabemipnbgbaaWGuard
import Derived.Test.YtaeabemipnbgbaaWNEv
import Derived.Test.YtaeabemipnbgbaaWMore
import Derived.Deep.WholeRow
import Derived.Outline
import Derived.Lib.SliceRun
namespace Go.Proofs.Ytaeabemipnbgbaa
end Go.Proofs.Ytaeabemipnbgbaa
namespace Go.Proofs.Ytaeabemipnbgbaa.CloneB
end Go.Proofs.Ytaeabemipnbgbaa.CloneB
namespace Go.Proofs.Ytaeabemipnbgbaa.Crc
end Go.Proofs.Ytaeabemipnbgbaa.Crc
namespace Go.Proofs.Ytaeabemipnbgbaa.PFr
end Go.Proofs.Ytaeabemipnbgbaa.PFr
namespace Go.Proofs.Ytaeabemipnbgbaa.QFr
end Go.Proofs.Ytaeabemipnbgbaa.QFr
namespace Go.Proofs.Ytaeabemipnbgbaa.QFrO
end Go.Proofs.Ytaeabemipnbgbaa.QFrO
namespace Go.Proofs.Ytaeabemipnbgbaa.frameExact
end Go.Proofs.Ytaeabemipnbgbaa.frameExact
namespace Go.Proofs.YtaeabemipnbgbaaW.Aid
end Go.Proofs.YtaeabemipnbgbaaW.Aid
namespace Go.Proofs.YtaeabemipnbgbaaW.Big
end Go.Proofs.YtaeabemipnbgbaaW.Big
namespace Go.Proofs.YtaeabemipnbgbaaW.Opens
end Go.Proofs.YtaeabemipnbgbaaW.Opens
namespace Go.Proofs.YtaeabemipnbgbaaW.Sx
end Go.Proofs.YtaeabemipnbgbaaW.Sx
section
namespace Go.Proofs.Ytaeabemipnbgbaa.QFr
open RowKit YtaeabemipnbgbaaW.PrintWords YtaeabemipnbgbaaW.PrintLast YtaeabemipnbgbaaW.PrintMore
attribute [local go_sem] max2_int min2_int max_two min_two max_three min_three max_four min_four   -- for this text's walks alone
set_option linter.unusedVariables false
set_option linter.unusedSimpArgs false
theorem info5:(Try.prog.info? 5).map (fun i=>(i.zero,i.size,i.bytes))=some (some (.int .u8 0),1,1):=by kernel_rfl
end Go.Proofs.Ytaeabemipnbgbaa.QFr
end
section
namespace Go.Proofs.Ytaeabemipnbgbaa.QFr
open RowKit YtaeabemipnbgbaaW.PrintWords YtaeabemipnbgbaaW.PrintLast YtaeabemipnbgbaaW.PrintMore
attribute [local go_sem] max2_int min2_int max_two min_two max_three min_three max_four min_four   -- for this text's walks alone
set_option linter.unusedVariables false
set_option linter.unusedSimpArgs false
mutual
def gimbalref22_Sum.l0:Nat→List Int→Int→Int→Option (Int)
  | 0,_,_,_=>none
  | k+1,x0,x3,x4=>if x4<(x0.length:Int) then (if 0≤x4 then (gimbalref22_Sum.l1 k x0 (Go.bits .xor .u16 x3 (IntKind.u16.wrap ((IntKind.u16.wrap (rd x0 x4))*256))) x4 0) else (none)) else (some x3)
def gimbalref22_Sum.l1:Nat→List Int→Int→Int→Int→Option (Int)
  | 0,_,_,_,_=>none
  | k+1,x0,x3,x4,x5=>if x5<8 then (if (Go.bits .and .u16 x3 32768)=0 then (gimbalref22_Sum.l1 k x0 (IntKind.u16.wrap (x3*2)) x4 (wrap64 (x5+1))) else (gimbalref22_Sum.l1 k x0 (Go.bits .xor .u16 (IntKind.u16.wrap (x3*2)) 4129) x4 (wrap64 (x5+1)))) else (gimbalref22_Sum.l0 k x0 x3 (wrap64 (x4+1)))
end
def gimbalref22_Sum.f (k:Nat) (l0:List Int):Option (Int):=gimbalref22_Sum.l0 k l0 65535 0
set_option maxHeartbeats 8000000 in
set_option maxRecDepth 100000 in
theorem gimbalref22_Sum.calls (k:Nat) (A0:Option Addr) (c0:Nat) (l0:List Int) (r:Int) (w:World) (hr0:Kd.C (Kd.int .u8) w A0 l0.length l0) (hc0:l0.length≤c0) (h:gimbalref22_Sum.f k l0=some r) :
    Calls Try.prog 78 #[.slice A0 l0.length c0] w fun e w'=>e = .returned (.int .u16 r)∧Drawn0 w w':=by
  have HR0:=Aside0.mk hr0
  have HC0:=Aside0.mk hc0
  clear hr0 hc0
  have H:(gimbalref22_Sum.l0 k l0 65535 0)=some r:=h
  clear h
  have H':=Aside0.mk H
  clear H
  go_enter Try.func78,Try.ntmps78
  go_wp2
  go_loopg [3,4] k (fun kq v3 v4 w'=>∃ (x3_1:Int) (x4_1:Int),v3 = .int .u16 x3_1∧v4 = .int .i64 x4_1∧Aside0 (gimbalref22_Sum.l0 kq l0 x3_1 x4_1=some r)∧Aside0 (kq≤k)∧Drawn0 w w')
  case atStart=>exact ⟨(65535),(0),(by first|rfl|(simp;done)|(simp [*];done)),(by first|rfl|(simp;done)|(simp [*];done)),H',⟨Nat.le_refl _⟩,by repeat (first|exact Drawn0.refl _|apply Drawn0.step)⟩
  case round =>
    clear H'
    obtain ⟨x3_1,x4_1,rfl,rfl,HA,HK1,⟨m1,rfl⟩⟩:=hrel
    cases gk with
    | zero=>exact absurd HA.out (by simp [gimbalref22_Sum.l0])
    | succ k1 =>
      have H:=HA.out
      clear HA
      simp only [gimbalref22_Sum.l0] at H
      by_cases c2:x4_1<(l0.length:Int)
      · rw [if_pos c2] at H
        have c2b0:decide (x4_1<(l0.length:Int))=true:=decide_eq_true c2
        clear c2
        by_cases c3:0≤x4_1
        · rw [if_pos c3] at H
          have c3b0:decide (0≤x4_1)=true:=decide_eq_true c3
          clear c3
          have H':=Aside0.mk H
          clear H
          have p101:0≤(x4_1:Int):=of_decide_eq_true (by first|(with_reducible assumption)|assumption)
          have q101:x4_1<(l0.length:Int):=of_decide_eq_true (by first|(with_reducible assumption)|assumption)
          obtain ⟨ad101,e101,hx101_0⟩:=Kd.at_int HR0.out x4_1 p101 q101
          cases e101
          replace p101:=eq_true p101
          replace q101:=eq_true q101
          go_wp2
          go_loopg [3,5] k1 (fun kq v3 v5 w'=>∃ (x3_2:Int) (x5_2:Int),v3 = .int .u16 x3_2∧v5 = .int .i64 x5_2∧Aside0 (gimbalref22_Sum.l1 kq l0 x3_2 x4_1 x5_2=some r)∧Aside0 (kq≤k1)∧Drawn0 w w')
          case atStart=>exact ⟨(Go.bits .xor .u16 x3_1 (IntKind.u16.wrap ((IntKind.u16.wrap (rd l0 x4_1))*256))),(0),(by first|rfl|(simp;done)|(simp [*];done)),(by first|rfl|(simp;done)|(simp [*];done)),H',⟨Nat.le_refl _⟩,by repeat (first|exact Drawn0.refl _|apply Drawn0.step)⟩
          case round =>
            clear H'
            try clear p1
            try clear q1
            try clear hx1
            try clear c2
            try clear c2b0
            try clear p2
            try clear c3
            try clear c3b0
            try clear hx101_0
            try clear p101
            try clear q101
            obtain ⟨x3_2,x5_2,rfl,rfl,HA,HK2,⟨m2,rfl⟩⟩:=hrel
            cases gk with
            | zero=>exact absurd HA.out (by simp [gimbalref22_Sum.l1])
            | succ k2 =>
              have H:=HA.out
              clear HA
              simp only [gimbalref22_Sum.l1] at H
              by_cases c4:x5_2<8
              · rw [if_pos c4] at H
                have c4b0:decide (x5_2<8)=true:=decide_eq_true c4
                clear c4
                by_cases c5:(Go.bits .and .u16 x3_2 32768)=0
                · rw [if_pos c5] at H
                  have c5b0:((Go.bits .and .u16 x3_2 32768) == 0)=true:=beq_iff_eq.mpr c5
                  have c5b1:((Go.bits .and .u16 x3_2 32768) != 0)=false:=bne_eq_false_iff_eq.mpr c5
                  clear c5
                  have H':=Aside0.mk H
                  clear H
                  go_wp2
                  go_roundg k2
                  case measure=>have:=HK1.out;have:=HK2.out;omega
                  case rel=>exact ⟨(IntKind.u16.wrap (x3_2*2)),(wrap64 (x5_2+1)),(by first|rfl|(simp;done)|(simp [*];done)),(by first|rfl|(simp;done)|(simp [*];done)),H',⟨by have:=HK1.out;have:=HK2.out;omega⟩,by repeat (first|exact Drawn0.refl _|apply Drawn0.step)⟩
                · rw [if_neg c5] at H
                  have c5b0:((Go.bits .and .u16 x3_2 32768) == 0)=false:=beq_eq_false_iff_ne.mpr c5
                  have c5b1:((Go.bits .and .u16 x3_2 32768) != 0)=true:=bne_iff_ne.mpr c5
                  have H':=Aside0.mk H
                  clear H
                  go_wp2
                  go_roundg k2
                  case measure=>have:=HK1.out;have:=HK2.out;omega
                  case rel=>exact ⟨(Go.bits .xor .u16 (IntKind.u16.wrap (x3_2*2)) 4129),(wrap64 (x5_2+1)),(by first|rfl|(simp;done)|(simp [*];done)),(by first|rfl|(simp;done)|(simp [*];done)),H',⟨by have:=HK1.out;have:=HK2.out;omega⟩,by repeat (first|exact Drawn0.refl _|apply Drawn0.step)⟩
              · rw [if_neg c4] at H
                have c4b0:decide (x5_2<8)=false:=decide_eq_false c4
                clear c4
                have H':=Aside0.mk H
                clear H
                go_wp2
                go_roundg k2
                case measure=>have:=HK1.out;have:=HK2.out;omega
                case rel=>exact ⟨(x3_2),(wrap64 (x4_1+1)),(by first|rfl|(simp;done)|(simp [*];done)),(by first|rfl|(simp;done)|(simp [*];done)),H',⟨by have:=HK1.out;have:=HK2.out;omega⟩,by repeat (first|exact Drawn0.refl _|apply Drawn0.step)⟩
        · rw [if_neg c3] at H
          exact absurd H (by simp)
      · rw [if_neg c2] at H
        have c2b0:decide (x4_1<(l0.length:Int))=false:=decide_eq_false c2
        clear c2
        obtain rfl:=Option.some.inj H
        go_wp2
        go_ret
        exact ⟨by first|rfl|(simp;done)|(simp [*];done),by repeat (first|exact Drawn0.refl _|apply Drawn0.step)⟩
def gimbalref22_Encode.f (k:Nat) (a0_0:Int) (a0_1:Int) (l0_2:List Int):Option (List Int):=(some (([126,((l0_2.length:Int)/256)%256,((l0_2.length:Int))%256,(a0_0)%256,(a0_1)%256]:List Int):List Int)).bind fun y103=>(if y103.length+l0_2.length<140737488355328 then ((some (y103++l0_2:List Int)).bind fun y106=>(if 1≤(y106.length:Int) then ((gimbalref22_Sum.f k (y106.drop 1)).bind fun t113=>((some (([(t113/256)%256,(t113)%256]:List Int):List Int)).bind fun y114=>(if y106.length+y114.length<140737488355328 then (some (y106++y114)) else (none)))) else (none))) else (none))
set_option maxHeartbeats 8000000 in
set_option maxRecDepth 100000 in
theorem gimbalref22_Encode.calls (k:Nat) (a0_0:Int) (a0_1:Int) (A0_2:Option Addr) (c0_2:Nat) (l0_2:List Int) (r:List Int) (w:World) (hr0_2:Kd.C (Kd.int .u8) w A0_2 l0_2.length l0_2) (hc0_2:l0_2.length≤c0_2) (h:gimbalref22_Encode.f k a0_0 a0_1 l0_2=some r) :
    Calls Try.prog 30 #[.agg #[.int .i64 a0_0,.int .i64 a0_1,.slice A0_2 l0_2.length c0_2]] w fun e w'=>∃ v0_:Value,e = .returned (v0_)∧Kd.R (Kd.int .u8) 5 w' w.heap.size (fun _=>True) v0_ r∧Below w.heap.size w w':=by
  have hu54:=Try.underlying54
  have HR0_2:=Aside0.mk hr0_2
  have HC0_2:=Aside0.mk hc0_2
  clear hr0_2 hc0_2
  have HB:=Aside0.mk (Below.refl w.heap.size w)
  have H:((some (([126,((l0_2.length:Int)/256)%256,((l0_2.length:Int))%256,(a0_0)%256,(a0_1)%256]:List Int):List Int)).bind fun y103=>(if y103.length+l0_2.length<140737488355328 then ((some (y103++l0_2:List Int)).bind fun y106=>(if 1≤(y106.length:Int) then ((gimbalref22_Sum.f k (y106.drop 1)).bind fun t113=>((some (([(t113/256)%256,(t113)%256]:List Int):List Int)).bind fun y114=>(if y106.length+y114.length<140737488355328 then (some (y106++y114)) else (none)))) else (none))) else (none)))=some r:=h
  clear h
  obtain ⟨y103,hy103⟩:∃ y_:List Int,y_=(([126,((l0_2.length:Int)/256)%256,((l0_2.length:Int))%256,(a0_0)%256,(a0_1)%256]:List Int)):=⟨_,rfl⟩
  replace H:(if y103.length+l0_2.length<140737488355328 then ((some (y103++l0_2:List Int)).bind fun y106=>(if 1≤(y106.length:Int) then ((gimbalref22_Sum.f k (y106.drop 1)).bind fun t113=>((some (([(t113/256)%256,(t113)%256]:List Int):List Int)).bind fun y114=>(if y106.length+y114.length<140737488355328 then (some (y106++y114)) else (none)))) else (none))) else (none))=some r:=by first|(rw [hy103];with_reducible exact H)|(have H2_:=(Option.bind_some _ _).symm.trans H;rw [hy103];with_reducible exact H2_)|(have H2_:=(Option.bind_some _ _).symm.trans H;with_reducible exact H2_)|with_reducible exact H|(rw [hy103];exact H)|exact H
  have Ny103:=Aside0.mk hy103
  clear hy103
  by_cases c2:y103.length+l0_2.length<140737488355328
  · rw [if_pos c2] at H
    have LMc2:=Aside0.mk c2
    clear c2
    obtain ⟨y106,hy106⟩:∃ y_:List Int,y_=(y103++l0_2):=⟨_,rfl⟩
    replace H:(if 1≤(y106.length:Int) then ((gimbalref22_Sum.f k (y106.drop 1)).bind fun t113=>((some (([(t113/256)%256,(t113)%256]:List Int):List Int)).bind fun y114=>(if y106.length+y114.length<140737488355328 then (some (y106++y114)) else (none)))) else (none))=some r:=by first|(rw [hy106];with_reducible exact H)|(have H2_:=(Option.bind_some _ _).symm.trans H;rw [hy106];with_reducible exact H2_)|(have H2_:=(Option.bind_some _ _).symm.trans H;with_reducible exact H2_)|with_reducible exact H|(rw [hy106];exact H)|exact H
    have Ny106:=Aside0.mk hy106
    clear hy106
    by_cases c3:1≤(y106.length:Int)
    · rw [if_pos c3] at H
      have c3b0:=eq_true c3
      have c3b1:decide (1≤(y106.length:Int))=true:=decide_eq_true c3
      clear c3
      obtain ⟨y109,hy109⟩:∃ y_:List Int,y_=(y106.drop 1):=⟨_,rfl⟩
      replace H:((gimbalref22_Sum.f k y109).bind fun t113=>((some (([(t113/256)%256,(t113)%256]:List Int):List Int)).bind fun y114=>(if y106.length+y114.length<140737488355328 then (some (y106++y114)) else (none))))=some r:=by first|(rw [hy109];with_reducible exact H)|(have H2_:=(Option.bind_some _ _).symm.trans H;rw [hy109];with_reducible exact H2_)|(have H2_:=(Option.bind_some _ _).symm.trans H;with_reducible exact H2_)|with_reducible exact H|(rw [hy109];exact H)|exact H
      have Ny109:=Aside0.mk hy109
      clear hy109
      replace H:=Option.bind_eq_some_iff.mp H
      obtain ⟨t113,A40,H⟩:=H
      replace H:((some (([(t113/256)%256,(t113)%256]:List Int):List Int)).bind fun y114=>(if y106.length+y114.length<140737488355328 then (some (y106++y114)) else (none)))=some r:=H
      have A4:=Aside0.mk A40
      clear A40
      obtain ⟨y114,hy114⟩:∃ y_:List Int,y_=(([(t113/256)%256,(t113)%256]:List Int)):=⟨_,rfl⟩
      replace H:(if y106.length+y114.length<140737488355328 then (some (y106++y114)) else (none))=some r:=by first|(rw [hy114];with_reducible exact H)|(have H2_:=(Option.bind_some _ _).symm.trans H;rw [hy114];with_reducible exact H2_)|(have H2_:=(Option.bind_some _ _).symm.trans H;with_reducible exact H2_)|with_reducible exact H|(rw [hy114];exact H)|exact H
      have Ny114:=Aside0.mk hy114
      clear hy114
      by_cases c5:y106.length+y114.length<140737488355328
      · rw [if_pos c5] at H
        have LMc5:=Aside0.mk c5
        clear c5
        obtain ⟨y117,hy117⟩:∃ y_:List Int,y_=(y106++y114):=⟨_,rfl⟩
        replace H:(some y117)=some r:=by first|(rw [hy117];with_reducible exact H)|(have H2_:=(Option.bind_some _ _).symm.trans H;rw [hy117];with_reducible exact H2_)|(have H2_:=(Option.bind_some _ _).symm.trans H;with_reducible exact H2_)|with_reducible exact H|(rw [hy117];exact H)|exact H
        have Ny117:=Aside0.mk hy117
        clear hy117
        obtain rfl:=Option.some.inj H
        go_enter Try.func30,Try.ntmps30
        go_wp2_with (first|((with_reducible refine gate_dst (N:=1) rfl ?_);refine box_event ?hg (N:=1) ?hd (cs:=#[.int .i64 a0_0,.int .i64 a0_1,.slice A0_2 l0_2.length c0_2]) (t:=54) ?hr ?_;(case hd=>rfl);(case hg=>rfl);(case hr=>first|(go_simp;done)|(go_simp;rfl));intro gb102 hg w6 hbox hb;have n0_:=Aside0.mk (below_step (by repeat (first|(with_reducible first|exact HB.out|apply below_alloc|apply pw_below_drewN|apply below_drew1)|exact HB.out)) hb);have n1_:=Aside0.mk (hbox);have n2_:=Aside0.mk ((by rw [hg];exact (below_size (by repeat (first|(with_reducible first|exact HB.out|apply below_alloc|apply pw_below_drewN|apply below_drew1)|exact HB.out))):w.heap.size≤gb102));have n3_:=Aside0.mk ((by rw [hg];exact (below_size (by repeat (first|(with_reducible first|exact HB.out|apply below_alloc|apply pw_below_drewN|apply below_drew1)|exact HB.out))):w.heap.size≤gb102));clear HB;have HB:=n0_;have BK102:=n1_;have GW102:=n2_;have GE102:=n3_;clear n0_ n1_ n2_ n3_;clear hb hbox hg;have hcz7_0:w6.cell? ⟨gb102,0,none⟩=some (.int .i64 a0_0):=(blk_cell BK102.out 0).trans rfl;have hcz7_1:w6.cell? ⟨gb102,1,none⟩=some (.int .i64 a0_1):=(blk_cell BK102.out 1).trans rfl;have hcz7_2:w6.cell? ⟨gb102,2,none⟩=some (.slice A0_2 l0_2.length c0_2):=(blk_cell BK102.out 2).trans rfl;have hfz7_0:=blk_frozen BK102.out 0;have hfz7_1:=blk_frozen BK102.out 1;have hfz7_2:=blk_frozen BK102.out 2)|((with_reducible refine gate_dst (N:=20) rfl ?_);refine Kd.R_lit (Kd.int .u8) _ 5 ?hg (N:=20) ?hd (xs:=([126,((l0_2.length:Int)/256)%256,((l0_2.length:Int))%256,(a0_0)%256,(a0_1)%256]:List Int)) (inner:=[.int .u8 126,.int .u8 (((l0_2.length:Int)/256)%256),.int .u8 (((l0_2.length:Int))%256),.int .u8 ((a0_0)%256),.int .u8 ((a0_1)%256)]) (ok:=fun _=>True) (okp:=fun _=>True) ?hr ?hp (fun _ hk=>hk) trivial (Below.refl _ _) (Nat.le_refl _) (by simp) ?_;(case hd=>rfl);(case hg=>rfl);(case hr=>first|(go_simp;done)|(go_simp;rfl));(case hp=>exact (Reps.one (show Kd.M (Kd.int .u8) _ _ _ 126 [.int .u8 126] from rfl) (Reps.one (show Kd.M (Kd.int .u8) _ _ _ (((l0_2.length:Int)/256)%256) [.int .u8 (((l0_2.length:Int)/256)%256)] from rfl) (Reps.one (show Kd.M (Kd.int .u8) _ _ _ (((l0_2.length:Int))%256) [.int .u8 (((l0_2.length:Int))%256)] from rfl) (Reps.one (show Kd.M (Kd.int .u8) _ _ _ ((a0_0)%256) [.int .u8 ((a0_0)%256)] from rfl) (Reps.one (show Kd.M (Kd.int .u8) _ _ _ ((a0_1)%256) [.int .u8 ((a0_1)%256)] from rfl) (Reps.none _ _)))))));intro v104 w8 ho9 hb hg_ hnew_;clear hg_ hnew_;(first|rw [← Ny103.out] at ho9|(simp only [Int.reduceToNat] at ho9;rw [← Ny103.out] at ho9));have n0_:=Aside0.mk (Kd.R_lower ho9 (below_size (by repeat (first|(with_reducible first|exact HB.out|apply below_alloc|apply pw_below_drewN|apply below_drew1|refine below_set ?_ GE102.out)|exact HB.out))));have n1_:=Aside0.mk (blk_below (g:=gb102) (o := .cells #[.int .i64 a0_0,.int .i64 a0_1,.slice A0_2 l0_2.length c0_2] 54 (0,0)) (by (with_reducible repeat (first|refine blk_drewN ?_ _|refine blk_drew ?_|refine blk_alloc ?_ _));exact BK102.out) hb);have n2_:=Aside0.mk (below_step (by repeat (first|(with_reducible first|exact HB.out|apply below_alloc|apply pw_below_drewN|apply below_drew1|refine below_set ?_ GE102.out)|exact HB.out)) hb);clear BK102;clear HB;have HO105:=n0_;have BK102:=n1_;have HB:=n2_;clear n0_ n1_ n2_;clear hb ho9;have hcz10_0:w8.cell? ⟨gb102,0,none⟩=some (.int .i64 a0_0):=(blk_cell BK102.out 0).trans rfl;have hcz10_1:w8.cell? ⟨gb102,1,none⟩=some (.int .i64 a0_1):=(blk_cell BK102.out 1).trans rfl;have hcz10_2:w8.cell? ⟨gb102,2,none⟩=some (.slice A0_2 l0_2.length c0_2):=(blk_cell BK102.out 2).trans rfl;have hfz10_0:=blk_frozen BK102.out 0;have hfz10_1:=blk_frozen BK102.out 1;have hfz10_2:=blk_frozen BK102.out 2)|((with_reducible refine gate_builtin (b := .append) (xs:=#[.tmp 21,.tmp 23]) rfl ?_);at_builtin;refine Kd.R_append_rows (Kd.int .u8) (w0:=w) w.heap.size rfl (.tmp 21) (.tmp 23) 25 5 (.int .u8 0) 1 rfl Try.underlying25 info5 rfl (by decide) (by omega) v104 y103 l0_2 _ _ _ (fun _=>True) (fun _=>False) rfl rfl ?aO ?aR (fun _ _ h=>h) (fun _ h=>h.elim) ?aF ?aB ?aS ?aL ?_;(case aR=>repeat (first|exact (Kd.C_below HR0_2.out HB.out)|(with_reducible refine Kd.C_alloc ?_ _)|(with_reducible refine Kd.C_drewN ?_ _)|(with_reducible refine Kd.C_drew ?_)));(case aB=>exact (by repeat (first|(with_reducible first|exact HB.out|apply below_alloc|apply pw_below_drewN|apply below_drew1|refine below_set ?_ GE102.out)|exact HB.out)));(case aF=>exact (fun _ _=>trivial));(case aO=>exact (by (with_reducible repeat (first|apply Kd.R_alloc|apply Kd.R_drewN|apply Kd.R_drew));exact HO105.out));(case aS=>exact (below_size (by repeat (first|(with_reducible first|exact HB.out|apply below_alloc|apply pw_below_drewN|apply below_drew1|refine below_set ?_ GE102.out)|exact HB.out))));(case aL=>have:=LMc2.out;omega);intro v107 w11 ho hb hg hat;rw [← Ny106.out] at ho;have n0_:=Aside0.mk (blk_grown (g:=gb102) (o := .cells #[.int .i64 a0_0,.int .i64 a0_1,.slice A0_2 l0_2.length c0_2] 54 (0,0)) (by (with_reducible repeat (first|refine blk_drewN ?_ _|refine blk_drew ?_|refine blk_alloc ?_ _));exact BK102.out) hg (Kd.R_ne HO105.out BK102.out (by decide)));have n1_:=Aside0.mk (hb);have n2_:=Aside0.mk (ho);clear BK102;clear HB;clear HO105;have BK102:=n0_;have HB:=n1_;have HO108:=n2_;clear n0_ n1_ n2_;clear ho hb hg hat;obtain ⟨Ao13,co13,eo13⟩:=Kd.R_slice HO108.out;subst eo13;have q12:(1:Int)≤((y106.length:Int):Int):=of_decide_eq_true (by first|(with_reducible assumption)|assumption);obtain ⟨i012,hi012,_,hsz12,_⟩:=info_parts info5;have hroom12:y106.length≤co13:=(Kd.R_reads' HO108.out).2.1;have hC12:Kd.C (Kd.int .u8) _ Ao13 y106.length y106:=(Kd.R_reads' HO108.out).2.2;have hcut12:=cut_from (P:=Try.prog) 25 5 .i64 Try.underlying25 hi012 1 hsz12 Ao13 y106.length co13 1 (by omega) q12;have hr12:=Kd.C_drop (m:=(1:Int).toNat) (c:=co13) hC12 (by omega) hroom12;obtain ⟨A12,hA12⟩:∃ A1,A1=(if co13=(1:Int).toNat then Ao13 else (Ao13:Option Addr).map (·.add ((1:Int).toNat*1))):=⟨_,rfl⟩;obtain ⟨c12,hc12⟩:∃ c1,c1=co13-(1:Int).toNat:=⟨_,rfl⟩;have hy12:y109.length=y106.length-(1:Int).toNat:=(by rw [Ny109.out,List.length_drop]<;>omega);rw [show (y106).drop (1:Int).toNat=y109 from Ny109.out.symm] at hr12;replace hr12:Kd.C (Kd.int .u8) _ A12 y109.length y109:=(by rw [hA12];exact hr12);rw [← hy12,← hA12,← hc12] at hcut12;have HR112:=Aside0.mk hr12;have HC112:=Aside0.mk (show y109.length≤c12 from by rw [hy12,hc12];exact Nat.sub_le_sub_right hroom12 _);clear hr12 hC12 hroom12 hi012 hsz12 hc12;have KY12:=Aside0.mk hy12;have KA12:=Aside0.mk hA12;clear hy12 hA12;have KL12:=Aside0.mk (show 1≤y106.length from by omega);replace q12:=eq_true q12)|((with_reducible refine gate_callee (f:=78) rfl ?_);refine goesL_ (some 27) rfl rfl Try.func78 (by kernel_rfl) rfl #[.slice A12 y109.length c12] rfl (by (try simp only [List.map_toArray,List.map_cons,List.map_nil]);first|done|rfl|(simp only [List.length_drop,List.length_take];rfl)) ?_;(with_reducible refine (gimbalref22_Sum.calls k _ _ y109 t113 _ ?side1 ?side2 A4.out).mono ?_);(case side1=>repeat (first|exact (by repeat (first|(with_reducible exact HR112.out)|(with_reducible refine Kd.C_alloc ?_ _)|(with_reducible refine Kd.C_drewN ?_ _)|(with_reducible refine Kd.C_drew ?_)|exact HR112.out))|(with_reducible refine Kd.C_alloc ?_ _)|(with_reducible refine Kd.C_drewN ?_ _)|(with_reducible refine Kd.C_drew ?_)));(case side2=>exact HC112.out);rintro e w' ⟨rfl,⟨nd,rfl⟩⟩;refine ⟨_,rfl,?_⟩)|((with_reducible refine gate_dst (N:=34) rfl ?_);refine Kd.R_lit (Kd.int .u8) _ 5 ?hg (N:=34) ?hd (xs:=([(t113/256)%256,(t113)%256]:List Int)) (inner:=[.int .u8 ((t113/256)%256),.int .u8 ((t113)%256)]) (ok:=fun _=>True) (okp:=fun _=>True) ?hr ?hp (fun _ hk=>hk) trivial (Below.refl _ _) (Nat.le_refl _) (by simp) ?_;(case hd=>rfl);(case hg=>rfl);(case hr=>first|(go_simp;done)|(go_simp;rfl));(case hp=>exact (Reps.one (show Kd.M (Kd.int .u8) _ _ _ ((t113/256)%256) [.int .u8 ((t113/256)%256)] from rfl) (Reps.one (show Kd.M (Kd.int .u8) _ _ _ ((t113)%256) [.int .u8 ((t113)%256)] from rfl) (Reps.none _ _))));intro v115 w14 ho15 hb hg_ hnew_;clear hg_ hnew_;(first|rw [← Ny114.out] at ho15|(simp only [Int.reduceToNat] at ho15;rw [← Ny114.out] at ho15));have n0_:=Aside0.mk (Kd.R_elder' (by (with_reducible repeat (first|apply Kd.R_alloc|apply Kd.R_drewN|apply Kd.R_drew));exact HO108.out) (Kd.R_base ho15) hb);have n1_:=Aside0.mk (Kd.R_lower (Kd.R_new' ho15 (Kd.R_lt (by (with_reducible repeat (first|apply Kd.R_alloc|apply Kd.R_drewN|apply Kd.R_drew));exact HO108.out))) (below_size (by repeat (first|(with_reducible first|exact HB.out|apply below_alloc|apply pw_below_drewN|apply below_drew1|refine below_set ?_ GE102.out)|exact HB.out))));have n2_:=Aside0.mk (blk_below (g:=gb102) (o := .cells #[.int .i64 a0_0,.int .i64 a0_1,.slice A0_2 l0_2.length c0_2] 54 (0,0)) (by (with_reducible repeat (first|refine blk_drewN ?_ _|refine blk_drew ?_|refine blk_alloc ?_ _));exact BK102.out) hb);have n3_:=Aside0.mk (Kd.C_below (by repeat (first|(with_reducible exact HR112.out)|(with_reducible refine Kd.C_alloc ?_ _)|(with_reducible refine Kd.C_drewN ?_ _)|(with_reducible refine Kd.C_drew ?_)|exact HR112.out)) hb);have n4_:=Aside0.mk (below_step (by repeat (first|(with_reducible first|exact HB.out|apply below_alloc|apply pw_below_drewN|apply below_drew1|refine below_set ?_ GE102.out)|exact HB.out)) hb);clear HO108;clear BK102;clear HR112;clear HB;have HO108:=n0_;have HO116:=n1_;have BK102:=n2_;have HR112:=n3_;have HB:=n4_;clear n0_ n1_ n2_ n3_ n4_;clear hb ho15;obtain ⟨Ao17,co17,eo17⟩:=Kd.R_slice HO116.out;subst eo17)|((with_reducible refine gate_builtin (b := .append) (xs:=#[.tmp 28,.tmp 34]) rfl ?_);at_builtin;refine Kd.R_append_rows (Kd.int .u8) (w0:=w) w.heap.size rfl (.tmp 28) (.tmp 34) 25 5 (.int .u8 0) 1 rfl Try.underlying25 info5 rfl (by decide) (by omega) (.slice Ao13 y106.length co13) y106 y114 _ _ _ (fun k_=>some k_≠(.slice Ao17 y114.length co17:Value).ownBlock) (fun _=>False) rfl rfl ?aO ?aR (fun _ _ h=>h) (fun _ h=>h.elim) ?aF ?aB ?aS ?aL ?_;(case aR=>repeat (first|exact (Kd.R_reads' HO116.out).2.2|(with_reducible refine Kd.C_alloc ?_ _)|(with_reducible refine Kd.C_drewN ?_ _)|(with_reducible refine Kd.C_drew ?_)));(case aB=>exact (by repeat (first|(with_reducible first|exact HB.out|apply below_alloc|apply pw_below_drewN|apply below_drew1|refine below_set ?_ GE102.out)|exact HB.out)));(case aF=>exact (fun k_ hk=>Kd.fresh' (Kd.R_lt (by (with_reducible repeat (first|apply Kd.R_alloc|apply Kd.R_drewN|apply Kd.R_drew));exact HO116.out)) k_ hk));(case aO=>exact (by (with_reducible repeat (first|apply Kd.R_alloc|apply Kd.R_drewN|apply Kd.R_drew));exact Kd.R_mono HO108.out (fun _ hk=>hk.2)));(case aS=>exact (below_size (by repeat (first|(with_reducible first|exact HB.out|apply below_alloc|apply pw_below_drewN|apply below_drew1|refine below_set ?_ GE102.out)|exact HB.out))));(case aL=>have:=LMc5.out;omega);intro v118 w16 ho hb hg hat;rw [← Ny117.out] at ho;have n0_:=Aside0.mk (blk_grown (g:=gb102) (o := .cells #[.int .i64 a0_0,.int .i64 a0_1,.slice A0_2 l0_2.length c0_2] 54 (0,0)) (by (with_reducible repeat (first|refine blk_drewN ?_ _|refine blk_drew ?_|refine blk_alloc ?_ _));exact BK102.out) hg (Kd.R_ne HO108.out BK102.out (by decide)));have n1_:=Aside0.mk (Kd.R_after (ok:=(fun _=>True)) (by (with_reducible repeat (first|apply Kd.R_alloc|apply Kd.R_drewN|apply Kd.R_drew));exact HO116.out) hg hat);have n2_:=Aside0.mk (hb);have n3_:=Aside0.mk (ho);clear BK102;clear HO116;clear HB;clear HO108;have BK102:=n0_;have HO116:=n1_;have HB:=n2_;have HO119:=n3_;clear n0_ n1_ n2_ n3_;clear ho hb hg hat))
        go_ret
        exact ⟨_,by first|rfl|(simp [errW_none,errW_some]<;>rfl)|(simp [*,errW_none,errW_some]<;>rfl),by (with_reducible repeat (first|apply Kd.R_alloc|apply Kd.R_drewN|apply Kd.R_drew));exact Kd.R_mono HO119.out (fun _ hk=>trivial),by repeat (first|(with_reducible first|exact HB.out|apply below_alloc|apply pw_below_drewN|apply below_drew1|refine below_set ?_ GE102.out)|exact HB.out)⟩
      · rw [if_neg c5] at H
        exact absurd H (by simp)
    · rw [if_neg c3] at H
      exact absurd H (by simp)
  · rw [if_neg c2] at H
    exact absurd H (by simp)
def gimbalref22_Kind.f (a0:Int):Option (Bool):=if a0≥1 then (some (decide (a0≤10))) else (some false)
set_option maxHeartbeats 8000000 in
set_option maxRecDepth 100000 in
theorem gimbalref22_Kind.calls (a0:Int) (r:Bool) (w:World) (h:gimbalref22_Kind.f a0=some r) :
    Calls Try.prog 77 #[.int .i64 a0] w fun e w'=>e = .returned (.bool r)∧Drawn0 w w':=by
  have H:(if a0≥1 then (some (decide (a0≤10))) else (some false))=some r:=h
  clear h
  by_cases c2:a0≥1
  · rw [if_pos c2] at H
    have c2b0:decide (1≤a0)=true:=decide_eq_true c2
    clear c2
    obtain rfl:=Option.some.inj H
    go_enter Try.func77,Try.ntmps77
    go_wp2
    go_ret
    exact ⟨by first|rfl|(simp;done)|(simp [*];done),by repeat (first|exact Drawn0.refl _|apply Drawn0.step)⟩
  · rw [if_neg c2] at H
    have c2b0:decide (1≤a0)=false:=decide_eq_false c2
    clear c2
    obtain rfl:=Option.some.inj H
    go_enter Try.func77,Try.ntmps77
    go_wp2
    go_ret
    exact ⟨by first|rfl|(simp;done)|(simp [*];done),by repeat (first|exact Drawn0.refl _|apply Drawn0.step)⟩
def gimbalref22_May.f (a0_0:Int) (a0_1:Int) (l0_2:List Int):Option (Bool):=if a0_0≥0 then (if a0_0≤255 then ((gimbalref22_Kind.f a0_1).bind fun t121=>(if t121=true then (some (decide ((l0_2.length:Int)≤256))) else (some false))) else (some false)) else (some false)
set_option maxHeartbeats 8000000 in
set_option maxRecDepth 100000 in
theorem gimbalref22_May.calls (a0_0:Int) (a0_1:Int) (A0_2:Option Addr) (c0_2:Nat) (l0_2:List Int) (r:Bool) (w:World) (hr0_2:Kd.C (Kd.int .u8) w A0_2 l0_2.length l0_2) (hc0_2:l0_2.length≤c0_2) (h:gimbalref22_May.f a0_0 a0_1 l0_2=some r) :
    Calls Try.prog 29 #[.agg #[.int .i64 a0_0,.int .i64 a0_1,.slice A0_2 l0_2.length c0_2]] w fun e w'=>e = .returned (.bool r)∧Below w.heap.size w w':=by
  have hu54:=Try.underlying54
  have HR0_2:=Aside0.mk hr0_2
  have HC0_2:=Aside0.mk hc0_2
  clear hr0_2 hc0_2
  have HB:=Aside0.mk (Below.refl w.heap.size w)
  have H:(if a0_0≥0 then (if a0_0≤255 then ((gimbalref22_Kind.f a0_1).bind fun t121=>(if t121=true then (some (decide ((l0_2.length:Int)≤256))) else (some false))) else (some false)) else (some false))=some r:=h
  clear h
  by_cases c2:a0_0≥0
  · rw [if_pos c2] at H
    have c2b0:decide (0≤a0_0)=true:=decide_eq_true c2
    clear c2
    by_cases c3:a0_0≤255
    · rw [if_pos c3] at H
      have c3b0:decide (a0_0≤255)=true:=decide_eq_true c3
      clear c3
      replace H:=Option.bind_eq_some_iff.mp H
      obtain ⟨t121,A40,H⟩:=H
      replace H:(if t121=true then (some (decide ((l0_2.length:Int)≤256))) else (some false))=some r:=H
      have A4:=Aside0.mk A40
      clear A40
      by_cases c5:t121=true
      · subst c5
        have H1:(some (decide ((l0_2.length:Int)≤256)))=some r:=by rw [if_pos rfl] at H;exact H
        clear H
        have H:=H1
        clear H1
        obtain rfl:=Option.some.inj H
        go_enter Try.func29,Try.ntmps29
        go_wp2_with (first|((with_reducible refine gate_dst (N:=1) rfl ?_);(try (refine gate_guard (by rfl) ?_;dsimp only));refine box_event ?hg (N:=1) ?hd (cs:=#[.int .i64 a0_0,.int .i64 a0_1,.slice A0_2 l0_2.length c0_2]) (t:=54) ?hr ?_;(case hd=>rfl);(case hg=>rfl);(case hr=>first|(go_simp;done)|(go_simp;rfl));intro gb120 hg w6 hbox hb;have n0_:=Aside0.mk (below_step (by repeat (first|(with_reducible first|exact HB.out|apply below_alloc|apply pw_below_drewN|apply below_drew1)|exact HB.out)) hb);have n1_:=Aside0.mk (hbox);have n2_:=Aside0.mk ((by rw [hg];exact (below_size (by repeat (first|(with_reducible first|exact HB.out|apply below_alloc|apply pw_below_drewN|apply below_drew1)|exact HB.out))):w.heap.size≤gb120));have n3_:=Aside0.mk ((by rw [hg];exact (below_size (by repeat (first|(with_reducible first|exact HB.out|apply below_alloc|apply pw_below_drewN|apply below_drew1)|exact HB.out))):w.heap.size≤gb120));clear HB;have HB:=n0_;have BK120:=n1_;have GW120:=n2_;have GE120:=n3_;clear n0_ n1_ n2_ n3_;clear hb hbox hg;have hcz7_0:w6.cell? ⟨gb120,0,none⟩=some (.int .i64 a0_0):=(blk_cell BK120.out 0).trans rfl;have hcz7_1:w6.cell? ⟨gb120,1,none⟩=some (.int .i64 a0_1):=(blk_cell BK120.out 1).trans rfl;have hcz7_2:w6.cell? ⟨gb120,2,none⟩=some (.slice A0_2 l0_2.length c0_2):=(blk_cell BK120.out 2).trans rfl;have hfz7_0:=blk_frozen BK120.out 0;have hfz7_1:=blk_frozen BK120.out 1;have hfz7_2:=blk_frozen BK120.out 2)|(go_at_call 77;(with_reducible refine (gimbalref22_Kind.calls a0_1 true _ A4.out).mono ?_);rintro e w' ⟨rfl,⟨nd,rfl⟩⟩))
        go_ret
        exact ⟨by first|rfl|(simp [errW_none,errW_some]<;>rfl)|(simp [*,errW_none,errW_some]<;>rfl),by repeat (first|(with_reducible first|exact HB.out|apply below_alloc|apply pw_below_drewN|apply below_drew1|refine below_set ?_ GE120.out)|exact HB.out)⟩
      · replace c5:=Bool.eq_false_iff.mpr c5
        subst c5
        have H1:(some false)=some r:=by rw [if_neg (show ¬ (false=true) by decide)] at H;exact H
        clear H
        have H:=H1
        clear H1
        obtain rfl:=Option.some.inj H
        go_enter Try.func29,Try.ntmps29
        go_wp2_with (first|((with_reducible refine gate_dst (N:=1) rfl ?_);(try (refine gate_guard (by rfl) ?_;dsimp only));refine box_event ?hg (N:=1) ?hd (cs:=#[.int .i64 a0_0,.int .i64 a0_1,.slice A0_2 l0_2.length c0_2]) (t:=54) ?hr ?_;(case hd=>rfl);(case hg=>rfl);(case hr=>first|(go_simp;done)|(go_simp;rfl));intro gb120 hg w8 hbox hb;have n0_:=Aside0.mk (below_step (by repeat (first|(with_reducible first|exact HB.out|apply below_alloc|apply pw_below_drewN|apply below_drew1)|exact HB.out)) hb);have n1_:=Aside0.mk (hbox);have n2_:=Aside0.mk ((by rw [hg];exact (below_size (by repeat (first|(with_reducible first|exact HB.out|apply below_alloc|apply pw_below_drewN|apply below_drew1)|exact HB.out))):w.heap.size≤gb120));have n3_:=Aside0.mk ((by rw [hg];exact (below_size (by repeat (first|(with_reducible first|exact HB.out|apply below_alloc|apply pw_below_drewN|apply below_drew1)|exact HB.out))):w.heap.size≤gb120));clear HB;have HB:=n0_;have BK120:=n1_;have GW120:=n2_;have GE120:=n3_;clear n0_ n1_ n2_ n3_;clear hb hbox hg;have hcz9_0:w8.cell? ⟨gb120,0,none⟩=some (.int .i64 a0_0):=(blk_cell BK120.out 0).trans rfl;have hcz9_1:w8.cell? ⟨gb120,1,none⟩=some (.int .i64 a0_1):=(blk_cell BK120.out 1).trans rfl;have hcz9_2:w8.cell? ⟨gb120,2,none⟩=some (.slice A0_2 l0_2.length c0_2):=(blk_cell BK120.out 2).trans rfl;have hfz9_0:=blk_frozen BK120.out 0;have hfz9_1:=blk_frozen BK120.out 1;have hfz9_2:=blk_frozen BK120.out 2)|(go_at_call 77;(with_reducible refine (gimbalref22_Kind.calls a0_1 false _ A4.out).mono ?_);rintro e w' ⟨rfl,⟨nd,rfl⟩⟩))
        go_ret
        exact ⟨by first|rfl|(simp [errW_none,errW_some]<;>rfl)|(simp [*,errW_none,errW_some]<;>rfl),by repeat (first|(with_reducible first|exact HB.out|apply below_alloc|apply pw_below_drewN|apply below_drew1|refine below_set ?_ GE120.out)|exact HB.out)⟩
    · rw [if_neg c3] at H
      have c3b0:decide (a0_0≤255)=false:=decide_eq_false c3
      clear c3
      obtain rfl:=Option.some.inj H
      go_enter Try.func29,Try.ntmps29
      go_wp2_with (first|((with_reducible refine gate_dst (N:=1) rfl ?_);(try (refine gate_guard (by rfl) ?_;dsimp only));refine box_event ?hg (N:=1) ?hd (cs:=#[.int .i64 a0_0,.int .i64 a0_1,.slice A0_2 l0_2.length c0_2]) (t:=54) ?hr ?_;(case hd=>rfl);(case hg=>rfl);(case hr=>first|(go_simp;done)|(go_simp;rfl));intro gb120 hg w10 hbox hb;have n0_:=Aside0.mk (below_step (by repeat (first|(with_reducible first|exact HB.out|apply below_alloc|apply pw_below_drewN|apply below_drew1)|exact HB.out)) hb);have n1_:=Aside0.mk (hbox);have n2_:=Aside0.mk ((by rw [hg];exact (below_size (by repeat (first|(with_reducible first|exact HB.out|apply below_alloc|apply pw_below_drewN|apply below_drew1)|exact HB.out))):w.heap.size≤gb120));have n3_:=Aside0.mk ((by rw [hg];exact (below_size (by repeat (first|(with_reducible first|exact HB.out|apply below_alloc|apply pw_below_drewN|apply below_drew1)|exact HB.out))):w.heap.size≤gb120));clear HB;have HB:=n0_;have BK120:=n1_;have GW120:=n2_;have GE120:=n3_;clear n0_ n1_ n2_ n3_;clear hb hbox hg;have hcz11_0:w10.cell? ⟨gb120,0,none⟩=some (.int .i64 a0_0):=(blk_cell BK120.out 0).trans rfl;have hcz11_1:w10.cell? ⟨gb120,1,none⟩=some (.int .i64 a0_1):=(blk_cell BK120.out 1).trans rfl;have hcz11_2:w10.cell? ⟨gb120,2,none⟩=some (.slice A0_2 l0_2.length c0_2):=(blk_cell BK120.out 2).trans rfl;have hfz11_0:=blk_frozen BK120.out 0;have hfz11_1:=blk_frozen BK120.out 1;have hfz11_2:=blk_frozen BK120.out 2))
      go_ret
      exact ⟨by first|rfl|(simp [errW_none,errW_some]<;>rfl)|(simp [*,errW_none,errW_some]<;>rfl),by repeat (first|(with_reducible first|exact HB.out|apply below_alloc|apply pw_below_drewN|apply below_drew1|refine below_set ?_ GE120.out)|exact HB.out)⟩
  · rw [if_neg c2] at H
    have c2b0:decide (0≤a0_0)=false:=decide_eq_false c2
    clear c2
    obtain rfl:=Option.some.inj H
    go_enter Try.func29,Try.ntmps29
    go_wp2_with (first|((with_reducible refine gate_dst (N:=1) rfl ?_);(try (refine gate_guard (by rfl) ?_;dsimp only));refine box_event ?hg (N:=1) ?hd (cs:=#[.int .i64 a0_0,.int .i64 a0_1,.slice A0_2 l0_2.length c0_2]) (t:=54) ?hr ?_;(case hd=>rfl);(case hg=>rfl);(case hr=>first|(go_simp;done)|(go_simp;rfl));intro gb120 hg w12 hbox hb;have n0_:=Aside0.mk (below_step (by repeat (first|(with_reducible first|exact HB.out|apply below_alloc|apply pw_below_drewN|apply below_drew1)|exact HB.out)) hb);have n1_:=Aside0.mk (hbox);have n2_:=Aside0.mk ((by rw [hg];exact (below_size (by repeat (first|(with_reducible first|exact HB.out|apply below_alloc|apply pw_below_drewN|apply below_drew1)|exact HB.out))):w.heap.size≤gb120));have n3_:=Aside0.mk ((by rw [hg];exact (below_size (by repeat (first|(with_reducible first|exact HB.out|apply below_alloc|apply pw_below_drewN|apply below_drew1)|exact HB.out))):w.heap.size≤gb120));clear HB;have HB:=n0_;have BK120:=n1_;have GW120:=n2_;have GE120:=n3_;clear n0_ n1_ n2_ n3_;clear hb hbox hg;have hcz13_0:w12.cell? ⟨gb120,0,none⟩=some (.int .i64 a0_0):=(blk_cell BK120.out 0).trans rfl;have hcz13_1:w12.cell? ⟨gb120,1,none⟩=some (.int .i64 a0_1):=(blk_cell BK120.out 1).trans rfl;have hcz13_2:w12.cell? ⟨gb120,2,none⟩=some (.slice A0_2 l0_2.length c0_2):=(blk_cell BK120.out 2).trans rfl;have hfz13_0:=blk_frozen BK120.out 0;have hfz13_1:=blk_frozen BK120.out 1;have hfz13_2:=blk_frozen BK120.out 2))
    go_ret
    exact ⟨by first|rfl|(simp [errW_none,errW_some]<;>rfl)|(simp [*,errW_none,errW_some]<;>rfl),by repeat (first|(with_reducible first|exact HB.out|apply below_alloc|apply pw_below_drewN|apply below_drew1|refine below_set ?_ GE120.out)|exact HB.out)⟩
def frame_kind.f (a0:Int):Option (Bool):=if a0≥1 then (some (decide (a0≤10))) else (some false)
set_option maxHeartbeats 8000000 in
set_option maxRecDepth 100000 in
theorem frame_kind.calls (a0:Int) (r:Bool) (w:World) (h:frame_kind.f a0=some r) :
    Calls Try.prog 96 #[.int .i64 a0] w fun e w'=>e = .returned (.bool r)∧Drawn0 w w':=by
  have H:(if a0≥1 then (some (decide (a0≤10))) else (some false))=some r:=h
  clear h
  by_cases c2:a0≥1
  · rw [if_pos c2] at H
    have c2b0:decide (1≤a0)=true:=decide_eq_true c2
    clear c2
    obtain rfl:=Option.some.inj H
    go_enter Try.func96,Try.ntmps96
    go_wp2
    go_ret
    exact ⟨by first|rfl|(simp;done)|(simp [*];done),by repeat (first|exact Drawn0.refl _|apply Drawn0.step)⟩
  · rw [if_neg c2] at H
    have c2b0:decide (1≤a0)=false:=decide_eq_false c2
    clear c2
    obtain rfl:=Option.some.inj H
    go_enter Try.func96,Try.ntmps96
    go_wp2
    go_ret
    exact ⟨by first|rfl|(simp;done)|(simp [*];done),by repeat (first|exact Drawn0.refl _|apply Drawn0.step)⟩
def frame_Good.f (a0_0:Int) (a0_1:Int) (l0_2:List Int):Option (Bool):=if a0_0≥0 then (if a0_0≤255 then ((frame_kind.f a0_1).bind fun t123=>(if t123=true then (some (decide ((l0_2.length:Int)≤256))) else (some false))) else (some false)) else (some false)
set_option maxHeartbeats 8000000 in
set_option maxRecDepth 100000 in
theorem frame_Good.calls (a0_0:Int) (a0_1:Int) (A0_2:Option Addr) (c0_2:Nat) (l0_2:List Int) (r:Bool) (w:World) (hr0_2:Kd.C (Kd.int .u8) w A0_2 l0_2.length l0_2) (hc0_2:l0_2.length≤c0_2) (h:frame_Good.f a0_0 a0_1 l0_2=some r) :
    Calls Try.prog 79 #[.agg #[.int .i64 a0_0,.int .i64 a0_1,.slice A0_2 l0_2.length c0_2]] w fun e w'=>e = .returned (.bool r)∧Below w.heap.size w w':=by
  have hu54:=Try.underlying54
  have HR0_2:=Aside0.mk hr0_2
  have HC0_2:=Aside0.mk hc0_2
  clear hr0_2 hc0_2
  have HB:=Aside0.mk (Below.refl w.heap.size w)
  have H:(if a0_0≥0 then (if a0_0≤255 then ((frame_kind.f a0_1).bind fun t123=>(if t123=true then (some (decide ((l0_2.length:Int)≤256))) else (some false))) else (some false)) else (some false))=some r:=h
  clear h
  by_cases c2:a0_0≥0
  · rw [if_pos c2] at H
    have c2b0:decide (0≤a0_0)=true:=decide_eq_true c2
    clear c2
    by_cases c3:a0_0≤255
    · rw [if_pos c3] at H
      have c3b0:decide (a0_0≤255)=true:=decide_eq_true c3
      clear c3
      replace H:=Option.bind_eq_some_iff.mp H
      obtain ⟨t123,A40,H⟩:=H
      replace H:(if t123=true then (some (decide ((l0_2.length:Int)≤256))) else (some false))=some r:=H
      have A4:=Aside0.mk A40
      clear A40
      by_cases c5:t123=true
      · subst c5
        have H1:(some (decide ((l0_2.length:Int)≤256)))=some r:=by rw [if_pos rfl] at H;exact H
        clear H
        have H:=H1
        clear H1
        obtain rfl:=Option.some.inj H
        go_enter Try.func79,Try.ntmps79
        go_wp2_with (first|((with_reducible refine gate_dst (N:=1) rfl ?_);(try (refine gate_guard (by rfl) ?_;dsimp only));refine box_event ?hg (N:=1) ?hd (cs:=#[.int .i64 a0_0,.int .i64 a0_1,.slice A0_2 l0_2.length c0_2]) (t:=54) ?hr ?_;(case hd=>rfl);(case hg=>rfl);(case hr=>first|(go_simp;done)|(go_simp;rfl));intro gb122 hg w6 hbox hb;have n0_:=Aside0.mk (below_step (by repeat (first|(with_reducible first|exact HB.out|apply below_alloc|apply pw_below_drewN|apply below_drew1)|exact HB.out)) hb);have n1_:=Aside0.mk (hbox);have n2_:=Aside0.mk ((by rw [hg];exact (below_size (by repeat (first|(with_reducible first|exact HB.out|apply below_alloc|apply pw_below_drewN|apply below_drew1)|exact HB.out))):w.heap.size≤gb122));have n3_:=Aside0.mk ((by rw [hg];exact (below_size (by repeat (first|(with_reducible first|exact HB.out|apply below_alloc|apply pw_below_drewN|apply below_drew1)|exact HB.out))):w.heap.size≤gb122));clear HB;have HB:=n0_;have BK122:=n1_;have GW122:=n2_;have GE122:=n3_;clear n0_ n1_ n2_ n3_;clear hb hbox hg;have hcz7_0:w6.cell? ⟨gb122,0,none⟩=some (.int .i64 a0_0):=(blk_cell BK122.out 0).trans rfl;have hcz7_1:w6.cell? ⟨gb122,1,none⟩=some (.int .i64 a0_1):=(blk_cell BK122.out 1).trans rfl;have hcz7_2:w6.cell? ⟨gb122,2,none⟩=some (.slice A0_2 l0_2.length c0_2):=(blk_cell BK122.out 2).trans rfl;have hfz7_0:=blk_frozen BK122.out 0;have hfz7_1:=blk_frozen BK122.out 1;have hfz7_2:=blk_frozen BK122.out 2)|(go_at_call 96;(with_reducible refine (frame_kind.calls a0_1 true _ A4.out).mono ?_);rintro e w' ⟨rfl,⟨nd,rfl⟩⟩))
        go_ret
        exact ⟨by first|rfl|(simp [errW_none,errW_some]<;>rfl)|(simp [*,errW_none,errW_some]<;>rfl),by repeat (first|(with_reducible first|exact HB.out|apply below_alloc|apply pw_below_drewN|apply below_drew1|refine below_set ?_ GE122.out)|exact HB.out)⟩
      · replace c5:=Bool.eq_false_iff.mpr c5
        subst c5
        have H1:(some false)=some r:=by rw [if_neg (show ¬ (false=true) by decide)] at H;exact H
        clear H
        have H:=H1
        clear H1
        obtain rfl:=Option.some.inj H
        go_enter Try.func79,Try.ntmps79
        go_wp2_with (first|((with_reducible refine gate_dst (N:=1) rfl ?_);(try (refine gate_guard (by rfl) ?_;dsimp only));refine box_event ?hg (N:=1) ?hd (cs:=#[.int .i64 a0_0,.int .i64 a0_1,.slice A0_2 l0_2.length c0_2]) (t:=54) ?hr ?_;(case hd=>rfl);(case hg=>rfl);(case hr=>first|(go_simp;done)|(go_simp;rfl));intro gb122 hg w8 hbox hb;have n0_:=Aside0.mk (below_step (by repeat (first|(with_reducible first|exact HB.out|apply below_alloc|apply pw_below_drewN|apply below_drew1)|exact HB.out)) hb);have n1_:=Aside0.mk (hbox);have n2_:=Aside0.mk ((by rw [hg];exact (below_size (by repeat (first|(with_reducible first|exact HB.out|apply below_alloc|apply pw_below_drewN|apply below_drew1)|exact HB.out))):w.heap.size≤gb122));have n3_:=Aside0.mk ((by rw [hg];exact (below_size (by repeat (first|(with_reducible first|exact HB.out|apply below_alloc|apply pw_below_drewN|apply below_drew1)|exact HB.out))):w.heap.size≤gb122));clear HB;have HB:=n0_;have BK122:=n1_;have GW122:=n2_;have GE122:=n3_;clear n0_ n1_ n2_ n3_;clear hb hbox hg;have hcz9_0:w8.cell? ⟨gb122,0,none⟩=some (.int .i64 a0_0):=(blk_cell BK122.out 0).trans rfl;have hcz9_1:w8.cell? ⟨gb122,1,none⟩=some (.int .i64 a0_1):=(blk_cell BK122.out 1).trans rfl;have hcz9_2:w8.cell? ⟨gb122,2,none⟩=some (.slice A0_2 l0_2.length c0_2):=(blk_cell BK122.out 2).trans rfl;have hfz9_0:=blk_frozen BK122.out 0;have hfz9_1:=blk_frozen BK122.out 1;have hfz9_2:=blk_frozen BK122.out 2)|(go_at_call 96;(with_reducible refine (frame_kind.calls a0_1 false _ A4.out).mono ?_);rintro e w' ⟨rfl,⟨nd,rfl⟩⟩))
        go_ret
        exact ⟨by first|rfl|(simp [errW_none,errW_some]<;>rfl)|(simp [*,errW_none,errW_some]<;>rfl),by repeat (first|(with_reducible first|exact HB.out|apply below_alloc|apply pw_below_drewN|apply below_drew1|refine below_set ?_ GE122.out)|exact HB.out)⟩
    · rw [if_neg c3] at H
      have c3b0:decide (a0_0≤255)=false:=decide_eq_false c3
      clear c3
      obtain rfl:=Option.some.inj H
      go_enter Try.func79,Try.ntmps79
      go_wp2_with (first|((with_reducible refine gate_dst (N:=1) rfl ?_);(try (refine gate_guard (by rfl) ?_;dsimp only));refine box_event ?hg (N:=1) ?hd (cs:=#[.int .i64 a0_0,.int .i64 a0_1,.slice A0_2 l0_2.length c0_2]) (t:=54) ?hr ?_;(case hd=>rfl);(case hg=>rfl);(case hr=>first|(go_simp;done)|(go_simp;rfl));intro gb122 hg w10 hbox hb;have n0_:=Aside0.mk (below_step (by repeat (first|(with_reducible first|exact HB.out|apply below_alloc|apply pw_below_drewN|apply below_drew1)|exact HB.out)) hb);have n1_:=Aside0.mk (hbox);have n2_:=Aside0.mk ((by rw [hg];exact (below_size (by repeat (first|(with_reducible first|exact HB.out|apply below_alloc|apply pw_below_drewN|apply below_drew1)|exact HB.out))):w.heap.size≤gb122));have n3_:=Aside0.mk ((by rw [hg];exact (below_size (by repeat (first|(with_reducible first|exact HB.out|apply below_alloc|apply pw_below_drewN|apply below_drew1)|exact HB.out))):w.heap.size≤gb122));clear HB;have HB:=n0_;have BK122:=n1_;have GW122:=n2_;have GE122:=n3_;clear n0_ n1_ n2_ n3_;clear hb hbox hg;have hcz11_0:w10.cell? ⟨gb122,0,none⟩=some (.int .i64 a0_0):=(blk_cell BK122.out 0).trans rfl;have hcz11_1:w10.cell? ⟨gb122,1,none⟩=some (.int .i64 a0_1):=(blk_cell BK122.out 1).trans rfl;have hcz11_2:w10.cell? ⟨gb122,2,none⟩=some (.slice A0_2 l0_2.length c0_2):=(blk_cell BK122.out 2).trans rfl;have hfz11_0:=blk_frozen BK122.out 0;have hfz11_1:=blk_frozen BK122.out 1;have hfz11_2:=blk_frozen BK122.out 2))
      go_ret
      exact ⟨by first|rfl|(simp [errW_none,errW_some]<;>rfl)|(simp [*,errW_none,errW_some]<;>rfl),by repeat (first|(with_reducible first|exact HB.out|apply below_alloc|apply pw_below_drewN|apply below_drew1|refine below_set ?_ GE122.out)|exact HB.out)⟩
  · rw [if_neg c2] at H
    have c2b0:decide (0≤a0_0)=false:=decide_eq_false c2
    clear c2
    obtain rfl:=Option.some.inj H
    go_enter Try.func79,Try.ntmps79
    go_wp2_with (first|((with_reducible refine gate_dst (N:=1) rfl ?_);(try (refine gate_guard (by rfl) ?_;dsimp only));refine box_event ?hg (N:=1) ?hd (cs:=#[.int .i64 a0_0,.int .i64 a0_1,.slice A0_2 l0_2.length c0_2]) (t:=54) ?hr ?_;(case hd=>rfl);(case hg=>rfl);(case hr=>first|(go_simp;done)|(go_simp;rfl));intro gb122 hg w12 hbox hb;have n0_:=Aside0.mk (below_step (by repeat (first|(with_reducible first|exact HB.out|apply below_alloc|apply pw_below_drewN|apply below_drew1)|exact HB.out)) hb);have n1_:=Aside0.mk (hbox);have n2_:=Aside0.mk ((by rw [hg];exact (below_size (by repeat (first|(with_reducible first|exact HB.out|apply below_alloc|apply pw_below_drewN|apply below_drew1)|exact HB.out))):w.heap.size≤gb122));have n3_:=Aside0.mk ((by rw [hg];exact (below_size (by repeat (first|(with_reducible first|exact HB.out|apply below_alloc|apply pw_below_drewN|apply below_drew1)|exact HB.out))):w.heap.size≤gb122));clear HB;have HB:=n0_;have BK122:=n1_;have GW122:=n2_;have GE122:=n3_;clear n0_ n1_ n2_ n3_;clear hb hbox hg;have hcz13_0:w12.cell? ⟨gb122,0,none⟩=some (.int .i64 a0_0):=(blk_cell BK122.out 0).trans rfl;have hcz13_1:w12.cell? ⟨gb122,1,none⟩=some (.int .i64 a0_1):=(blk_cell BK122.out 1).trans rfl;have hcz13_2:w12.cell? ⟨gb122,2,none⟩=some (.slice A0_2 l0_2.length c0_2):=(blk_cell BK122.out 2).trans rfl;have hfz13_0:=blk_frozen BK122.out 0;have hfz13_1:=blk_frozen BK122.out 1;have hfz13_2:=blk_frozen BK122.out 2))
    go_ret
    exact ⟨by first|rfl|(simp [errW_none,errW_some]<;>rfl)|(simp [*,errW_none,errW_some]<;>rfl),by repeat (first|(with_reducible first|exact HB.out|apply below_alloc|apply pw_below_drewN|apply below_drew1|refine below_set ?_ GE122.out)|exact HB.out)⟩
end Go.Proofs.Ytaeabemipnbgbaa.QFr
end
section
namespace Go.Proofs.YtaeabemipnbgbaaW.Aid
open RowKit YtaeabemipnbgbaaW.PrintWords YtaeabemipnbgbaaW.PrintMore
theorem Ev.shift {α:Type} {g:Nat→Option α} {r:α} (h:Ev (fun k=>g (k+1)) r):Ev g r:=by
  obtain ⟨K,h⟩:=h
  refine ⟨K+1,fun k hk=>?_⟩
  obtain ⟨j,rfl⟩:∃ j,k=j+1:=⟨k-1,by omega⟩
  exact h j (by omega)
theorem Ev.pure {α:Type} {g:Nat→Option α} {r:α} (h:∀ k,g k=some r):Ev g r:=⟨0,fun k _=>h k⟩
theorem Ev.to {α:Type} {g:Nat→Option α} {r r':α} (h:Ev g r) (e:r=r'):Ev g r':=e ▸ h
theorem wrap64_id {x:Int} (h : -9223372036854775808≤x) (h':x≤9223372036854775807):wrap64 x=x:=by unfold wrap64;omega
theorem u16_wrap (x:Int):IntKind.u16.wrap x=x%65536:=by
  simp [IntKind.wrap,IntKind.signed,IntKind.bits]
theorem wf_u8 {x:Int} (h:(Lit.int .u8 x).wf=true):0≤x∧x≤255:=by
  simp [Lit.wf,IntKind.min,IntKind.max,IntKind.signed,IntKind.bits] at h
  omega
theorem rd_at {l:List Int} {i:Int} (h0:0≤i) (h:i<(l.length:Int)):∃ hj:i.toNat<l.length,rd l i=l[i.toNat]:=by
  have:i.toNat<l.length:=by omega
  exact ⟨this,by unfold rd;rw [List.getD_eq_getElem?_getD,List.getElem?_eq_getElem this];rfl⟩
theorem rd_mem {l:List Int} {i:Int} (h0:0≤i) (h:i<(l.length:Int)):rd l i∈l:=by
  obtain ⟨hj,e⟩:=rd_at h0 h
  rw [e];exact List.getElem_mem hj
theorem bits_u8 (op:BinOp) (a b:Int):0≤Go.bits op .u8 a b∧Go.bits op .u8 a b≤255:=by
  unfold Go.bits
  simp only [IntKind.wrap,IntKind.signed,IntKind.bits,Bool.false_and,Bool.false_eq_true,if_false]
  omega
theorem bits_u16 (op:BinOp) (a b:Int):0≤Go.bits op .u16 a b∧Go.bits op .u16 a b≤65535:=by
  unfold Go.bits
  simp only [IntKind.wrap,IntKind.signed,IntKind.bits,Bool.false_and,Bool.false_eq_true,if_false]
  omega
end Go.Proofs.YtaeabemipnbgbaaW.Aid
end
section
set_option linter.unusedVariables false
namespace Go.Proofs.Ytaeabemipnbgbaa.CloneB
open RowKit YtaeabemipnbgbaaW.PrintWords YtaeabemipnbgbaaW.PrintLast YtaeabemipnbgbaaW.PrintMore YtaeabemipnbgbaaW.Aid
theorem info:(Try.prog.info? 5).map (fun i=>(i.zero,i.size,i.bytes))=some (some (.int .u8 0),1,1):=by kernel_rfl
set_option maxRecDepth 10000 in
set_option maxHeartbeats 400000 in
theorem bytes_calls (l:List Int) (A:Option Addr) (c:Nat) (w:World) (hr:Kd.C (Kd.int .u8) w A l.length l) (hle:l.length≤c) (hm:l.length*1≤140737488355328) :
    Calls Try.prog 74 #[.slice A l.length c] w fun e w'=>∃ v,e = .returned v∧Kd.R (Kd.int .u8) 5 w' w.heap.size (fun _=>True) v l∧Below w.heap.size w w':=by
  have HR:=Aside0.mk hr
  have HM:=Aside0.mk hm
  have HL:=Aside0.mk hle
  clear hr hm hle
  cases A with
  | none =>
    have hn1:=Lib.run_eql_slice_nil (P:=Try.prog) w 25 5 none 0 c 0 0 Try.underlying25
    have e:l=[]:=by
      have h:=HR.out.2.2
      by_cases hl:0<l.length
      · obtain ⟨ad,h1,_⟩:=h hl
        cases h1
      · exact List.length_eq_zero_iff.1 (by omega)
    subst e
    go_enter Try.func74,Try.ntmps74
    go_wp2
    go_ret
    exact ⟨.slice none 0 0,rfl,Kd.R_nil _ _ _ _ _,Below.refl _ _⟩
  | some ad =>
    have hn1:=Lib.run_eql_slice_nil (P:=Try.prog) w 25 5 (some ad) l.length c 0 0 Try.underlying25
    go_enter Try.func74,Try.ntmps74
    have h0:Kd.R (Kd.int .u8) 5 (w.alloc (.cells #[] 5)) w.heap.size (fun _=>True) (.slice (some ⟨w.heap.size,0,none⟩) 0 0) [] :=
      Kd.R_of_own ⟨rfl,.inr ⟨w.heap.size,0,#[],rfl,Nat.le_refl _,blk_new _ _,Nat.le_refl _,by decide,rfl,rfl⟩⟩ (fun _ _=>trivial)
    have H0:=Aside0.mk h0
    clear h0
    go_wp2_with (first|((with_reducible refine gate_builtin (b := .append) (xs:=#[.tmp 5,.tmp 6]) rfl ?_);at_builtin;refine Kd.R_append_rows (Kd.int .u8) (w0:=w) w.heap.size rfl (.tmp 5) (.tmp 6) 25 5 (.int .u8 0) 1 rfl Try.underlying25 info rfl (by decide) (by omega) (.slice (some ⟨w.heap.size,0,none⟩) 0 0) [] l _ _ _ (fun _=>True) (fun _=>False) rfl rfl H0.out (Kd.C_alloc HR.out _) (fun _ _ h=>h) (fun _ h=>h.elim) (fun _ _=>trivial) (below_alloc (Below.refl _ _) _) (by simp) (by have:=HM.out;simp;omega) ?_;intro v1 w1 ho hb hg hat;have HO:=Aside0.mk ho;have HB:=Aside0.mk hb;clear ho hb hg hat))
    go_ret
    exact ⟨v1,rfl,HO.out,HB.out⟩
end Go.Proofs.Ytaeabemipnbgbaa.CloneB
end
section
set_option linter.unusedVariables false
namespace Go.Proofs.Ytaeabemipnbgbaa.Crc
open RowKit YtaeabemipnbgbaaW.PrintWords YtaeabemipnbgbaaW.PrintMore YtaeabemipnbgbaaW.Aid
def stp (x:Int):Int:=if (Go.bits .and .u16 x 32768 != 0)=true then Go.bits .xor .u16 (IntKind.u16.wrap (x*2)) 4129 else IntKind.u16.wrap (x*2)
def stps:Nat→Int→Int
  | 0,x=>x
  | n+1,x=>stp (stps n x)
def tb (j:Nat):Int:=stps 8 ((j:Int)*256)
def cells (k:Nat):Array Value:=((List.range 256).map fun j=>Value.int .u16 (if j<k then tb j else 0)).toArray
theorem cells_zero:Try.zeroCells151=cells 0:=by kernel_rfl
theorem cells_at (k j:Nat) (h:j<256):(cells k)[j]?=some (.int .u16 (if j<k then tb j else 0)):=by
  simp [cells,h]
theorem cells_put (k:Nat) (h:k<256):(cells k).setIfInBounds k (.int .u16 (tb k))=cells (k+1):=by
  unfold cells
  rw [List.setIfInBounds_toArray]
  congr 1
  refine List.ext_getElem (by simp) (fun j h1 h2=>?_)
  simp only [List.length_set,List.length_map,List.length_range] at h1
  rw [List.getElem_set]
  by_cases e:k=j
  · subst e
    simp
  · simp only [e,if_false,List.getElem_map,List.getElem_range]
    congr 1
    by_cases hj:j<k
    · rw [if_pos hj,if_pos (by omega)]
    · rw [if_neg hj,if_neg (by omega)]
theorem stp_t {x:Int} (h:(Go.bits .and .u16 x 32768 != 0)=true):stp x=Go.bits .xor .u16 (IntKind.u16.wrap (x*2)) 4129:=by unfold stp;rw [if_pos h]
theorem stp_f {x:Int} (h:(Go.bits .and .u16 x 32768 != 0)=false):stp x=IntKind.u16.wrap (x*2):=by unfold stp;rw [h];rfl
theorem cells_info:(Try.prog.info? 151).map (·.size)=some (cells 256).size:=by kernel_rfl
theorem cells_one:(cells 256).all (·.oneCell')=true:=by decide +kernel
theorem cells_size (k:Nat):(cells k).size=256:=by simp [cells]
theorem row_at {w:World} {g:Nat} {t:TypeId} {old:Array Value} (h:w.heap[g]?=some (.cells old t (0,0))) (cs:Array Value):(w.setRow g cs).heap[g]?=some (.cells cs t (0,0)):=setRow_heap w g old cs t (0,0) h
theorem row_below {w W:World} {g:Nat} (h:Below w.heap.size w W) (hg:w.heap.size≤g) (cs:Array Value):Below w.heap.size w (W.setRow g cs):=by
  refine ⟨h.os,h.tape,h.output,by simpa [World.setRow] using h.size,fun k hk=>?_⟩
  rw [← h.block k hk]
  simp only [World.setRow]
  rw [Array.getElem?_modify]
  rw [if_neg (by omega)]
set_option maxRecDepth 100000 in
set_option maxHeartbeats 400000 in
theorem row_calls (w:World):Calls Try.prog 105 #[] w fun e w'=>e = .returned (.agg (cells 256))∧Below w.heap.size w w':=by
  go_enter Try.func105,Try.ntmps105
  go_wp2_with fail
  go_loopw [4] (fun v4 wr=>∃ k:Nat,k≤256∧v4 = .int .i64 k∧wr.heap[w.heap.size]?=some (.cells (cells k) 151 (0,0))∧Below w.heap.size w wr) (fun v4 _=>256-(intOf v4).toNat)
  case atStart=>exact ⟨0,by omega,rfl,by rw [cells_zero];exact blk_new w _,below_alloc (Below.refl _ _) _⟩
  case round =>
    obtain ⟨k,hk,rfl,hb,hB⟩:=hrel
    have HB:=Aside0.mk hb
    have HBB:=Aside0.mk hB
    clear hb hB
    by_cases hlt:k<256
    · go_wp2
      go_loop [2,10] (fun v2 v10=>∃ i:Nat,i≤8∧v10 = .int .i64 i∧v2 = .int .u16 (stps i ((k:Int)*256))) (fun _ v10=>8-(intOf v10).toNat)
      case atStart=>exact ⟨0,by omega,rfl,rfl⟩
      case round =>
        obtain ⟨i,hi,rfl,rfl⟩:=hrel
        by_cases hil:i<8
        · by_cases hh:(Go.bits .and .u16 (stps i ((k:Int)*256)) 32768 != 0)=true
          · have e:Aside0 (stps (i+1) ((k:Int)*256)=Go.bits .xor .u16 (IntKind.u16.wrap (stps i ((k:Int)*256)*2)) 4129):=⟨stp_t hh⟩
            generalize stps i ((k:Int)*256)=x at *
            go_wp2
            go_round
            case rel=>exact ⟨i+1,by omega,by go_num,by rw [e.out]⟩
            case measure=>simp [intOf];omega
          · have hf:(Go.bits .and .u16 (stps i ((k:Int)*256)) 32768 != 0)=false:=by simpa using hh
            have e:Aside0 (stps (i+1) ((k:Int)*256)=IntKind.u16.wrap (stps i ((k:Int)*256)*2)):=⟨stp_f hf⟩
            clear hh
            generalize stps i ((k:Int)*256)=x at *
            go_wp2
            go_round
            case rel=>exact ⟨i+1,by omega,by go_num,by rw [e.out]⟩
            case measure=>simp [intOf];omega
        · obtain rfl:i=8:=by omega
          have e:Aside0 (stps 8 ((k:Int)*256)=tb k):=⟨rfl⟩
          rw [e.out]
          have hc:wr.cell? ⟨w.heap.size,k,none⟩=some (.int .u16 (if k<k then tb k else 0)):=(blk_cell HB.out k).trans (cells_at k k hlt)
          have hf:=blk_frozen HB.out k
          go_wp2
          go_roundw
          case rel=>exact ⟨k+1,by omega,by go_num,blk_put HB.out k _ (cells_put k hlt),below_set HBB.out (Nat.le_refl _)⟩
          case measure=>simp [intOf];omega
    · obtain rfl:k=256:=by omega
      go_wp2_with (first|(refine wpList_load_row rfl 151 (.tmp 0) rfl w.heap.size rfl 151 (cells 256) (0,0) _ HB.out Try.underlying151 rfl cells_info ?_)|(refine wpList_store_row rfl 151 (.tmp 0) (.tmp 25) rfl w.heap.size (cells 256) rfl rfl 151 (cells 256) HB.out cells_info rfl cells_one ?_))
      refine bodyPost_ret (v := .agg (cells 256)) (results_cell_row (ty:=151) rfl _ _ w.heap.size 151 (cells 256) (0,0) _ rfl (row_at HB.out _) Try.underlying151 rfl cells_info) rfl ⟨rfl,row_below HBB.out (Nat.le_refl _) _⟩
def upd (s x:Int):Int:=Go.bits .xor .u16 (IntKind.u16.wrap (s*256)) (tb (Go.bits .xor .u8 (s/256) x).toNat)
def crcOf:List Int→Int→Int
  | [],s=>s
  | x::l,s=>crcOf l (upd s x)
theorem crc_snoc (l:List Int) (x:Int):∀ s,crcOf (l++[x]) s=upd (crcOf l s) x:=by
  induction l with
  | nil=>intro s;rfl
  | cons y l ih=>intro s;exact ih (upd s y)
theorem upd_bd (s x:Int):0≤upd s x∧upd s x≤65535:=bits_u16 _ _ _
theorem crc_bd (l:List Int):∀ s,0≤s→s≤65535→0≤crcOf l s∧crcOf l s≤65535:=by
  induction l with
  | nil=>intro s h0 h1;exact ⟨h0,h1⟩
  | cons y l ih=>intro s _ _;exact ih _ (upd_bd s y).1 (upd_bd s y).2
theorem take_rd {l:List Int} {k:Nat} (h:k<l.length):l.take (k+1)=l.take k++[rd l k]:=by
  obtain ⟨hj,e⟩:=rd_at (l:=l) (i:=(k:Int)) (by omega) (by omega)
  rw [e,List.take_succ_eq_append_getElem h]
  simp
set_option maxRecDepth 100000 in
set_option maxHeartbeats 400000 in
theorem sum_calls (l:List Int) (A:Option Addr) (c:Nat) (w:World) (hr:Kd.C (Kd.int .u8) w A l.length l) (hle:l.length≤c) (hd:∀ x∈l,0≤x∧x≤255) :
    Calls Try.prog 97 #[.slice A l.length c,.int .i64 1] w fun e w'=>e = .returned (.int .u16 (crcOf l 65535))∧Below w.heap.size w w':=by
  have HR:=Aside0.mk hr
  clear hr
  go_enter Try.func97,Try.ntmps97
  go_wp2_with fail
  refine (row_calls _).mono ?_
  rintro e w1 ⟨rfl,hB⟩
  have HB:=Aside0.mk hB
  clear hB
  have zs:Try.zeroCells151.size=(cells 256).size:=by rw [cells_zero,cells_size,cells_size]
  go_wp2_with (first|(refine wpList_store_row rfl 151 (.tmp 5) (.tmp 10) rfl w1.heap.size (cells 256) rfl rfl 151 Try.zeroCells151 (blk_new w1 _) cells_info zs cells_one ?_;rw [World.setRow_alloc_new])|fail)
  have hW:=Aside0.mk (Kd.C_below HR.out (below_alloc HB.out (.cells (cells 256) 151)))
  have hbk:=Aside0.mk (blk_new w1 (.cells (cells 256) 151))
  have hlen:l.length≤9223372036854775807:=HR.out.2.1
  go_loop [6,13] (fun v6 v13=>∃ k:Nat,k≤l.length∧v13 = .int .i64 k∧v6 = .int .u16 (crcOf (l.take k) 65535)) (fun _ v13=>l.length-(intOf v13).toNat)
  case atStart=>exact ⟨0,by omega,rfl,rfl⟩
  case round =>
    obtain ⟨k,hk,rfl,rfl⟩:=hrel
    by_cases hlt:k<l.length
    · obtain ⟨ad,rfl,hcell⟩:=Kd.at_int hW.out (k:Int) (by omega) (by omega)
      simp only [Int.toNat_natCast] at hcell
      have hs:0≤crcOf (l.take k) 65535∧crcOf (l.take k) 65535≤65535:=crc_bd _ _ (by omega) (by omega)
      have hx:0≤rd l k∧rd l k≤255:=hd _ (rd_mem (by omega) (by omega))
      have hn:Aside0 (crcOf (l.take (k+1)) 65535=upd (crcOf (l.take k) 65535) (rd l k)):=⟨by rw [take_rd hlt,crc_snoc]⟩
      generalize crcOf (l.take k) 65535=s at *
      generalize rd l k=x at *
      obtain ⟨hs0,hs2⟩:=hs
      obtain ⟨hx0,hx2⟩:=hx
      have hi0:=bits_u8 .xor (s/256) x
      obtain ⟨hi1,hi2⟩:=hi0
      have hi3:Go.bits .xor .u8 (s/256) x<256:=by omega
      have hz:(w1.alloc (.cells (cells 256) 151)).cell? ⟨w1.heap.size,(Go.bits .xor .u8 (s/256) x).toNat,none⟩=some (.int .u16 (tb (Go.bits .xor .u8 (s/256) x).toNat)):=by
        rw [blk_cell hbk.out,cells_at 256 _ (by omega),if_pos (by omega)]
      go_wp2
      go_loop [6,9] (fun v6 v9=>(v9 = .int .i64 0∧v6 = .int .u16 s)∨(v9 = .int .i64 (-1)∧v6 = .int .u16 (upd s x))) (fun _ v9=>(intOf v9+1).toNat)
      case atStart=>exact .inl ⟨rfl,rfl⟩
      case round =>
        rcases hrel with ⟨rfl,rfl⟩|⟨rfl,rfl⟩
        · go_wp2
          go_round
          case rel=>exact .inr ⟨rfl,rfl⟩
          case measure=>simp [intOf]
        · go_wp2
          go_round
          case rel=>exact ⟨k+1,by omega,by go_num,by rw [hn.out]⟩
          case measure=>simp [intOf];omega
    · obtain rfl:k=l.length:=by omega
      go_wp2
      go_ret
      exact ⟨rfl,below_alloc HB.out _⟩
set_option maxHeartbeats 400000 in
theorem Sum_calls (l:List Int) (A:Option Addr) (c:Nat) (w:World) (hr:Kd.C (Kd.int .u8) w A l.length l) (hle:l.length≤c) (hd:∀ x∈l,0≤x∧x≤255) :
    Calls Try.prog 82 #[.slice A l.length c] w fun e w'=>e = .returned (.int .u16 (crcOf l 65535))∧Below w.heap.size w w':=by
  have HR:=Aside0.mk hr
  have HD:=Aside0.mk hd
  clear hr hd
  go_enter Try.func82,Try.ntmps82
  go_wp2_with fail
  refine (sum_calls l A c _ HR.out hle HD.out).mono ?_
  rintro e w1 ⟨rfl,hB⟩
  have HB:=Aside0.mk hB
  clear hB
  go_wp2
  go_ret
  exact ⟨rfl,HB.out⟩
end Go.Proofs.Ytaeabemipnbgbaa.Crc
end
section
namespace Go.Proofs.Ytaeabemipnbgbaa.QFr
open RowKit YtaeabemipnbgbaaW.PrintWords YtaeabemipnbgbaaW.PrintLast YtaeabemipnbgbaaW.PrintMore
attribute [local go_sem] max2_int min2_int max_two min_two max_three min_three max_four min_four   -- for this text's walks alone
set_option linter.unusedVariables false
set_option linter.unusedSimpArgs false
def frame_put_uint16.l0:Nat→List Int→Int→Int→Option (List Int)
  | 0,_,_,_=>none
  | k+1,x0,x1,x7=>if x7≥0 then (if 0≤(wrap64 (8*x7)) then (if x0.length<140737488355328 then (frame_put_uint16.l0 k (x0++[(shr .u16 x1 (wrap64 (8*x7)))%256]) x1 (wrap64 (x7-1))) else (none)) else (none)) else (some x0)
def frame_put_uint16.f (k:Nat) (l0:List Int) (a1:Int) (a2:Int):Option (List Int):=frame_put_uint16.l0 k l0 a1 (wrap64 (a2-1))
set_option maxHeartbeats 8000000 in
set_option maxRecDepth 100000 in
theorem frame_put_uint16.calls (k:Nat) (P0_:Nat→Prop) (u9000_:Value) (l0:List Int) (a1:Int) (a2:Int) (r:List Int) (w0 w:World) (hB:Below w0.heap.size w0 w) (ho0:Kd.R (Kd.int .u8) 5 w w0.heap.size P0_ u9000_ l0) (h:frame_put_uint16.f k l0 a1 a2=some r) :
    Calls Try.prog 80 #[u9000_,.int .u16 a1,.int .i64 a2] w fun e w'=>∃ v0_:Value,e = .returned (v0_)∧Kd.R (Kd.int .u8) 5 w' w0.heap.size (fun k_=>(P0_ k_∨w.heap.size≤k_)) v0_ r∧Below w0.heap.size w0 w'∧Kept w w' (fun k_=>P0_ k_):=by
  have HO0:=Aside0.mk (show Kd.R (Kd.int .u8) 5 w w0.heap.size (fun k_=>(P0_ k_∨w.heap.size≤k_)) u9000_ l0 from Kd.R_mono ho0 (fun k_ hk=>(.inl hk)))
  have HK:=Aside0.mk (Kept.refl w (fun k_=>P0_ k_))
  have HW0:=Aside0.mk hB.size
  have HB:=Aside0.mk hB
  clear hB
  have H:(frame_put_uint16.l0 k l0 a1 (wrap64 (a2-1)))=some r:=h
  clear h
  have H':=Aside0.mk H
  clear H
  go_enter Try.func80,Try.ntmps80
  go_wp2
  go_loopg [0,7] k (fun kq v0 v7 w'=>∃ (x0_1:List Int) (x7_1:Int),v7 = .int .i64 x7_1∧Aside0 (frame_put_uint16.l0 kq x0_1 a1 x7_1=some r)∧Aside0 (kq≤k)∧Aside0 (Kd.R (Kd.int .u8) 5 w' w0.heap.size (fun k_=>(P0_ k_∨w.heap.size≤k_)) v0 x0_1)∧Aside0 (Kept w w' (fun k_=>P0_ k_))∧Aside0 (Below w0.heap.size w0 w'))
  case atStart=>exact ⟨(l0),(wrap64 (a2-1)),(by first|rfl|(simp;done)|(simp [*];done)),H',⟨Nat.le_refl _⟩,⟨by (with_reducible repeat (first|apply Kd.R_alloc|apply Kd.R_drewN|apply Kd.R_drew));exact HO0.out⟩,⟨by repeat (first|(with_reducible first|exact HK.out|apply Kept.alloc|apply Kept.drewN|apply Kept.drew)|exact HK.out)⟩,⟨by repeat (first|(with_reducible first|exact HB.out|apply below_alloc|apply pw_below_drewN|apply below_drew1)|exact HB.out)⟩⟩
  case round =>
    clear H'
    try clear p2
    obtain ⟨x0_1,x7_1,rfl,HA,HK1,HO_0,HK,HB⟩:=hrel
    cases gk with
    | zero=>exact absurd HA.out (by simp [frame_put_uint16.l0])
    | succ k1 =>
      have H:=HA.out
      clear HA
      simp only [frame_put_uint16.l0] at H
      by_cases c4:x7_1≥0
      · rw [if_pos c4] at H
        have c4b0:decide (0≤x7_1)=true:=decide_eq_true c4
        clear c4
        obtain ⟨ji5,hji5⟩:∃ j_:Int,(wrap64 (8*x7_1))=j_:=⟨_,rfl⟩
        replace H:(if 0≤(ji5) then (if x0_1.length<140737488355328 then (frame_put_uint16.l0 k1 (x0_1++[(shr .u16 a1 (ji5))%256]) a1 (wrap64 (x7_1-1))) else (none)) else (none))=some r:=by first|(rw [hji5] at H;exact H)|(simp only [hji5] at H ⊢;exact H)
        have hji5w:(IntKind.i64.wrap (8*x7_1))=ji5:=(i64_w _).trans hji5
        by_cases c6:0≤(ji5)
        · rw [if_pos c6] at H
          have c6b0:=eq_true c6
          have c6b1:decide (0≤(ji5))=true:=decide_eq_true c6
          clear c6
          obtain ⟨ji7,hji7⟩:∃ j_:Int,(shr .u16 a1 (ji5))=j_:=⟨_,rfl⟩
          replace H:(if x0_1.length<140737488355328 then (frame_put_uint16.l0 k1 (x0_1++[(ji7)%256]) a1 (wrap64 (x7_1-1))) else (none))=some r:=by first|(rw [hji7] at H;exact H)|(simp only [hji7] at H ⊢;exact H)
          have hji7_:(a1/2 ^ min (ji5).toNat 16)=ji7:=hji7
          have hji7z:(ji5)≤16→(a1/2 ^ (ji5).toNat)=ji7:=shr_small hji7
          by_cases c8:x0_1.length<140737488355328
          · rw [if_pos c8] at H
            have LMc8:=Aside0.mk c8
            clear c8
            obtain ⟨y124,hy124⟩:∃ y_:List Int,y_=(x0_1++[(ji7)%256]):=⟨_,rfl⟩
            replace H:(frame_put_uint16.l0 k1 y124 a1 (wrap64 (x7_1-1)))=some r:=by first|(rw [hy124];with_reducible exact H)|(have H2_:=(Option.bind_some _ _).symm.trans H;rw [hy124];with_reducible exact H2_)|(have H2_:=(Option.bind_some _ _).symm.trans H;with_reducible exact H2_)|with_reducible exact H|(rw [hy124];exact H)|exact H
            have Ny124:=Aside0.mk hy124
            clear hy124
            have H':=Aside0.mk H
            clear H
            go_wp2_with (first|((with_reducible refine gate_builtin (b := .append) (xs:=#[.tmp 14,.tmp 20]) rfl ?_);at_builtin;refine Kd.R_append (Kd.int .u8) (w0:=w0) w0.heap.size rfl (.tmp 14) (.tmp 20) 25 5 (.int .u8 0) 1 rfl Try.underlying25 info5 rfl (by decide) (by omega) u0 x0_1 ((ji7)%256) [.int .u8 ((ji7)%256)] (fun k_=>(P0_ k_∨w.heap.size≤k_)) (fun _=>False) rfl rfl ?aP (fun _ hk=>hk.elim) ?aF ?aO ?aB ?aS ?aL ?_;(case aP=>exact rfl);(case aB=>exact (by repeat (first|(with_reducible first|exact HB.out|apply below_alloc|apply pw_below_drewN|apply below_drew1)|exact HB.out)));(case aF=>exact (fun k_ hk=>(.inr (Nat.le_trans (by first|exact HK.out.1|exact (show Kept w _ (fun k_=>P0_ k_) from by repeat (first|(with_reducible first|exact HK.out|apply Kept.alloc|apply Kept.drewN|apply Kept.drew)|exact HK.out)).1) hk))));(case aO=>exact (by (with_reducible repeat (first|apply Kd.R_alloc|apply Kd.R_drewN|apply Kd.R_drew));exact HO_0.out));(case aS=>exact (below_size (by repeat (first|(with_reducible first|exact HB.out|apply below_alloc|apply pw_below_drewN|apply below_drew1)|exact HB.out))));(case aL=>have:=LMc8.out;omega);intro v125 w9 ho hb hg hat;rw [← Ny124.out] at ho;have n0_:=Aside0.mk (hb);have n1_:=Aside0.mk (Kept.of_grown (S:=(fun k_=>P0_ k_)) hg (by repeat (first|(with_reducible first|exact HK.out|apply Kept.alloc|apply Kept.drewN|apply Kept.drew)|exact HK.out)) (fun k_ e_=>(HO_0.out.1 k_ e_)));have n2_:=Aside0.mk (ho);clear HB;clear HK;clear HO_0;have HB:=n0_;have HK:=n1_;have HO126:=n2_;clear n0_ n1_ n2_;clear ho hb hg hat))
            go_roundg k1
            case measure=>have:=HK1.out;omega
            case rel=>exact ⟨(y124),(wrap64 (x7_1-1)),(by first|rfl|(simp;done)|(simp [*];done)),H',⟨by have:=HK1.out;omega⟩,⟨by (with_reducible repeat (first|apply Kd.R_alloc|apply Kd.R_drewN|apply Kd.R_drew));exact HO126.out⟩,⟨by repeat (first|(with_reducible first|exact HK.out|apply Kept.alloc|apply Kept.drewN|apply Kept.drew)|exact HK.out)⟩,⟨by repeat (first|(with_reducible first|exact HB.out|apply below_alloc|apply pw_below_drewN|apply below_drew1)|exact HB.out)⟩⟩
          · rw [if_neg c8] at H
            exact absurd H (by simp)
        · rw [if_neg c6] at H
          exact absurd H (by simp)
      · rw [if_neg c4] at H
        have c4b0:decide (0≤x7_1)=false:=decide_eq_false c4
        clear c4
        obtain rfl:=Option.some.inj H
        go_wp2
        go_ret
        exact ⟨_,by first|rfl|(simp [errW_none,errW_some]<;>rfl)|(simp [*,errW_none,errW_some]<;>rfl),by (with_reducible repeat (first|apply Kd.R_alloc|apply Kd.R_drewN|apply Kd.R_drew));exact HO_0.out,by repeat (first|(with_reducible first|exact HB.out|apply below_alloc|apply pw_below_drewN|apply below_drew1)|exact HB.out),by repeat (first|(with_reducible first|exact HK.out|apply Kept.alloc|apply Kept.drewN|apply Kept.drew)|exact HK.out)⟩
def frame_put_uint8.l0:Nat→List Int→Int→Int→Option (List Int)
  | 0,_,_,_=>none
  | k+1,x0,x1,x7=>if x7≥0 then (if 0≤(wrap64 (8*x7)) then (if x0.length<140737488355328 then (frame_put_uint8.l0 k (x0++[(shr .u16 (IntKind.u16.wrap (x1)) (wrap64 (8*x7)))%256]) x1 (wrap64 (x7-1))) else (none)) else (none)) else (some x0)
def frame_put_uint8.f (k:Nat) (l0:List Int) (a1:Int) (a2:Int):Option (List Int):=frame_put_uint8.l0 k l0 a1 (wrap64 (a2-1))
set_option maxHeartbeats 8000000 in
set_option maxRecDepth 100000 in
theorem frame_put_uint8.calls (k:Nat) (P0_:Nat→Prop) (u9000_:Value) (l0:List Int) (a1:Int) (a2:Int) (r:List Int) (w0 w:World) (hB:Below w0.heap.size w0 w) (ho0:Kd.R (Kd.int .u8) 5 w w0.heap.size P0_ u9000_ l0) (h:frame_put_uint8.f k l0 a1 a2=some r) :
    Calls Try.prog 81 #[u9000_,.int .u8 a1,.int .i64 a2] w fun e w'=>∃ v0_:Value,e = .returned (v0_)∧Kd.R (Kd.int .u8) 5 w' w0.heap.size (fun k_=>(P0_ k_∨w.heap.size≤k_)) v0_ r∧Below w0.heap.size w0 w'∧Kept w w' (fun k_=>P0_ k_):=by
  have HO0:=Aside0.mk (show Kd.R (Kd.int .u8) 5 w w0.heap.size (fun k_=>(P0_ k_∨w.heap.size≤k_)) u9000_ l0 from Kd.R_mono ho0 (fun k_ hk=>(.inl hk)))
  have HK:=Aside0.mk (Kept.refl w (fun k_=>P0_ k_))
  have HW0:=Aside0.mk hB.size
  have HB:=Aside0.mk hB
  clear hB
  have H:(frame_put_uint8.l0 k l0 a1 (wrap64 (a2-1)))=some r:=h
  clear h
  have H':=Aside0.mk H
  clear H
  go_enter Try.func81,Try.ntmps81
  go_wp2
  go_loopg [0,7] k (fun kq v0 v7 w'=>∃ (x0_1:List Int) (x7_1:Int),v7 = .int .i64 x7_1∧Aside0 (frame_put_uint8.l0 kq x0_1 a1 x7_1=some r)∧Aside0 (kq≤k)∧Aside0 (Kd.R (Kd.int .u8) 5 w' w0.heap.size (fun k_=>(P0_ k_∨w.heap.size≤k_)) v0 x0_1)∧Aside0 (Kept w w' (fun k_=>P0_ k_))∧Aside0 (Below w0.heap.size w0 w'))
  case atStart=>exact ⟨(l0),(wrap64 (a2-1)),(by first|rfl|(simp;done)|(simp [*];done)),H',⟨Nat.le_refl _⟩,⟨by (with_reducible repeat (first|apply Kd.R_alloc|apply Kd.R_drewN|apply Kd.R_drew));exact HO0.out⟩,⟨by repeat (first|(with_reducible first|exact HK.out|apply Kept.alloc|apply Kept.drewN|apply Kept.drew)|exact HK.out)⟩,⟨by repeat (first|(with_reducible first|exact HB.out|apply below_alloc|apply pw_below_drewN|apply below_drew1)|exact HB.out)⟩⟩
  case round =>
    clear H'
    try clear p2
    obtain ⟨x0_1,x7_1,rfl,HA,HK1,HO_0,HK,HB⟩:=hrel
    cases gk with
    | zero=>exact absurd HA.out (by simp [frame_put_uint8.l0])
    | succ k1 =>
      have H:=HA.out
      clear HA
      simp only [frame_put_uint8.l0] at H
      by_cases c4:x7_1≥0
      · rw [if_pos c4] at H
        have c4b0:decide (0≤x7_1)=true:=decide_eq_true c4
        clear c4
        obtain ⟨ji5,hji5⟩:∃ j_:Int,(wrap64 (8*x7_1))=j_:=⟨_,rfl⟩
        replace H:(if 0≤(ji5) then (if x0_1.length<140737488355328 then (frame_put_uint8.l0 k1 (x0_1++[(shr .u16 (IntKind.u16.wrap (a1)) (ji5))%256]) a1 (wrap64 (x7_1-1))) else (none)) else (none))=some r:=by first|(rw [hji5] at H;exact H)|(simp only [hji5] at H ⊢;exact H)
        have hji5w:(IntKind.i64.wrap (8*x7_1))=ji5:=(i64_w _).trans hji5
        by_cases c6:0≤(ji5)
        · rw [if_pos c6] at H
          have c6b0:=eq_true c6
          have c6b1:decide (0≤(ji5))=true:=decide_eq_true c6
          clear c6
          obtain ⟨ji7,hji7⟩:∃ j_:Int,(shr .u16 (IntKind.u16.wrap (a1)) (ji5))=j_:=⟨_,rfl⟩
          replace H:(if x0_1.length<140737488355328 then (frame_put_uint8.l0 k1 (x0_1++[(ji7)%256]) a1 (wrap64 (x7_1-1))) else (none))=some r:=by first|(rw [hji7] at H;exact H)|(simp only [hji7] at H ⊢;exact H)
          have hji7_:((IntKind.u16.wrap (a1))/2 ^ min (ji5).toNat 16)=ji7:=hji7
          have hji7z:(ji5)≤16→((IntKind.u16.wrap (a1))/2 ^ (ji5).toNat)=ji7:=shr_small hji7
          by_cases c8:x0_1.length<140737488355328
          · rw [if_pos c8] at H
            have LMc8:=Aside0.mk c8
            clear c8
            obtain ⟨y127,hy127⟩:∃ y_:List Int,y_=(x0_1++[(ji7)%256]):=⟨_,rfl⟩
            replace H:(frame_put_uint8.l0 k1 y127 a1 (wrap64 (x7_1-1)))=some r:=by first|(rw [hy127];with_reducible exact H)|(have H2_:=(Option.bind_some _ _).symm.trans H;rw [hy127];with_reducible exact H2_)|(have H2_:=(Option.bind_some _ _).symm.trans H;with_reducible exact H2_)|with_reducible exact H|(rw [hy127];exact H)|exact H
            have Ny127:=Aside0.mk hy127
            clear hy127
            have H':=Aside0.mk H
            clear H
            go_wp2_with (first|((with_reducible refine gate_builtin (b := .append) (xs:=#[.tmp 14,.tmp 21]) rfl ?_);at_builtin;refine Kd.R_append (Kd.int .u8) (w0:=w0) w0.heap.size rfl (.tmp 14) (.tmp 21) 25 5 (.int .u8 0) 1 rfl Try.underlying25 info5 rfl (by decide) (by omega) u0 x0_1 ((ji7)%256) [.int .u8 ((ji7)%256)] (fun k_=>(P0_ k_∨w.heap.size≤k_)) (fun _=>False) rfl rfl ?aP (fun _ hk=>hk.elim) ?aF ?aO ?aB ?aS ?aL ?_;(case aP=>exact rfl);(case aB=>exact (by repeat (first|(with_reducible first|exact HB.out|apply below_alloc|apply pw_below_drewN|apply below_drew1)|exact HB.out)));(case aF=>exact (fun k_ hk=>(.inr (Nat.le_trans (by first|exact HK.out.1|exact (show Kept w _ (fun k_=>P0_ k_) from by repeat (first|(with_reducible first|exact HK.out|apply Kept.alloc|apply Kept.drewN|apply Kept.drew)|exact HK.out)).1) hk))));(case aO=>exact (by (with_reducible repeat (first|apply Kd.R_alloc|apply Kd.R_drewN|apply Kd.R_drew));exact HO_0.out));(case aS=>exact (below_size (by repeat (first|(with_reducible first|exact HB.out|apply below_alloc|apply pw_below_drewN|apply below_drew1)|exact HB.out))));(case aL=>have:=LMc8.out;omega);intro v128 w9 ho hb hg hat;rw [← Ny127.out] at ho;have n0_:=Aside0.mk (hb);have n1_:=Aside0.mk (Kept.of_grown (S:=(fun k_=>P0_ k_)) hg (by repeat (first|(with_reducible first|exact HK.out|apply Kept.alloc|apply Kept.drewN|apply Kept.drew)|exact HK.out)) (fun k_ e_=>(HO_0.out.1 k_ e_)));have n2_:=Aside0.mk (ho);clear HB;clear HK;clear HO_0;have HB:=n0_;have HK:=n1_;have HO129:=n2_;clear n0_ n1_ n2_;clear ho hb hg hat))
            go_roundg k1
            case measure=>have:=HK1.out;omega
            case rel=>exact ⟨(y127),(wrap64 (x7_1-1)),(by first|rfl|(simp;done)|(simp [*];done)),H',⟨by have:=HK1.out;omega⟩,⟨by (with_reducible repeat (first|apply Kd.R_alloc|apply Kd.R_drewN|apply Kd.R_drew));exact HO129.out⟩,⟨by repeat (first|(with_reducible first|exact HK.out|apply Kept.alloc|apply Kept.drewN|apply Kept.drew)|exact HK.out)⟩,⟨by repeat (first|(with_reducible first|exact HB.out|apply below_alloc|apply pw_below_drewN|apply below_drew1)|exact HB.out)⟩⟩
          · rw [if_neg c8] at H
            exact absurd H (by simp)
        · rw [if_neg c6] at H
          exact absurd H (by simp)
      · rw [if_neg c4] at H
        have c4b0:decide (0≤x7_1)=false:=decide_eq_false c4
        clear c4
        obtain rfl:=Option.some.inj H
        go_wp2
        go_ret
        exact ⟨_,by first|rfl|(simp [errW_none,errW_some]<;>rfl)|(simp [*,errW_none,errW_some]<;>rfl),by (with_reducible repeat (first|apply Kd.R_alloc|apply Kd.R_drewN|apply Kd.R_drew));exact HO_0.out,by repeat (first|(with_reducible first|exact HB.out|apply below_alloc|apply pw_below_drewN|apply below_drew1)|exact HB.out),by repeat (first|(with_reducible first|exact HK.out|apply Kept.alloc|apply Kept.drewN|apply Kept.drew)|exact HK.out)⟩
def crc_Sum.f (l0:List Int):Option Int:=if l0.all (fun x=>decide (0≤x)&&decide (x≤255))=true then some (Crc.crcOf l0 65535) else none
theorem crc_Sum.calls (A0:Option Addr) (c0:Nat) (l0:List Int) (r:Int) (w:World) (hr0:Kd.C (Kd.int .u8) w A0 l0.length l0) (hc0:l0.length≤c0) (h:crc_Sum.f l0=some r) :
    Calls Try.prog 82 #[.slice A0 l0.length c0] w fun e w'=>e = .returned (.int .u16 r)∧Below w.heap.size w w':=by
  unfold crc_Sum.f at h
  split at h
  · rename_i hd
    obtain rfl:=Option.some.inj h
    refine Crc.Sum_calls l0 A0 c0 w hr0 hc0 (fun x hx=>?_)
    have:=List.all_eq_true.1 hd x hx
    simpa using this
  · cases h
def frame_Encode.f (k:Nat) (a0_0:Int) (a0_1:Int) (l0_2:List Int):Option (List Int × Int):=(frame_Good.f a0_0 a0_1 l0_2).bind fun t131=>(if t131=true then ((frame_put_uint16.f k (([126]:List Int)) (IntKind.u16.wrap ((l0_2.length:Int))) 2).bind fun t135=>((frame_put_uint8.f k t135 ((a0_0)%256) 1).bind fun t138=>((frame_put_uint8.f k t138 ((a0_1)%256) 1).bind fun t141=>(if t141.length+l0_2.length<140737488355328 then ((some (t141++l0_2:List Int)).bind fun y144=>(if 1≤(y144.length:Int) then ((crc_Sum.f (y144.drop 1)).bind fun t151=>((frame_put_uint16.f k y144 t151 2).bind fun t152=>(some (t152,0)))) else (none))) else (none))))) else (some (([]:List Int),1)))
def frame_Encode.T4:Bool × List (List Nat × List Nat):=(true,[([],[]),([],[]),([1],[1]),([2],[2]),([0,3],[0,3]),([],[]),([5],[5]),([6],[6]),([4,7,4],[4,7]),([8,8,0,1,2,3,4,5,6,7,8],[0,8])])
def frame_Encode.B4:List Nat:=[0,0,2,6,15,0,32,96,255,511]
theorem frame_Encode.tab4:rtab .any (opsOf Try.f32 4)=frame_Encode.T4:=by kernel_rfl
theorem frame_Encode.bits4:waitsOk frame_Encode.T4.2 frame_Encode.B4=true:=by kernel_rfl
set_option maxHeartbeats 8000000 in
set_option maxRecDepth 100000 in
theorem frame_Encode.calls (k:Nat) (a0_0:Int) (a0_1:Int) (A0_2:Option Addr) (c0_2:Nat) (l0_2:List Int) (r1:List Int) (r2:Int) (w:World) (hr0_2:Kd.C (Kd.int .u8) w A0_2 l0_2.length l0_2) (hc0_2:l0_2.length≤c0_2) (h:frame_Encode.f k a0_0 a0_1 l0_2=some (r1,r2)) :
    Calls Try.prog 32 #[.agg #[.int .i64 a0_0,.int .i64 a0_1,.slice A0_2 l0_2.length c0_2]] w fun e w'=>∃ v0_:Value,e = .returned (.tuple #[v0_,.int .i64 r2])∧Kd.R (Kd.int .u8) 5 w' w.heap.size (fun _=>True) v0_ r1∧Below w.heap.size w w':=by
  have hu54:=Try.underlying54
  have HR0_2:=Aside0.mk hr0_2
  have HC0_2:=Aside0.mk hc0_2
  clear hr0_2 hc0_2
  have HB:=Aside0.mk (Below.refl w.heap.size w)
  have H:((frame_Good.f a0_0 a0_1 l0_2).bind fun t131=>(if t131=true then ((frame_put_uint16.f k (([126]:List Int)) (IntKind.u16.wrap ((l0_2.length:Int))) 2).bind fun t135=>((frame_put_uint8.f k t135 ((a0_0)%256) 1).bind fun t138=>((frame_put_uint8.f k t138 ((a0_1)%256) 1).bind fun t141=>(if t141.length+l0_2.length<140737488355328 then ((some (t141++l0_2:List Int)).bind fun y144=>(if 1≤(y144.length:Int) then ((crc_Sum.f (y144.drop 1)).bind fun t151=>((frame_put_uint16.f k y144 t151 2).bind fun t152=>(some (t152,0)))) else (none))) else (none))))) else (some (([]:List Int),1))))=some (r1,r2):=h
  clear h
  replace H:=Option.bind_eq_some_iff.mp H
  obtain ⟨t131,A20,H⟩:=H
  replace H:(if t131=true then ((frame_put_uint16.f k (([126]:List Int)) (IntKind.u16.wrap ((l0_2.length:Int))) 2).bind fun t135=>((frame_put_uint8.f k t135 ((a0_0)%256) 1).bind fun t138=>((frame_put_uint8.f k t138 ((a0_1)%256) 1).bind fun t141=>(if t141.length+l0_2.length<140737488355328 then ((some (t141++l0_2:List Int)).bind fun y144=>(if 1≤(y144.length:Int) then ((crc_Sum.f (y144.drop 1)).bind fun t151=>((frame_put_uint16.f k y144 t151 2).bind fun t152=>(some (t152,0)))) else (none))) else (none))))) else (some (([]:List Int),1)))=some (r1,r2):=H
  have A2:=Aside0.mk A20
  clear A20
  by_cases c3:t131=true
  · subst c3
    have H1:((frame_put_uint16.f k (([126]:List Int)) (IntKind.u16.wrap ((l0_2.length:Int))) 2).bind fun t135=>((frame_put_uint8.f k t135 ((a0_0)%256) 1).bind fun t138=>((frame_put_uint8.f k t138 ((a0_1)%256) 1).bind fun t141=>(if t141.length+l0_2.length<140737488355328 then ((some (t141++l0_2:List Int)).bind fun y144=>(if 1≤(y144.length:Int) then ((crc_Sum.f (y144.drop 1)).bind fun t151=>((frame_put_uint16.f k y144 t151 2).bind fun t152=>(some (t152,0)))) else (none))) else (none)))))=some (r1,r2):=by rw [if_pos rfl] at H;exact H
    clear H
    have H:=H1
    clear H1
    obtain ⟨y132,hy132⟩:∃ y_:List Int,y_=(([126]:List Int)):=⟨_,rfl⟩
    replace H:((frame_put_uint16.f k y132 (IntKind.u16.wrap ((l0_2.length:Int))) 2).bind fun t135=>((frame_put_uint8.f k t135 ((a0_0)%256) 1).bind fun t138=>((frame_put_uint8.f k t138 ((a0_1)%256) 1).bind fun t141=>(if t141.length+l0_2.length<140737488355328 then ((some (t141++l0_2:List Int)).bind fun y144=>(if 1≤(y144.length:Int) then ((crc_Sum.f (y144.drop 1)).bind fun t151=>((frame_put_uint16.f k y144 t151 2).bind fun t152=>(some (t152,0)))) else (none))) else (none)))))=some (r1,r2):=by first|(rw [hy132];with_reducible exact H)|(have H2_:=(Option.bind_some _ _).symm.trans H;rw [hy132];with_reducible exact H2_)|(have H2_:=(Option.bind_some _ _).symm.trans H;with_reducible exact H2_)|with_reducible exact H|(rw [hy132];exact H)|exact H
    have Ny132:=Aside0.mk hy132
    clear hy132
    replace H:=Option.bind_eq_some_iff.mp H
    obtain ⟨t135,A40,H⟩:=H
    replace H:((frame_put_uint8.f k t135 ((a0_0)%256) 1).bind fun t138=>((frame_put_uint8.f k t138 ((a0_1)%256) 1).bind fun t141=>(if t141.length+l0_2.length<140737488355328 then ((some (t141++l0_2:List Int)).bind fun y144=>(if 1≤(y144.length:Int) then ((crc_Sum.f (y144.drop 1)).bind fun t151=>((frame_put_uint16.f k y144 t151 2).bind fun t152=>(some (t152,0)))) else (none))) else (none))))=some (r1,r2):=H
    have A4:=Aside0.mk A40
    clear A40
    replace H:=Option.bind_eq_some_iff.mp H
    obtain ⟨t138,A50,H⟩:=H
    replace H:((frame_put_uint8.f k t138 ((a0_1)%256) 1).bind fun t141=>(if t141.length+l0_2.length<140737488355328 then ((some (t141++l0_2:List Int)).bind fun y144=>(if 1≤(y144.length:Int) then ((crc_Sum.f (y144.drop 1)).bind fun t151=>((frame_put_uint16.f k y144 t151 2).bind fun t152=>(some (t152,0)))) else (none))) else (none)))=some (r1,r2):=H
    have A5:=Aside0.mk A50
    clear A50
    replace H:=Option.bind_eq_some_iff.mp H
    obtain ⟨t141,A60,H⟩:=H
    replace H:(if t141.length+l0_2.length<140737488355328 then ((some (t141++l0_2:List Int)).bind fun y144=>(if 1≤(y144.length:Int) then ((crc_Sum.f (y144.drop 1)).bind fun t151=>((frame_put_uint16.f k y144 t151 2).bind fun t152=>(some (t152,0)))) else (none))) else (none))=some (r1,r2):=H
    have A6:=Aside0.mk A60
    clear A60
    by_cases c7:t141.length+l0_2.length<140737488355328
    · rw [if_pos c7] at H
      have LMc7:=Aside0.mk c7
      clear c7
      obtain ⟨y144,hy144⟩:∃ y_:List Int,y_=(t141++l0_2):=⟨_,rfl⟩
      replace H:(if 1≤(y144.length:Int) then ((crc_Sum.f (y144.drop 1)).bind fun t151=>((frame_put_uint16.f k y144 t151 2).bind fun t152=>(some (t152,0)))) else (none))=some (r1,r2):=by first|(rw [hy144];with_reducible exact H)|(have H2_:=(Option.bind_some _ _).symm.trans H;rw [hy144];with_reducible exact H2_)|(have H2_:=(Option.bind_some _ _).symm.trans H;with_reducible exact H2_)|with_reducible exact H|(rw [hy144];exact H)|exact H
      have Ny144:=Aside0.mk hy144
      clear hy144
      by_cases c8:1≤(y144.length:Int)
      · rw [if_pos c8] at H
        have c8b0:=eq_true c8
        have c8b1:decide (1≤(y144.length:Int))=true:=decide_eq_true c8
        clear c8
        obtain ⟨y147,hy147⟩:∃ y_:List Int,y_=(y144.drop 1):=⟨_,rfl⟩
        replace H:((crc_Sum.f y147).bind fun t151=>((frame_put_uint16.f k y144 t151 2).bind fun t152=>(some (t152,0))))=some (r1,r2):=by first|(rw [hy147];with_reducible exact H)|(have H2_:=(Option.bind_some _ _).symm.trans H;rw [hy147];with_reducible exact H2_)|(have H2_:=(Option.bind_some _ _).symm.trans H;with_reducible exact H2_)|with_reducible exact H|(rw [hy147];exact H)|exact H
        have Ny147:=Aside0.mk hy147
        clear hy147
        replace H:=Option.bind_eq_some_iff.mp H
        obtain ⟨t151,A90,H⟩:=H
        replace H:((frame_put_uint16.f k y144 t151 2).bind fun t152=>(some (t152,0)))=some (r1,r2):=H
        have A9:=Aside0.mk A90
        clear A90
        replace H:=Option.bind_eq_some_iff.mp H
        obtain ⟨t152,A100,H⟩:=H
        replace H:(some (t152,0))=some (r1,r2):=H
        have A10:=Aside0.mk A100
        clear A100
        simp only [Option.some.injEq,Prod.mk.injEq] at H
        obtain ⟨rfl,rfl⟩:=H
        go_enter Try.func32,Try.ntmps32
        try go_wp2_with (first|((with_reducible refine gate_dst (N:=1) rfl ?_);refine box_event ?hg (N:=1) ?hd (cs:=#[.int .i64 a0_0,.int .i64 a0_1,.slice A0_2 l0_2.length c0_2]) (t:=54) ?hr ?_;(case hd=>rfl);(case hg=>rfl);(case hr=>first|(go_simp;done)|(go_simp;rfl));intro gb130 hg w11 hbox hb;have n0_:=Aside0.mk (below_step (by repeat (first|(with_reducible first|exact HB.out|apply below_alloc|apply pw_below_drewN|apply below_drew1)|exact HB.out)) hb);have n1_:=Aside0.mk (hbox);have n2_:=Aside0.mk ((by rw [hg];exact (below_size (by repeat (first|(with_reducible first|exact HB.out|apply below_alloc|apply pw_below_drewN|apply below_drew1)|exact HB.out))):w.heap.size≤gb130));have n3_:=Aside0.mk ((by rw [hg];exact (below_size (by repeat (first|(with_reducible first|exact HB.out|apply below_alloc|apply pw_below_drewN|apply below_drew1)|exact HB.out))):w.heap.size≤gb130));clear HB;have HB:=n0_;have BK130:=n1_;have GW130:=n2_;have GE130:=n3_;clear n0_ n1_ n2_ n3_;clear hb hbox hg;have hcz12_0:w11.cell? ⟨gb130,0,none⟩=some (.int .i64 a0_0):=(blk_cell BK130.out 0).trans rfl;have hcz12_1:w11.cell? ⟨gb130,1,none⟩=some (.int .i64 a0_1):=(blk_cell BK130.out 1).trans rfl;have hcz12_2:w11.cell? ⟨gb130,2,none⟩=some (.slice A0_2 l0_2.length c0_2):=(blk_cell BK130.out 2).trans rfl;have hfz12_0:=blk_frozen BK130.out 0;have hfz12_1:=blk_frozen BK130.out 1;have hfz12_2:=blk_frozen BK130.out 2)|((with_reducible refine gate_callee (f:=79) rfl ?_);refine goesL_ (some 6) rfl rfl Try.func79 (by kernel_rfl) rfl #[.agg #[.int .i64 a0_0,.int .i64 a0_1,.slice A0_2 l0_2.length c0_2]] rfl (by (try simp only [List.map_toArray,List.map_cons,List.map_nil]);first|done|rfl|(simp only [List.length_drop,List.length_take];rfl)) ?_;(with_reducible refine (frame_Good.calls a0_0 a0_1 _ _ l0_2 true _ ?side1 ?side2 A2.out).mono ?_);(case side1=>repeat (first|exact (Kd.C_below HR0_2.out HB.out)|(with_reducible refine Kd.C_alloc ?_ _)|(with_reducible refine Kd.C_drewN ?_ _)|(with_reducible refine Kd.C_drew ?_)));(case side2=>exact HC0_2.out);rintro e w13 ⟨rfl,hb⟩;refine ⟨_,rfl,?_⟩;have n0_:=Aside0.mk (blk_below (g:=gb130) (o := .cells #[.int .i64 a0_0,.int .i64 a0_1,.slice A0_2 l0_2.length c0_2] 54 (0,0)) (by (with_reducible repeat (first|refine blk_drewN ?_ _|refine blk_drew ?_|refine blk_alloc ?_ _));exact BK130.out) hb);have n1_:=Aside0.mk (below_step (by repeat (first|(with_reducible first|exact HB.out|apply below_alloc|apply pw_below_drewN|apply below_drew1|refine below_set ?_ GE130.out)|exact HB.out)) hb);clear BK130;clear HB;have BK130:=n0_;have HB:=n1_;clear n0_ n1_;(try clear hb);(try clear hb2);(try clear hk);(try clear hi))|((with_reducible refine gate_dst (N:=8) rfl ?_);refine Kd.R_lit (Kd.int .u8) _ 5 ?hg (N:=8) ?hd (xs:=([126]:List Int)) (inner:=[.int .u8 126]) (ok:=fun _=>True) (okp:=fun _=>True) ?hr ?hp (fun _ hk=>hk) trivial (Below.refl _ _) (Nat.le_refl _) (by simp) ?_;(case hd=>rfl);(case hg=>rfl);(case hr=>first|(go_simp;done)|(go_simp;rfl));(case hp=>exact (Reps.one (show Kd.M (Kd.int .u8) _ _ _ 126 [.int .u8 126] from rfl) (Reps.none _ _)));intro v133 w14 ho15 hb hg_ hnew_;clear hg_ hnew_;(first|rw [← Ny132.out] at ho15|(simp only [Int.reduceToNat] at ho15;rw [← Ny132.out] at ho15));have n0_:=Aside0.mk (Kd.R_lower ho15 (below_size (by repeat (first|(with_reducible first|exact HB.out|apply below_alloc|apply pw_below_drewN|apply below_drew1|refine below_set ?_ GE130.out)|exact HB.out))));have n1_:=Aside0.mk (blk_below (g:=gb130) (o := .cells #[.int .i64 a0_0,.int .i64 a0_1,.slice A0_2 l0_2.length c0_2] 54 (0,0)) (by (with_reducible repeat (first|refine blk_drewN ?_ _|refine blk_drew ?_|refine blk_alloc ?_ _));exact BK130.out) hb);have n2_:=Aside0.mk (below_step (by repeat (first|(with_reducible first|exact HB.out|apply below_alloc|apply pw_below_drewN|apply below_drew1|refine below_set ?_ GE130.out)|exact HB.out)) hb);clear BK130;clear HB;have HO134:=n0_;have BK130:=n1_;have HB:=n2_;clear n0_ n1_ n2_;clear hb ho15;have hcz16_0:w14.cell? ⟨gb130,0,none⟩=some (.int .i64 a0_0):=(blk_cell BK130.out 0).trans rfl;have hcz16_1:w14.cell? ⟨gb130,1,none⟩=some (.int .i64 a0_1):=(blk_cell BK130.out 1).trans rfl;have hcz16_2:w14.cell? ⟨gb130,2,none⟩=some (.slice A0_2 l0_2.length c0_2):=(blk_cell BK130.out 2).trans rfl;have hfz16_0:=blk_frozen BK130.out 0;have hfz16_1:=blk_frozen BK130.out 1;have hfz16_2:=blk_frozen BK130.out 2;obtain ⟨Ao17,co17,eo17⟩:=Kd.R_slice HO134.out;subst eo17)|((with_reducible refine gate_callee (f:=80) rfl ?_);refine goesL_ (some 13) rfl rfl Try.func80 (by kernel_rfl) rfl #[.slice Ao17 y132.length co17,.int .u16 (IntKind.u16.wrap ((l0_2.length:Int))),.int .i64 2] rfl (by (try simp only [List.map_toArray,List.map_cons,List.map_nil]);first|done|rfl|(simp only [List.length_drop,List.length_take];rfl)) ?_;(with_reducible refine (frame_put_uint16.calls k (fun k_=>some k_=(.slice Ao17 y132.length co17:Value).ownBlock) (.slice Ao17 y132.length co17) y132 (IntKind.u16.wrap ((l0_2.length:Int))) 2 t135 w _ ?side1 ?side2 A4.out).mono ?_);(case side1=>repeat (first|(with_reducible first|exact HB.out|apply below_alloc|apply pw_below_drewN|apply below_drew1|refine below_set ?_ GE130.out)|exact HB.out));(case side2=>exact Kd.R_tight rfl HO134.out);rintro e w18 ⟨v136,rfl,ho0,hb,hkp⟩;refine ⟨_,rfl,?_⟩;have n0_:=Aside0.mk (blk_kept (by (with_reducible repeat (first|refine blk_drewN ?_ _|refine blk_drew ?_|refine blk_alloc ?_ _));exact BK130.out) hkp (fun hs_=>(fun e_=>(Kd.R_ne HO134.out BK130.out (by decide)) e_) hs_));have n1_:=Aside0.mk (Kd.R_mono (ok':=fun k_=>True) ho0 (fun k_ hk_=>trivial));have n2_:=Aside0.mk (hb);clear BK130;clear HB;clear HO134;have BK130:=n0_;have HO137:=n1_;have HB:=n2_;clear n0_ n1_ n2_;(try clear hb);(try clear hkp);(try clear ho0)))
        have n0_:=Aside0.mk (Kd.R_drew HO137.out)
        have n1_:=Aside0.mk (blk_drew BK130.out)
        have n2_:=Aside0.mk (below_drew1 HB.out)
        clear HO137
        clear BK130
        clear HB
        have HO137:=n0_
        have BK130:=n1_
        have HB:=n2_
        clear n0_ n1_ n2_
        obtain ⟨Ao20,co20,eo20⟩:=Kd.R_slice HO137.out
        (first|subst eo20|(injection eo20 with f1_ f2_ f3_;have f4_:=f1_.symm;have f5_:=f3_.symm;clear f1_ f2_ f3_;subst f4_;subst f5_))
        refine start_ (n:=10) (S:=fun w'=>w'.cell? ⟨gb130,0,none⟩=some (.int .i64 a0_0)∧w'.cell? ⟨gb130,1,none⟩=some (.int .i64 a0_1)∧w'.cell? ⟨gb130,2,none⟩=some (.slice A0_2 l0_2.length c0_2)) (ds:=[]) #[false,false,false,false,false,false,false,false,false,false] (by kernel_rfl) rfl rfl ⟨(blk_cell BK130.out 0).trans rfl,(blk_cell BK130.out 1).trans rfl,(blk_cell BK130.out 2).trans rfl⟩ (fun hHeld=>?_);refine with_tabW frame_Encode.tab4 frame_Encode.bits4 (fun HT_ HW_=>?_)
        generalize w18.drew=w19 at HO137 BK130 HB hHeld ⊢
        refine pure_ (i:=0) (N:=some 14) (v:=?_) (a':=?_) #[true,false,false,false,false,false,false,false,false,false] rfl rfl (any_of HT_.out (by kernel_rfl)) (fun _ _ _ h=>h) (Or.inl ⟨by rfl,?_⟩) ?_ ?_
        rotate_left
        · intro w'
          go_simp
          with_reducible rfl
        rotate_left
        · simp only [Act.put,List.setIfInBounds_toArray,List.set_cons_zero,List.set_cons_succ,i64_w,i32_w]
          rfl
        refine pure_ (i:=1) (N:=some 15) (v:=?_) (a':=?_) #[true,true,false,false,false,false,false,false,false,false] rfl rfl (any_of HT_.out (by kernel_rfl)) (fun _ _ _ h=>h) (Or.inl ⟨by rfl,?_⟩) ?_ ?_
        rotate_left
        · intro w'
          go_simp
          with_reducible rfl
        rotate_left
        · simp only [Act.put,List.setIfInBounds_toArray,List.set_cons_zero,List.set_cons_succ,i64_w,i32_w]
          rfl
        refine pure_ (i:=5) (N:=some 19) (v:=?_) (a':=?_) #[true,true,false,false,false,true,false,false,false,false] rfl rfl (any_of HT_.out (by kernel_rfl)) (fun _ _ _ h=>h) (Or.inl ⟨by rfl,?_⟩) ?_ ?_
        rotate_left
        · intro w'
          go_simp
          with_reducible rfl
        rotate_left
        · simp only [Act.put,List.setIfInBounds_toArray,List.set_cons_zero,List.set_cons_succ,i64_w,i32_w]
          rfl
        refine take_ (i:=2) (N:=some 16) (v:=?_) (a':=?_) #[true,true,true,false,false,true,false,false,false,false] rfl rfl (take_ofW HT_.out HW_.out (by kernel_rfl)) (fun _ _ _ h=>h) (Or.inl ⟨by rfl,?_⟩) hHeld ?_ ?_
        rotate_left
        · rintro w' ⟨s0,s1,s2⟩
          go_simp
          with_reducible rfl
        rotate_left
        · simp only [Act.put,List.setIfInBounds_toArray,List.set_cons_zero,List.set_cons_succ,i64_w,i32_w]
          rfl
        refine pure_ (i:=3) (N:=some 17) (v:=?_) (a':=?_) #[true,true,true,true,false,true,false,false,false,false] rfl rfl (any_of HT_.out (by kernel_rfl)) (fun _ _ _ h=>h) (Or.inl ⟨by rfl,?_⟩) ?_ ?_
        rotate_left
        · intro w'
          go_simp
          with_reducible rfl
        rotate_left
        · simp only [Act.put,List.setIfInBounds_toArray,List.set_cons_zero,List.set_cons_succ,i64_w,i32_w]
          rfl
        refine take_ (i:=6) (N:=some 20) (v:=?_) (a':=?_) #[true,true,true,true,false,true,true,false,false,false] rfl rfl (take_ofW HT_.out HW_.out (by kernel_rfl)) (fun _ _ _ h=>h) (Or.inl ⟨by rfl,?_⟩) hHeld ?_ ?_
        rotate_left
        · rintro w' ⟨s0,s1,s2⟩
          go_simp
          with_reducible rfl
        rotate_left
        · simp only [Act.put,List.setIfInBounds_toArray,List.set_cons_zero,List.set_cons_succ,i64_w,i32_w]
          rfl
        refine pure_ (i:=7) (N:=some 21) (v:=?_) (a':=?_) #[true,true,true,true,false,true,true,true,false,false] rfl rfl (any_of HT_.out (by kernel_rfl)) (fun _ _ _ h=>h) (Or.inl ⟨by rfl,?_⟩) ?_ ?_
        rotate_left
        · intro w'
          go_simp
          with_reducible rfl
        rotate_left
        · simp only [Act.put,List.setIfInBounds_toArray,List.set_cons_zero,List.set_cons_succ,i64_w,i32_w]
          rfl
        refine one_ (i:=4) (N:=some 18) #[true,true,true,true,true,true,true,true,false,false] rfl rfl (one_of HT_.out (by kernel_rfl)) (by decide) (fun K hK=>?_)
        refine goes_ Try.func81 (by kernel_rfl) rfl #[.slice Ao20 t135.length co20,.int .u8 ((a0_0)%256),.int .i64 1] (by rfl) rfl rfl (by (try simp only [List.map_toArray,List.map_cons,List.map_nil]);first|done|rfl|(simp only [List.length_drop,List.length_take];rfl)) ?_
        with_reducible refine (frame_put_uint8.calls k (fun k_=>some k_=(.slice Ao20 t135.length co20:Value).ownBlock) (.slice Ao20 t135.length co20) t135 ((a0_0)%256) 1 t138 w _ ?side1 ?side2 A5.out).mono ?_
        (case side1=>repeat (first|(with_reducible first|exact HB.out|apply below_alloc|apply pw_below_drewN|apply below_drew1|refine below_set ?_ GE130.out)|exact HB.out))
        (case side2=>exact Kd.R_tight rfl HO137.out)
        rintro e w21 ⟨v139,rfl,ho0,hb,hkp⟩
        refine ⟨_,rfl,?_⟩
        have n0_:=Aside0.mk (blk_kept (by (with_reducible repeat (first|refine blk_drewN ?_ _|refine blk_drew ?_|refine blk_alloc ?_ _));exact BK130.out) hkp (fun hs_=>(fun e_=>(Kd.R_ne HO137.out BK130.out (by decide)) e_) hs_))
        have n1_:=Aside0.mk (Kd.R_mono (ok':=fun k_=>True) ho0 (fun k_ hk_=>trivial))
        have n2_:=Aside0.mk (hb)
        clear BK130
        clear HB
        clear HO137
        have BK130:=n0_
        have HO140:=n1_
        have HB:=n2_
        clear n0_ n1_ n2_
        (try clear hb)
        (try clear hkp)
        (try clear ho0)
        obtain ⟨Ao22,co22,eo22⟩:=Kd.R_slice HO140.out
        (first|subst eo22|(injection eo22 with f1_ f2_ f3_;have f4_:=f1_.symm;have f5_:=f3_.symm;clear f1_ f2_ f3_;subst f4_;subst f5_))
        refine hK.out _ _ ⟨(blk_cell BK130.out 0).trans rfl,(blk_cell BK130.out 1).trans rfl,(blk_cell BK130.out 2).trans rfl⟩ (fun hHeld=>?_)
        clear hK K
        refine norm_ (a':=?_) ?_ ?_
        rotate_left
        · show Act.put _ (some 18) _=_
          simp only [Act.put,List.setIfInBounds_toArray,List.set_cons_zero,List.set_cons_succ,i64_w,i32_w]
          rfl
        refine one_ (i:=8) (N:=some 22) #[true,true,true,true,true,true,true,true,true,false] rfl rfl (one_of HT_.out (by kernel_rfl)) (by decide) (fun K hK=>?_)
        refine goes_ Try.func81 (by kernel_rfl) rfl #[.slice Ao22 t138.length co22,.int .u8 ((a0_1)%256),.int .i64 1] (by rfl) rfl rfl (by (try simp only [List.map_toArray,List.map_cons,List.map_nil]);first|done|rfl|(simp only [List.length_drop,List.length_take];rfl)) ?_
        with_reducible refine (frame_put_uint8.calls k (fun k_=>some k_=(.slice Ao22 t138.length co22:Value).ownBlock) (.slice Ao22 t138.length co22) t138 ((a0_1)%256) 1 t141 w _ ?side1 ?side2 A6.out).mono ?_
        (case side1=>repeat (first|(with_reducible first|exact HB.out|apply below_alloc|apply pw_below_drewN|apply below_drew1|refine below_set ?_ GE130.out)|exact HB.out))
        (case side2=>exact Kd.R_tight rfl HO140.out)
        rintro e w23 ⟨v142,rfl,ho0,hb,hkp⟩
        refine ⟨_,rfl,?_⟩
        have n0_:=Aside0.mk (blk_kept (by (with_reducible repeat (first|refine blk_drewN ?_ _|refine blk_drew ?_|refine blk_alloc ?_ _));exact BK130.out) hkp (fun hs_=>(fun e_=>(Kd.R_ne HO140.out BK130.out (by decide)) e_) hs_))
        have n1_:=Aside0.mk (Kd.R_mono (ok':=fun k_=>True) ho0 (fun k_ hk_=>trivial))
        have n2_:=Aside0.mk (hb)
        clear BK130
        clear HB
        clear HO140
        have BK130:=n0_
        have HO143:=n1_
        have HB:=n2_
        clear n0_ n1_ n2_
        (try clear hb)
        (try clear hkp)
        (try clear ho0)
        refine hK.out _ _ ⟨(blk_cell BK130.out 0).trans rfl,(blk_cell BK130.out 1).trans rfl,(blk_cell BK130.out 2).trans rfl⟩ (fun hHeld=>?_)
        clear hK K
        refine norm_ (a':=?_) ?_ ?_
        rotate_left
        · show Act.put _ (some 22) _=_
          simp only [Act.put,List.setIfInBounds_toArray,List.set_cons_zero,List.set_cons_succ,i64_w,i32_w]
          rfl
        refine pure_ (i:=9) (N:=some 4) (v:=?_) (a':=?_) #[true,true,true,true,true,true,true,true,true,true] rfl rfl (any_of HT_.out (by kernel_rfl)) (fun _ _ _ h=>h) (Or.inl ⟨by rfl,?_⟩) ?_ ?_
        rotate_left
        · intro w'
          go_simp
          with_reducible rfl
        rotate_left
        · simp only [Act.put,List.setIfInBounds_toArray,List.set_cons_zero,List.set_cons_succ,i64_w,i32_w]
          rfl
        refine done_ (done_of HT_.out (by kernel_rfl)) ?_
        have hcz24_0:w23.cell? ⟨gb130,0,none⟩=some (.int .i64 a0_0):=(blk_cell BK130.out 0).trans rfl
        have hcz24_1:w23.cell? ⟨gb130,1,none⟩=some (.int .i64 a0_1):=(blk_cell BK130.out 1).trans rfl
        have hcz24_2:w23.cell? ⟨gb130,2,none⟩=some (.slice A0_2 l0_2.length c0_2):=(blk_cell BK130.out 2).trans rfl
        have hfz24_0:=blk_frozen BK130.out 0
        have hfz24_1:=blk_frozen BK130.out 1
        have hfz24_2:=blk_frozen BK130.out 2
        try go_wp2_with (first|((with_reducible refine gate_builtin (b := .append) (xs:=#[.tmp 23,.tmp 25]) rfl ?_);at_builtin;refine Kd.R_append_rows (Kd.int .u8) (w0:=w) w.heap.size rfl (.tmp 23) (.tmp 25) 25 5 (.int .u8 0) 1 rfl Try.underlying25 info5 rfl (by decide) (by omega) v142 t141 l0_2 _ _ _ (fun _=>True) (fun _=>False) rfl rfl ?aO ?aR (fun _ _ h=>h) (fun _ h=>h.elim) ?aF ?aB ?aS ?aL ?_;(case aR=>repeat (first|exact (Kd.C_below HR0_2.out HB.out)|(with_reducible refine Kd.C_alloc ?_ _)|(with_reducible refine Kd.C_drewN ?_ _)|(with_reducible refine Kd.C_drew ?_)));(case aB=>exact (by repeat (first|(with_reducible first|exact HB.out|apply below_alloc|apply pw_below_drewN|apply below_drew1|refine below_set ?_ GE130.out)|exact HB.out)));(case aF=>exact (fun _ _=>trivial));(case aO=>exact (by (with_reducible repeat (first|apply Kd.R_alloc|apply Kd.R_drewN|apply Kd.R_drew));exact HO143.out));(case aS=>exact (below_size (by repeat (first|(with_reducible first|exact HB.out|apply below_alloc|apply pw_below_drewN|apply below_drew1|refine below_set ?_ GE130.out)|exact HB.out))));(case aL=>have:=LMc7.out;omega);intro v145 w25 ho hb hg hat;rw [← Ny144.out] at ho;have n0_:=Aside0.mk (blk_grown (g:=gb130) (o := .cells #[.int .i64 a0_0,.int .i64 a0_1,.slice A0_2 l0_2.length c0_2] 54 (0,0)) (by (with_reducible repeat (first|refine blk_drewN ?_ _|refine blk_drew ?_|refine blk_alloc ?_ _));exact BK130.out) hg (Kd.R_ne HO143.out BK130.out (by decide)));have n1_:=Aside0.mk (hb);have n2_:=Aside0.mk (ho);clear BK130;clear HB;clear HO143;have BK130:=n0_;have HB:=n1_;have HO146:=n2_;clear n0_ n1_ n2_;clear ho hb hg hat;obtain ⟨Ao27,co27,eo27⟩:=Kd.R_slice HO146.out;subst eo27;have q26:(1:Int)≤((y144.length:Int):Int):=of_decide_eq_true (by first|(with_reducible assumption)|assumption);obtain ⟨i026,hi026,_,hsz26,_⟩:=info_parts info5;have hroom26:y144.length≤co27:=(Kd.R_reads' HO146.out).2.1;have hC26:Kd.C (Kd.int .u8) _ Ao27 y144.length y144:=(Kd.R_reads' HO146.out).2.2;have hcut26:=cut_from (P:=Try.prog) 25 5 .i64 Try.underlying25 hi026 1 hsz26 Ao27 y144.length co27 1 (by omega) q26;have hr26:=Kd.C_drop (m:=(1:Int).toNat) (c:=co27) hC26 (by omega) hroom26;obtain ⟨A26,hA26⟩:∃ A1,A1=(if co27=(1:Int).toNat then Ao27 else (Ao27:Option Addr).map (·.add ((1:Int).toNat*1))):=⟨_,rfl⟩;obtain ⟨c26,hc26⟩:∃ c1,c1=co27-(1:Int).toNat:=⟨_,rfl⟩;have hy26:y147.length=y144.length-(1:Int).toNat:=(by rw [Ny147.out,List.length_drop]<;>omega);rw [show (y144).drop (1:Int).toNat=y147 from Ny147.out.symm] at hr26;replace hr26:Kd.C (Kd.int .u8) _ A26 y147.length y147:=(by rw [hA26];exact hr26);rw [← hy26,← hA26,← hc26] at hcut26;have HR150:=Aside0.mk hr26;have HC150:=Aside0.mk (show y147.length≤c26 from by rw [hy26,hc26];exact Nat.sub_le_sub_right hroom26 _);clear hr26 hC26 hroom26 hi026 hsz26 hc26;have KY26:=Aside0.mk hy26;have KA26:=Aside0.mk hA26;clear hy26 hA26;have KL26:=Aside0.mk (show 1≤y144.length from by omega);replace q26:=eq_true q26)|((with_reducible refine gate_callee (f:=82) rfl ?_);refine goesL_ (some 30) rfl rfl Try.func82 (by kernel_rfl) rfl #[.slice A26 y147.length c26] rfl (by (try simp only [List.map_toArray,List.map_cons,List.map_nil]);first|done|rfl|(simp only [List.length_drop,List.length_take];rfl)) ?_;(with_reducible refine (crc_Sum.calls _ _ y147 t151 _ ?side1 ?side2 A9.out).mono ?_);(case side1=>repeat (first|exact (by repeat (first|(with_reducible exact HR150.out)|(with_reducible refine Kd.C_alloc ?_ _)|(with_reducible refine Kd.C_drewN ?_ _)|(with_reducible refine Kd.C_drew ?_)|exact HR150.out))|(with_reducible refine Kd.C_alloc ?_ _)|(with_reducible refine Kd.C_drewN ?_ _)|(with_reducible refine Kd.C_drew ?_)));(case side2=>exact HC150.out);rintro e w28 ⟨rfl,hb⟩;refine ⟨_,rfl,?_⟩;have n0_:=Aside0.mk (Kd.R_below (by (with_reducible repeat (first|apply Kd.R_alloc|apply Kd.R_drewN|apply Kd.R_drew));exact HO146.out) hb);have n1_:=Aside0.mk (blk_below (g:=gb130) (o := .cells #[.int .i64 a0_0,.int .i64 a0_1,.slice A0_2 l0_2.length c0_2] 54 (0,0)) (by (with_reducible repeat (first|refine blk_drewN ?_ _|refine blk_drew ?_|refine blk_alloc ?_ _));exact BK130.out) hb);have n2_:=Aside0.mk (Kd.C_below (by repeat (first|(with_reducible exact HR150.out)|(with_reducible refine Kd.C_alloc ?_ _)|(with_reducible refine Kd.C_drewN ?_ _)|(with_reducible refine Kd.C_drew ?_)|exact HR150.out)) hb);have n3_:=Aside0.mk (below_step (by repeat (first|(with_reducible first|exact HB.out|apply below_alloc|apply pw_below_drewN|apply below_drew1|refine below_set ?_ GE130.out)|exact HB.out)) hb);clear HO146;clear BK130;clear HR150;clear HB;have HO146:=n0_;have BK130:=n1_;have HR150:=n2_;have HB:=n3_;clear n0_ n1_ n2_ n3_;(try clear hb);(try clear hb2);(try clear hk);(try clear hi))|((with_reducible refine gate_callee (f:=80) rfl ?_);refine goesL_ (some 31) rfl rfl Try.func80 (by kernel_rfl) rfl #[.slice Ao27 y144.length co27,.int .u16 t151,.int .i64 2] rfl (by (try simp only [List.map_toArray,List.map_cons,List.map_nil]);first|done|rfl|(simp only [List.length_drop,List.length_take];rfl)) ?_;(with_reducible refine (frame_put_uint16.calls k (fun k_=>some k_=(.slice Ao27 y144.length co27:Value).ownBlock) (.slice Ao27 y144.length co27) y144 t151 2 t152 w _ ?side1 ?side2 A10.out).mono ?_);(case side1=>repeat (first|(with_reducible first|exact HB.out|apply below_alloc|apply pw_below_drewN|apply below_drew1|refine below_set ?_ GE130.out)|exact HB.out));(case side2=>exact Kd.R_tight rfl HO146.out);rintro e w29 ⟨v153,rfl,ho0,hb,hkp⟩;refine ⟨_,rfl,?_⟩;have n0_:=Aside0.mk (blk_kept (by (with_reducible repeat (first|refine blk_drewN ?_ _|refine blk_drew ?_|refine blk_alloc ?_ _));exact BK130.out) hkp (fun hs_=>(fun e_=>(Kd.R_ne HO146.out BK130.out (by decide)) e_) hs_));have n1_:=Aside0.mk (Kd.R_mono (ok':=fun k_=>True) ho0 (fun k_ hk_=>trivial));have n2_:=Aside0.mk (hb);clear BK130;clear HB;clear HO146;have BK130:=n0_;have HO154:=n1_;have HB:=n2_;clear n0_ n1_ n2_;(try clear hb);(try clear hkp);(try clear ho0)))
        go_ret2
        exact ⟨_,by first|rfl|(simp [errW_none,errW_some]<;>rfl)|(simp [*,errW_none,errW_some]<;>rfl),by (with_reducible repeat (first|apply Kd.R_alloc|apply Kd.R_drewN|apply Kd.R_drew));exact HO154.out,by repeat (first|(with_reducible first|exact HB.out|apply below_alloc|apply pw_below_drewN|apply below_drew1|refine below_set ?_ GE130.out)|exact HB.out)⟩
      · rw [if_neg c8] at H
        exact absurd H (by simp)
    · rw [if_neg c7] at H
      exact absurd H (by simp)
  · replace c3:=Bool.eq_false_iff.mpr c3
    subst c3
    have H1:(some (([]:List Int),1))=some (r1,r2):=by rw [if_neg (show ¬ (false=true) by decide)] at H;exact H
    clear H
    have H:=H1
    clear H1
    simp only [Option.some.injEq,Prod.mk.injEq] at H
    obtain ⟨rfl,rfl⟩:=H
    go_enter Try.func32,Try.ntmps32
    go_wp2_with (first|((with_reducible refine gate_dst (N:=1) rfl ?_);refine box_event ?hg (N:=1) ?hd (cs:=#[.int .i64 a0_0,.int .i64 a0_1,.slice A0_2 l0_2.length c0_2]) (t:=54) ?hr ?_;(case hd=>rfl);(case hg=>rfl);(case hr=>first|(go_simp;done)|(go_simp;rfl));intro gb130 hg w30 hbox hb;have n0_:=Aside0.mk (below_step (by repeat (first|(with_reducible first|exact HB.out|apply below_alloc|apply pw_below_drewN|apply below_drew1)|exact HB.out)) hb);have n1_:=Aside0.mk (hbox);have n2_:=Aside0.mk ((by rw [hg];exact (below_size (by repeat (first|(with_reducible first|exact HB.out|apply below_alloc|apply pw_below_drewN|apply below_drew1)|exact HB.out))):w.heap.size≤gb130));have n3_:=Aside0.mk ((by rw [hg];exact (below_size (by repeat (first|(with_reducible first|exact HB.out|apply below_alloc|apply pw_below_drewN|apply below_drew1)|exact HB.out))):w.heap.size≤gb130));clear HB;have HB:=n0_;have BK130:=n1_;have GW130:=n2_;have GE130:=n3_;clear n0_ n1_ n2_ n3_;clear hb hbox hg;have hcz31_0:w30.cell? ⟨gb130,0,none⟩=some (.int .i64 a0_0):=(blk_cell BK130.out 0).trans rfl;have hcz31_1:w30.cell? ⟨gb130,1,none⟩=some (.int .i64 a0_1):=(blk_cell BK130.out 1).trans rfl;have hcz31_2:w30.cell? ⟨gb130,2,none⟩=some (.slice A0_2 l0_2.length c0_2):=(blk_cell BK130.out 2).trans rfl;have hfz31_0:=blk_frozen BK130.out 0;have hfz31_1:=blk_frozen BK130.out 1;have hfz31_2:=blk_frozen BK130.out 2)|((with_reducible refine gate_callee (f:=79) rfl ?_);refine goesL_ (some 6) rfl rfl Try.func79 (by kernel_rfl) rfl #[.agg #[.int .i64 a0_0,.int .i64 a0_1,.slice A0_2 l0_2.length c0_2]] rfl (by (try simp only [List.map_toArray,List.map_cons,List.map_nil]);first|done|rfl|(simp only [List.length_drop,List.length_take];rfl)) ?_;(with_reducible refine (frame_Good.calls a0_0 a0_1 _ _ l0_2 false _ ?side1 ?side2 A2.out).mono ?_);(case side1=>repeat (first|exact (Kd.C_below HR0_2.out HB.out)|(with_reducible refine Kd.C_alloc ?_ _)|(with_reducible refine Kd.C_drewN ?_ _)|(with_reducible refine Kd.C_drew ?_)));(case side2=>exact HC0_2.out);rintro e w32 ⟨rfl,hb⟩;refine ⟨_,rfl,?_⟩;have n0_:=Aside0.mk (blk_below (g:=gb130) (o := .cells #[.int .i64 a0_0,.int .i64 a0_1,.slice A0_2 l0_2.length c0_2] 54 (0,0)) (by (with_reducible repeat (first|refine blk_drewN ?_ _|refine blk_drew ?_|refine blk_alloc ?_ _));exact BK130.out) hb);have n1_:=Aside0.mk (below_step (by repeat (first|(with_reducible first|exact HB.out|apply below_alloc|apply pw_below_drewN|apply below_drew1|refine below_set ?_ GE130.out)|exact HB.out)) hb);clear BK130;clear HB;have BK130:=n0_;have HB:=n1_;clear n0_ n1_;(try clear hb);(try clear hb2);(try clear hk);(try clear hi)))
    go_ret2
    exact ⟨_,by first|rfl|(simp [errW_none,errW_some]<;>rfl)|(simp [*,errW_none,errW_some]<;>rfl),by first|exact Kd.R_nil _ _ _ _ _|exact Kd.N_nil _ _ _ _ _|exact Kd.V_nil _ _ _ _ _|exact Kd.Q_nil _ _ _ _ _|exact Kd.S_nil _ _ _ _ _,by repeat (first|(with_reducible first|exact HB.out|apply below_alloc|apply pw_below_drewN|apply below_drew1|refine below_set ?_ GE130.out)|exact HB.out)⟩
def slices_Clone_byte_byte.f (l0:List Int):Option (List Int):=if l0.length*1≤140737488355328 then some l0 else none
theorem slices_Clone_byte_byte.calls (A0:Option Addr) (c0:Nat) (l0:List Int) (r:List Int) (w:World) (hr0:Kd.C (Kd.int .u8) w A0 l0.length l0) (hc0:l0.length≤c0) (h:slices_Clone_byte_byte.f l0=some r) :
    Calls Try.prog 74 #[.slice A0 l0.length c0] w fun e w'=>∃ v0_:Value,e = .returned (v0_)∧Kd.R (Kd.int .u8) 5 w' w.heap.size (fun _=>True) v0_ r∧Below w.heap.size w w':=by
  unfold slices_Clone_byte_byte.f at h
  split at h
  · obtain rfl:=Option.some.inj h
    exact CloneB.bytes_calls l0 A0 c0 w hr0 hc0 (by assumption)
  · cases h
end Go.Proofs.Ytaeabemipnbgbaa.QFr
end
section
namespace Go.Proofs.Ytaeabemipnbgbaa.QFr
open RowKit YtaeabemipnbgbaaW.PrintWords YtaeabemipnbgbaaW.PrintLast YtaeabemipnbgbaaW.PrintMore
attribute [local go_sem] max2_int min2_int max_two min_two max_three min_three max_four min_four   -- for this text's walks alone
set_option linter.unusedVariables false
set_option linter.unusedSimpArgs false
def frame_take_uint8.l0:Nat→Int→List Int→Int→Int→Option (Int × Bool)
  | 0,_,_,_,_=>none
  | k+1,x8,x22,x23,x24=>if x24<x23 then (if 0≤x24 then (if x24<(x22.length:Int) then (frame_take_uint8.l0 k (Go.bits .or .u16 (IntKind.u16.wrap (x8*256)) (IntKind.u16.wrap (rd x22 x24))) x22 x23 (wrap64 (x24+1))) else (none)) else (none)) else (some ((x8)%256,true))
def frame_take_uint8.f (k:Nat) (l0:List Int) (a1:Int) (a2:Int):Option (Int × Bool):=if (wrap64 (a1+a2))>(l0.length:Int) then (some (0,false)) else (if 0≤a1 then (if a1≤(wrap64 (a1+a2)) then (if (wrap64 (a1+a2))≤(l0.length:Int) then (frame_take_uint8.l0 k 0 ((l0.take ((wrap64 (a1+a2)):Int).toNat).drop (a1:Int).toNat) (((l0.take ((wrap64 (a1+a2)):Int).toNat).drop (a1:Int).toNat).length:Int) 0) else (none)) else (none)) else (none))
set_option maxHeartbeats 8000000 in
set_option maxRecDepth 100000 in
theorem frame_take_uint8.calls (k:Nat) (A0:Option Addr) (c0:Nat) (l0:List Int) (a1:Int) (a2:Int) (r1:Int) (r2:Bool) (w:World) (hr0:Kd.C (Kd.int .u8) w A0 l0.length l0) (hc0:l0.length≤c0) (h:frame_take_uint8.f k l0 a1 a2=some (r1,r2)) :
    Calls Try.prog 98 #[.slice A0 l0.length c0,.int .i64 a1,.int .i64 a2] w fun e w'=>e = .returned (.tuple #[.int .u8 r1,.bool r2])∧Drawn0 w w':=by
  have HR0:=Aside0.mk hr0
  have HC0:=Aside0.mk hc0
  clear hr0 hc0
  have H:(if (wrap64 (a1+a2))>(l0.length:Int) then (some (0,false)) else (if 0≤a1 then (if a1≤(wrap64 (a1+a2)) then (if (wrap64 (a1+a2))≤(l0.length:Int) then (frame_take_uint8.l0 k 0 ((l0.take ((wrap64 (a1+a2)):Int).toNat).drop (a1:Int).toNat) (((l0.take ((wrap64 (a1+a2)):Int).toNat).drop (a1:Int).toNat).length:Int) 0) else (none)) else (none)) else (none)))=some (r1,r2):=h
  clear h
  by_cases c4:(wrap64 (a1+a2))>(l0.length:Int)
  · rw [if_pos c4] at H
    have c4b0:decide ((l0.length:Int)<(wrap64 (a1+a2)))=true:=decide_eq_true c4
    clear c4
    simp only [Option.some.injEq,Prod.mk.injEq] at H
    obtain ⟨rfl,rfl⟩:=H
    go_enter Try.func98,Try.ntmps98
    go_wp2
    go_ret2
    exact ⟨by first|rfl|(simp;done)|(simp [*];done),by repeat (first|exact Drawn0.refl _|apply Drawn0.step)⟩
  · rw [if_neg c4] at H
    have c4b0:decide ((l0.length:Int)<(wrap64 (a1+a2)))=false:=decide_eq_false c4
    clear c4
    by_cases c5:0≤a1
    · rw [if_pos c5] at H
      have c5b0:=eq_true c5
      have c5b1:decide (0≤a1)=true:=decide_eq_true c5
      clear c5
      by_cases c6:a1≤(wrap64 (a1+a2))
      · rw [if_pos c6] at H
        have c6b0:=eq_true c6
        have c6b1:decide (a1≤(wrap64 (a1+a2)))=true:=decide_eq_true c6
        by_cases c7:(wrap64 (a1+a2))≤(l0.length:Int)
        · rw [if_pos c7] at H
          have c7b0:=eq_true c7
          have c7b1:decide ((wrap64 (a1+a2))≤(l0.length:Int))=true:=decide_eq_true c7
          have H':=Aside0.mk H
          clear H
          obtain ⟨i08,hi08,_,hsz8,_⟩:=info_parts info5
          obtain ⟨A8,hcut8,hA8,hC8⟩:=print_mid_of (P:=Try.prog) (Value.int .u8) 0 25 5 .i64 .i64 Try.underlying25 hi08 hsz8 A0 c0 l0 a1 (wrap64 (a1+a2)) (of_decide_eq_true (by first|(with_reducible assumption)|assumption)) (by first|omega|exact of_decide_eq_true (by first|(with_reducible assumption)|assumption)) (of_decide_eq_true (by first|(with_reducible assumption)|assumption)) HC0.out
          obtain ⟨sub1_,hsub1_⟩:∃ s_,((l0.take ((wrap64 (a1+a2)):Int).toNat).drop (a1:Int).toNat)=s_:=⟨_,rfl⟩
          (try rw [hsub1_] at hcut8)
          (try rw [hsub1_] at hA8)
          (try rw [hsub1_] at hC8)
          (try (have H'':=H'.out;rw [hsub1_] at H'';clear H';have H':=Aside0.mk H'';clear H''))
          (try rw [hsub1_] at H)
          clear hsub1_
          have HR155:=Aside0.mk (Kd.C_of_reads (h1:=fun _=>rfl) (hA8 _ (Kd.reads_of_C HR0.out)))
          have HC155:=Aside0.mk hC8
          clear hA8 hC8 hi08 hsz8
          go_enter Try.func98,Try.ntmps98
          go_wp2
          go_loopg [8,24] k (fun kq v8 v24 w'=>∃ (x8_1:Int) (x24_1:Int),v8 = .int .u16 x8_1∧v24 = .int .i64 x24_1∧Aside0 (frame_take_uint8.l0 kq x8_1 sub1_ (sub1_.length:Int) x24_1=some (r1,r2))∧Aside0 (kq≤k)∧Drawn0 w w')
          case atStart=>exact ⟨(0),(0),(by first|rfl|(simp;done)|(simp [*];done)),(by first|rfl|(simp;done)|(simp [*];done)),H',⟨Nat.le_refl _⟩,by repeat (first|exact Drawn0.refl _|apply Drawn0.step)⟩
          case round =>
            clear H'
            try clear p2
            try clear c4
            try clear c4b0
            try clear c5
            try clear c5b0
            try clear c5b1
            try clear c6
            try clear c6b0
            try clear c6b1
            try clear p6
            try clear c7
            try clear c7b0
            try clear c7b1
            obtain ⟨x8_1,x24_1,rfl,rfl,HA,HK1,⟨m1,rfl⟩⟩:=hrel
            cases gk with
            | zero=>exact absurd HA.out (by simp [frame_take_uint8.l0])
            | succ k1 =>
              have H:=HA.out
              clear HA
              simp only [frame_take_uint8.l0] at H
              by_cases c9:x24_1<(sub1_.length:Int)
              · rw [if_pos c9] at H
                have c9b0:decide (x24_1<(sub1_.length:Int))=true:=decide_eq_true c9
                clear c9
                by_cases c10:0≤x24_1
                · rw [if_pos c10] at H
                  have c10b0:decide (0≤x24_1)=true:=decide_eq_true c10
                  clear c10
                  by_cases c11:x24_1<(sub1_.length:Int)
                  · rw [if_pos c11] at H
                    have c11b0:decide (x24_1<(sub1_.length:Int))=true:=decide_eq_true c11
                    clear c11
                    have H':=Aside0.mk H
                    clear H
                    have p156:0≤(x24_1:Int):=of_decide_eq_true (by first|(with_reducible assumption)|assumption)
                    have q156:x24_1<(sub1_.length:Int):=of_decide_eq_true (by first|(with_reducible assumption)|assumption)
                    obtain ⟨ad156,e156,hx156_0⟩:=Kd.at_int HR155.out x24_1 p156 q156
                    cases e156
                    replace p156:=eq_true p156
                    replace q156:=eq_true q156
                    go_wp2
                    go_roundg k1
                    case measure=>have:=HK1.out;omega
                    case rel=>exact ⟨(Go.bits .or .u16 (IntKind.u16.wrap (x8_1*256)) (IntKind.u16.wrap (rd sub1_ x24_1))),(wrap64 (x24_1+1)),(by first|rfl|(simp;done)|(simp [*];done)),(by first|rfl|(simp;done)|(simp [*];done)),H',⟨by have:=HK1.out;omega⟩,by repeat (first|exact Drawn0.refl _|apply Drawn0.step)⟩
                  · rw [if_neg c11] at H
                    exact absurd H (by simp)
                · rw [if_neg c10] at H
                  exact absurd H (by simp)
              · rw [if_neg c9] at H
                have c9b0:decide (x24_1<(sub1_.length:Int))=false:=decide_eq_false c9
                clear c9
                simp only [Option.some.injEq,Prod.mk.injEq] at H
                obtain ⟨rfl,rfl⟩:=H
                go_wp2
                go_ret2
                exact ⟨by first|rfl|(simp;done)|(simp [*];done),by repeat (first|exact Drawn0.refl _|apply Drawn0.step)⟩
        · rw [if_neg c7] at H
          exact absurd H (by simp)
      · rw [if_neg c6] at H
        exact absurd H (by simp)
    · rw [if_neg c5] at H
      exact absurd H (by simp)
def frame_take_uint16.l0:Nat→Int→List Int→Int→Int→Option (Int × Bool)
  | 0,_,_,_,_=>none
  | k+1,x8,x22,x23,x24=>if x24<x23 then (if 0≤x24 then (if x24<(x22.length:Int) then (frame_take_uint16.l0 k (Go.bits .or .u16 (IntKind.u16.wrap (x8*256)) (IntKind.u16.wrap (rd x22 x24))) x22 x23 (wrap64 (x24+1))) else (none)) else (none)) else (some (x8,true))
def frame_take_uint16.f (k:Nat) (l0:List Int) (a1:Int) (a2:Int):Option (Int × Bool):=if (wrap64 (a1+a2))>(l0.length:Int) then (some (0,false)) else (if 0≤a1 then (if a1≤(wrap64 (a1+a2)) then (if (wrap64 (a1+a2))≤(l0.length:Int) then (frame_take_uint16.l0 k 0 ((l0.take ((wrap64 (a1+a2)):Int).toNat).drop (a1:Int).toNat) (((l0.take ((wrap64 (a1+a2)):Int).toNat).drop (a1:Int).toNat).length:Int) 0) else (none)) else (none)) else (none))
set_option maxHeartbeats 8000000 in
set_option maxRecDepth 100000 in
theorem frame_take_uint16.calls (k:Nat) (A0:Option Addr) (c0:Nat) (l0:List Int) (a1:Int) (a2:Int) (r1:Int) (r2:Bool) (w:World) (hr0:Kd.C (Kd.int .u8) w A0 l0.length l0) (hc0:l0.length≤c0) (h:frame_take_uint16.f k l0 a1 a2=some (r1,r2)) :
    Calls Try.prog 99 #[.slice A0 l0.length c0,.int .i64 a1,.int .i64 a2] w fun e w'=>e = .returned (.tuple #[.int .u16 r1,.bool r2])∧Drawn0 w w':=by
  have HR0:=Aside0.mk hr0
  have HC0:=Aside0.mk hc0
  clear hr0 hc0
  have H:(if (wrap64 (a1+a2))>(l0.length:Int) then (some (0,false)) else (if 0≤a1 then (if a1≤(wrap64 (a1+a2)) then (if (wrap64 (a1+a2))≤(l0.length:Int) then (frame_take_uint16.l0 k 0 ((l0.take ((wrap64 (a1+a2)):Int).toNat).drop (a1:Int).toNat) (((l0.take ((wrap64 (a1+a2)):Int).toNat).drop (a1:Int).toNat).length:Int) 0) else (none)) else (none)) else (none)))=some (r1,r2):=h
  clear h
  by_cases c4:(wrap64 (a1+a2))>(l0.length:Int)
  · rw [if_pos c4] at H
    have c4b0:decide ((l0.length:Int)<(wrap64 (a1+a2)))=true:=decide_eq_true c4
    clear c4
    simp only [Option.some.injEq,Prod.mk.injEq] at H
    obtain ⟨rfl,rfl⟩:=H
    go_enter Try.func99,Try.ntmps99
    go_wp2
    go_ret2
    exact ⟨by first|rfl|(simp;done)|(simp [*];done),by repeat (first|exact Drawn0.refl _|apply Drawn0.step)⟩
  · rw [if_neg c4] at H
    have c4b0:decide ((l0.length:Int)<(wrap64 (a1+a2)))=false:=decide_eq_false c4
    clear c4
    by_cases c5:0≤a1
    · rw [if_pos c5] at H
      have c5b0:=eq_true c5
      have c5b1:decide (0≤a1)=true:=decide_eq_true c5
      clear c5
      by_cases c6:a1≤(wrap64 (a1+a2))
      · rw [if_pos c6] at H
        have c6b0:=eq_true c6
        have c6b1:decide (a1≤(wrap64 (a1+a2)))=true:=decide_eq_true c6
        by_cases c7:(wrap64 (a1+a2))≤(l0.length:Int)
        · rw [if_pos c7] at H
          have c7b0:=eq_true c7
          have c7b1:decide ((wrap64 (a1+a2))≤(l0.length:Int))=true:=decide_eq_true c7
          have H':=Aside0.mk H
          clear H
          obtain ⟨i08,hi08,_,hsz8,_⟩:=info_parts info5
          obtain ⟨A8,hcut8,hA8,hC8⟩:=print_mid_of (P:=Try.prog) (Value.int .u8) 0 25 5 .i64 .i64 Try.underlying25 hi08 hsz8 A0 c0 l0 a1 (wrap64 (a1+a2)) (of_decide_eq_true (by first|(with_reducible assumption)|assumption)) (by first|omega|exact of_decide_eq_true (by first|(with_reducible assumption)|assumption)) (of_decide_eq_true (by first|(with_reducible assumption)|assumption)) HC0.out
          obtain ⟨sub1_,hsub1_⟩:∃ s_,((l0.take ((wrap64 (a1+a2)):Int).toNat).drop (a1:Int).toNat)=s_:=⟨_,rfl⟩
          (try rw [hsub1_] at hcut8)
          (try rw [hsub1_] at hA8)
          (try rw [hsub1_] at hC8)
          (try (have H'':=H'.out;rw [hsub1_] at H'';clear H';have H':=Aside0.mk H'';clear H''))
          (try rw [hsub1_] at H)
          clear hsub1_
          have HR157:=Aside0.mk (Kd.C_of_reads (h1:=fun _=>rfl) (hA8 _ (Kd.reads_of_C HR0.out)))
          have HC157:=Aside0.mk hC8
          clear hA8 hC8 hi08 hsz8
          go_enter Try.func99,Try.ntmps99
          go_wp2
          go_loopg [8,24] k (fun kq v8 v24 w'=>∃ (x8_1:Int) (x24_1:Int),v8 = .int .u16 x8_1∧v24 = .int .i64 x24_1∧Aside0 (frame_take_uint16.l0 kq x8_1 sub1_ (sub1_.length:Int) x24_1=some (r1,r2))∧Aside0 (kq≤k)∧Drawn0 w w')
          case atStart=>exact ⟨(0),(0),(by first|rfl|(simp;done)|(simp [*];done)),(by first|rfl|(simp;done)|(simp [*];done)),H',⟨Nat.le_refl _⟩,by repeat (first|exact Drawn0.refl _|apply Drawn0.step)⟩
          case round =>
            clear H'
            try clear p2
            try clear c4
            try clear c4b0
            try clear c5
            try clear c5b0
            try clear c5b1
            try clear c6
            try clear c6b0
            try clear c6b1
            try clear p6
            try clear c7
            try clear c7b0
            try clear c7b1
            obtain ⟨x8_1,x24_1,rfl,rfl,HA,HK1,⟨m1,rfl⟩⟩:=hrel
            cases gk with
            | zero=>exact absurd HA.out (by simp [frame_take_uint16.l0])
            | succ k1 =>
              have H:=HA.out
              clear HA
              simp only [frame_take_uint16.l0] at H
              by_cases c9:x24_1<(sub1_.length:Int)
              · rw [if_pos c9] at H
                have c9b0:decide (x24_1<(sub1_.length:Int))=true:=decide_eq_true c9
                clear c9
                by_cases c10:0≤x24_1
                · rw [if_pos c10] at H
                  have c10b0:decide (0≤x24_1)=true:=decide_eq_true c10
                  clear c10
                  by_cases c11:x24_1<(sub1_.length:Int)
                  · rw [if_pos c11] at H
                    have c11b0:decide (x24_1<(sub1_.length:Int))=true:=decide_eq_true c11
                    clear c11
                    have H':=Aside0.mk H
                    clear H
                    have p158:0≤(x24_1:Int):=of_decide_eq_true (by first|(with_reducible assumption)|assumption)
                    have q158:x24_1<(sub1_.length:Int):=of_decide_eq_true (by first|(with_reducible assumption)|assumption)
                    obtain ⟨ad158,e158,hx158_0⟩:=Kd.at_int HR157.out x24_1 p158 q158
                    cases e158
                    replace p158:=eq_true p158
                    replace q158:=eq_true q158
                    go_wp2
                    go_roundg k1
                    case measure=>have:=HK1.out;omega
                    case rel=>exact ⟨(Go.bits .or .u16 (IntKind.u16.wrap (x8_1*256)) (IntKind.u16.wrap (rd sub1_ x24_1))),(wrap64 (x24_1+1)),(by first|rfl|(simp;done)|(simp [*];done)),(by first|rfl|(simp;done)|(simp [*];done)),H',⟨by have:=HK1.out;omega⟩,by repeat (first|exact Drawn0.refl _|apply Drawn0.step)⟩
                  · rw [if_neg c11] at H
                    exact absurd H (by simp)
                · rw [if_neg c10] at H
                  exact absurd H (by simp)
              · rw [if_neg c9] at H
                have c9b0:decide (x24_1<(sub1_.length:Int))=false:=decide_eq_false c9
                clear c9
                simp only [Option.some.injEq,Prod.mk.injEq] at H
                obtain ⟨rfl,rfl⟩:=H
                go_wp2
                go_ret2
                exact ⟨by first|rfl|(simp;done)|(simp [*];done),by repeat (first|exact Drawn0.refl _|apply Drawn0.step)⟩
        · rw [if_neg c7] at H
          exact absurd H (by simp)
      · rw [if_neg c6] at H
        exact absurd H (by simp)
    · rw [if_neg c5] at H
      exact absurd H (by simp)
end Go.Proofs.Ytaeabemipnbgbaa.QFr
end
section
namespace Go.Proofs.Ytaeabemipnbgbaa.QFr
open RowKit YtaeabemipnbgbaaW.PrintWords YtaeabemipnbgbaaW.PrintLast YtaeabemipnbgbaaW.PrintMore
attribute [local go_sem] max2_int min2_int max_two min_two max_three min_three max_four min_four   -- for this text's walks alone
set_option linter.unusedVariables false
set_option linter.unusedSimpArgs false
mutual
def frame_look.j0:Nat→List Int→Bool→Option (Int × Int × List Int × Int × Bool)
  | 0,_,_=>none
  | k+1,x0,x32=>if x32=true then (some (0,0,([]:List Int),0,false)) else ((frame_take_uint16.f k x0 1 2).bind fun bt163=>(if bt163.2=true then (frame_look.j1 k x0 bt163.1 (decide (bt163.1>256))) else (frame_look.j1 k x0 bt163.1 false)))
def frame_look.j1:Nat→List Int→Int→Bool→Option (Int × Int × List Int × Int × Bool)
  | 0,_,_,_=>none
  | k+1,x0,x7,x43=>if x43=true then (some (0,0,([]:List Int),0,false)) else ((frame_take_uint8.f k x0 4 1).bind fun bt165=>(if bt165.2=true then ((frame_kind.f (wrap64 (bt165.1))).bind fun t167=>(frame_look.j2 k x0 x7 bt165.1 bt165.2 (!t167))) else (frame_look.j2 k x0 x7 bt165.1 bt165.2 false)))
def frame_look.j2:Nat→List Int→Int→Int→Bool→Bool→Option (Int × Int × List Int × Int × Bool)
  | 0,_,_,_,_,_=>none
  | k+1,x0,x7,x8,x9,x56=>if x56=true then (some (0,0,([]:List Int),0,false)) else ((frame_take_uint16.f k x0 (wrap64 (5+(wrap64 (x7)))) 2).bind fun bt168=>(if x9=true then (frame_look.j3 k x0 x8 (wrap64 (5+(wrap64 (x7)))) bt168.1 (!bt168.2)) else (frame_look.j3 k x0 x8 (wrap64 (5+(wrap64 (x7)))) bt168.1 true)))
def frame_look.j3:Nat→List Int→Int→Int→Int→Bool→Option (Int × Int × List Int × Int × Bool)
  | 0,_,_,_,_,_=>none
  | k+1,x0,x8,x10,x11,x72=>if x72=true then (some (0,0,([]:List Int),0,true)) else (if 1≤x10 then (if x10≤(x0.length:Int) then ((crc_Sum.f ((x0.take (x10:Int).toNat).drop 1)).bind fun t171=>(if t171=x11 then (if 3<(x0.length:Int) then (if 5≤x10 then ((slices_Clone_byte_byte.f ((x0.take (x10:Int).toNat).drop 5)).bind fun t174=>(some (wrap64 (rd x0 3),wrap64 (x8),t174,wrap64 (x10+2),true))) else (none)) else (none)) else (some (0,0,([]:List Int),0,false)))) else (none)) else (none))
end
def frame_look.f (k:Nat) (l0:List Int):Option (Int × Int × List Int × Int × Bool):=if (l0.length:Int)=0 then (some (0,0,([]:List Int),0,true)) else ((frame_take_uint8.f k l0 1 1).bind fun bt160=>(if 0<(l0.length:Int) then (if (rd l0 0)=126 then (if bt160.2=true then (frame_look.j0 k l0 (decide (bt160.1>1))) else (frame_look.j0 k l0 false)) else (frame_look.j0 k l0 true)) else (none)))
def frame_look.T18:Bool × List (List Nat × List Nat):=(true,[([],[]),([0],[0]),([1],[1]),([2],[2]),([],[]),([4],[4]),([],[]),([],[]),([6,7],[6,7]),([8],[8]),([3,5,9],[3,5,9]),([],[]),([11],[11]),([10,9,0,1,2,3,4,5,6,7,8,9,10],[10]),([12,13,0,1,2,3,4,5,6,7,8,9,10,11,12,13],[12]),([14,0,1,2,3,4,5,6,7,8,9,10,11,12,13,14],[])])
def frame_look.B18:List Nat:=[0,1,3,7,0,16,0,0,192,448,1023,0,2048,2047,16383,32767]
theorem frame_look.tab18:rtab .any (opsOf Try.f83 18)=frame_look.T18:=by kernel_rfl
theorem frame_look.bits18:waitsOk frame_look.T18.2 frame_look.B18=true:=by kernel_rfl
set_option maxHeartbeats 8000000 in
set_option maxRecDepth 100000 in
theorem frame_look.calls (k : Nat) (A0 : Option Addr) (c0 : Nat) (l0 : List Int) (r1 : Int) (r2 : Int) (r3 : List Int) (r4 : Int) (r5 : Bool) (w : World) (hr0 : Kd.C (Kd.int .u8) w A0 l0.length l0) (hc0 : l0.length ≤ c0) (h : frame_look.f k l0 = some (r1, r2, r3, r4, r5)) :
    Calls Try.prog 83 #[.slice A0 l0.length c0] w fun e w'=>∃ v2_:Value,e = .returned (.tuple #[.agg #[.int .i64 r1,.int .i64 r2,v2_],.int .i64 r4,.bool r5])∧Kd.R (Kd.int .u8) 5 w' w.heap.size (fun _=>True) v2_ r3∧Below w.heap.size w w':=by
  have hu54:=Try.underlying54
  have HR0:=Aside0.mk hr0
  have HC0:=Aside0.mk hc0
  clear hr0 hc0
  have HB:=Aside0.mk (Below.refl w.heap.size w)
  have H:(if (l0.length:Int)=0 then (some (0,0,([]:List Int),0,true)) else ((frame_take_uint8.f k l0 1 1).bind fun bt160=>(if 0<(l0.length:Int) then (if (rd l0 0)=126 then (if bt160.2=true then (frame_look.j0 k l0 (decide (bt160.1>1))) else (frame_look.j0 k l0 false)) else (frame_look.j0 k l0 true)) else (none))))=some (r1,r2,r3,r4,r5):=h
  clear h
  by_cases c2:(l0.length:Int)=0
  · rw [if_pos c2] at H
    have c2b0:((l0.length:Int) == 0)=true:=beq_iff_eq.mpr c2
    have c2b1:((l0.length:Int) != 0)=false:=bne_eq_false_iff_eq.mpr c2
    clear c2
    simp only [Option.some.injEq,Prod.mk.injEq] at H
    obtain ⟨rfl,rfl,rfl,rfl,rfl⟩:=H
    go_enter Try.func83,Try.ntmps83
    go_wp2_with (first|((with_reducible refine gate_dst (N:=2) rfl ?_);refine box_event ?hg (N:=2) ?hd (cs:=#[.int .i64 0,.int .i64 0,.slice none 0 0]) (t:=54) ?hr ?_;(case hd=>rfl);(case hg=>rfl);(case hr=>first|(go_simp;done)|(go_simp;rfl));intro gb159 hg w3 hbox hb;have n0_:=Aside0.mk (below_step (by repeat (first|(with_reducible first|exact HB.out|apply below_alloc|apply pw_below_drewN|apply below_drew1)|exact HB.out)) hb);have n1_:=Aside0.mk (hbox);have n2_:=Aside0.mk ((by rw [hg];exact (below_size (by repeat (first|(with_reducible first|exact HB.out|apply below_alloc|apply pw_below_drewN|apply below_drew1)|exact HB.out))):w.heap.size≤gb159));have n3_:=Aside0.mk ((by rw [hg];exact (below_size (by repeat (first|(with_reducible first|exact HB.out|apply below_alloc|apply pw_below_drewN|apply below_drew1)|exact HB.out))):w.heap.size≤gb159));clear HB;have HB:=n0_;have BK159:=n1_;have GW159:=n2_;have GE159:=n3_;clear n0_ n1_ n2_ n3_;clear hb hbox hg;have hcz4_0:w3.cell? ⟨gb159,0,none⟩=some (.int .i64 0):=(blk_cell BK159.out 0).trans rfl;have hcz4_1:w3.cell? ⟨gb159,1,none⟩=some (.int .i64 0):=(blk_cell BK159.out 1).trans rfl;have hcz4_2:w3.cell? ⟨gb159,2,none⟩=some (.slice none 0 0):=(blk_cell BK159.out 2).trans rfl;have hfz4_0:=blk_frozen BK159.out 0;have hfz4_1:=blk_frozen BK159.out 1;have hfz4_2:=blk_frozen BK159.out 2))
    refine bodyPost_ret (results_ctt rfl _ _ gb159 54 #[.int .i64 0,.int .i64 0,.slice none 0 0] (0,0) _ rfl (by (with_reducible repeat (first|refine blk_drewN ?_ _|refine blk_drew ?_|refine blk_alloc ?_ _));refine blk_put (cs:=#[.int .i64 0,.int .i64 0,.slice none 0 0]) ?_ 2 _ rfl;(with_reducible repeat (first|refine blk_drewN ?_ _|refine blk_drew ?_|refine blk_alloc ?_ _));refine blk_put (cs:=#[.int .i64 0,.int .i64 0,.slice none 0 0]) ?_ 1 _ rfl;(with_reducible repeat (first|refine blk_drewN ?_ _|refine blk_drew ?_|refine blk_alloc ?_ _));refine blk_put (cs:=#[.int .i64 0,.int .i64 0,.slice none 0 0]) ?_ 0 _ rfl;(with_reducible repeat (first|refine blk_drewN ?_ _|refine blk_drew ?_|refine blk_alloc ?_ _));exact BK159.out) Try.underlying54 rfl (by kernel_rfl)) rfl ?_
    exact ⟨_,by first|rfl|(simp [errW_none,errW_some]<;>rfl)|(simp [*,errW_none,errW_some]<;>rfl),by first|exact Kd.R_nil _ _ _ _ _|exact Kd.N_nil _ _ _ _ _|exact Kd.V_nil _ _ _ _ _|exact Kd.Q_nil _ _ _ _ _|exact Kd.S_nil _ _ _ _ _,by repeat (first|(with_reducible first|exact HB.out|apply below_alloc|apply pw_below_drewN|apply below_drew1|refine below_set ?_ GE159.out)|exact HB.out)⟩
  · rw [if_neg c2] at H
    have c2b0:((l0.length:Int) == 0)=false:=beq_eq_false_iff_ne.mpr c2
    have c2b1:((l0.length:Int) != 0)=true:=bne_iff_ne.mpr c2
    have c2b2:¬ (l0=[]):=fun h_=>c2 (by rw [h_];rfl)
    replace H:=Option.bind_eq_some_iff.mp H
    obtain ⟨⟨t160,t161⟩,A50,H⟩:=H
    replace H:(if 0<(l0.length:Int) then (if (rd l0 0)=126 then (if t161=true then (frame_look.j0 k l0 (decide (t160>1))) else (frame_look.j0 k l0 false)) else (frame_look.j0 k l0 true)) else (none))=some (r1,r2,r3,r4,r5):=H
    have A5:=Aside0.mk A50
    clear A50
    have HC6:=Aside0.mk H
    clear H
    go_enter Try.func83,Try.ntmps83
    go_upto_region 4 with (first|((with_reducible refine gate_dst (N:=2) rfl ?_);refine box_event ?hg (N:=2) ?hd (cs:=#[.int .i64 0,.int .i64 0,.slice none 0 0]) (t:=54) ?hr ?_;(case hd=>rfl);(case hg=>rfl);(case hr=>first|(go_simp;done)|(go_simp;rfl));intro gb159 hg w7 hbox hb;have n0_:=Aside0.mk (below_step (by repeat (first|(with_reducible first|exact HB.out|apply below_alloc|apply pw_below_drewN|apply below_drew1)|exact HB.out)) hb);have n1_:=Aside0.mk (hbox);have n2_:=Aside0.mk ((by rw [hg];exact (below_size (by repeat (first|(with_reducible first|exact HB.out|apply below_alloc|apply pw_below_drewN|apply below_drew1)|exact HB.out))):w.heap.size≤gb159));have n3_:=Aside0.mk ((by rw [hg];exact (below_size (by repeat (first|(with_reducible first|exact HB.out|apply below_alloc|apply pw_below_drewN|apply below_drew1)|exact HB.out))):w.heap.size≤gb159));clear HB;have HB:=n0_;have BK159:=n1_;have GW159:=n2_;have GE159:=n3_;clear n0_ n1_ n2_ n3_;clear hb hbox hg)|((with_reducible refine gate_callee (f:=98) rfl ?_);refine goesL_ (some 19) rfl rfl Try.func98 (by kernel_rfl) rfl #[.slice A0 l0.length c0,.int .i64 1,.int .i64 1] rfl (by (try simp only [List.map_toArray,List.map_cons,List.map_nil]);first|done|rfl|(simp only [List.length_drop,List.length_take];rfl)) ?_;(with_reducible refine (frame_take_uint8.calls k _ _ l0 1 1 t160 t161 _ ?side1 ?side2 A5.out).mono ?_);(case side1=>repeat (first|exact (Kd.C_below HR0.out HB.out)|(with_reducible refine Kd.C_alloc ?_ _)|(with_reducible refine Kd.C_drewN ?_ _)|(with_reducible refine Kd.C_drew ?_)));(case side2=>exact HC0.out);rintro e w' ⟨rfl,⟨nd,rfl⟩⟩;refine ⟨_,rfl,?_⟩))
    (try simp only [Act.put,List.setIfInBounds_toArray,List.set_cons_zero,List.set_cons_succ])
    go_cut [32] (fun v32 wc=>∃ (kq:Nat) (x32_5:Bool),v32 = .bool x32_5∧Aside0 (frame_look.j0 kq l0 x32_5=some (r1,r2,r3,r4,r5))∧Aside0 (kq≤k)∧Aside0 (wc.heap[gb159]?=some (.cells #[.int .i64 0,.int .i64 0,(.slice none 0 0)] 54 (0,0)))∧Aside0 (Below w.heap.size w wc))
    case first =>
      have H:=HC6.out
      clear HC6
      by_cases c8:0<(l0.length:Int)
      · rw [if_pos c8] at H
        have c8b0:decide (0<(l0.length:Int))=true:=decide_eq_true c8
        have c8b1:decide (0<l0.length)=true:=decide_eq_true (by omega)
        clear c8
        (first|rw [c8b0]|(simp only [i64_w,i32_w];rw [c8b0])|skip)
        by_cases c9:(rd l0 0)=126
        · rw [if_pos c9] at H
          have c9b0:((rd l0 0) == 126)=true:=beq_iff_eq.mpr c9
          have c9b1:((rd l0 0) != 126)=false:=bne_eq_false_iff_eq.mpr c9
          clear c9
          by_cases c10:t161=true
          · subst c10
            have H1:(frame_look.j0 k l0 (decide (t160>1)))=some (r1,r2,r3,r4,r5):=by rw [if_pos rfl] at H;exact H
            clear H
            have H:=H1
            clear H1
            have H':=Aside0.mk H
            clear H
            have p162:0≤(0:Int):=(by omega)
            have q162:0<(l0.length:Int):=of_decide_eq_true (by first|(with_reducible assumption)|assumption)
            obtain ⟨ad162,e162,hx162_0⟩:=Kd.at_int HR0.out 0 p162 q162
            cases e162
            have qi162:(0<l0.length)=True:=eq_true (by omega)
            (try rw [show ((0:Int)).toNat=0 from rfl] at hx162_0)
            (try rw [Addr.add_zero'] at hx162_0)
            replace hx162_0:=(HB.out.cell (World.block_lt_of_cell? w _ hx162_0)).trans hx162_0
            replace p162:=eq_true p162
            replace q162:=eq_true q162
            go_wp2
            go_meet
            case rel=>exact ⟨_,(decide (t160>1)),(by first|rfl|(simp;done)|(simp [*];done)),H',⟨by first|omega|exact Nat.le_refl _⟩,⟨by (with_reducible repeat (first|refine blk_drewN ?_ _|refine blk_drew ?_|refine blk_alloc ?_ _));exact BK159.out⟩,⟨by repeat (first|(with_reducible first|exact HB.out|apply below_alloc|apply pw_below_drewN|apply below_drew1|refine below_set ?_ GE159.out)|exact HB.out)⟩⟩
          · replace c10:=Bool.eq_false_iff.mpr c10
            subst c10
            have H1:(frame_look.j0 k l0 false)=some (r1,r2,r3,r4,r5):=by rw [if_neg (show ¬ (false=true) by decide)] at H;exact H
            clear H
            have H:=H1
            clear H1
            have H':=Aside0.mk H
            clear H
            have p162:0≤(0:Int):=(by omega)
            have q162:0<(l0.length:Int):=of_decide_eq_true (by first|(with_reducible assumption)|assumption)
            obtain ⟨ad162,e162,hx162_0⟩:=Kd.at_int HR0.out 0 p162 q162
            cases e162
            have qi162:(0<l0.length)=True:=eq_true (by omega)
            (try rw [show ((0:Int)).toNat=0 from rfl] at hx162_0)
            (try rw [Addr.add_zero'] at hx162_0)
            replace hx162_0:=(HB.out.cell (World.block_lt_of_cell? w _ hx162_0)).trans hx162_0
            replace p162:=eq_true p162
            replace q162:=eq_true q162
            go_wp2
            go_meet
            case rel=>exact ⟨_,(false),(by first|rfl|(simp;done)|(simp [*];done)),H',⟨by first|omega|exact Nat.le_refl _⟩,⟨by (with_reducible repeat (first|refine blk_drewN ?_ _|refine blk_drew ?_|refine blk_alloc ?_ _));exact BK159.out⟩,⟨by repeat (first|(with_reducible first|exact HB.out|apply below_alloc|apply pw_below_drewN|apply below_drew1|refine below_set ?_ GE159.out)|exact HB.out)⟩⟩
        · rw [if_neg c9] at H
          have c9b0:((rd l0 0) == 126)=false:=beq_eq_false_iff_ne.mpr c9
          have c9b1:((rd l0 0) != 126)=true:=bne_iff_ne.mpr c9
          have H':=Aside0.mk H
          clear H
          have p162:0≤(0:Int):=(by omega)
          have q162:0<(l0.length:Int):=of_decide_eq_true (by first|(with_reducible assumption)|assumption)
          obtain ⟨ad162,e162,hx162_0⟩:=Kd.at_int HR0.out 0 p162 q162
          cases e162
          have qi162:(0<l0.length)=True:=eq_true (by omega)
          (try rw [show ((0:Int)).toNat=0 from rfl] at hx162_0)
          (try rw [Addr.add_zero'] at hx162_0)
          replace hx162_0:=(HB.out.cell (World.block_lt_of_cell? w _ hx162_0)).trans hx162_0
          replace p162:=eq_true p162
          replace q162:=eq_true q162
          go_wp2
          go_meet
          case rel=>exact ⟨_,(true),(by first|rfl|(simp;done)|(simp [*];done)),H',⟨by first|omega|exact Nat.le_refl _⟩,⟨by (with_reducible repeat (first|refine blk_drewN ?_ _|refine blk_drew ?_|refine blk_alloc ?_ _));exact BK159.out⟩,⟨by repeat (first|(with_reducible first|exact HB.out|apply below_alloc|apply pw_below_drewN|apply below_drew1|refine below_set ?_ GE159.out)|exact HB.out)⟩⟩
      · rw [if_neg c8] at H
        exact absurd H (by simp)
    case rest =>
      clear HC6
      try clear c1
      try clear p1
      try clear q1
      try clear hx1
      try clear qi1
      try clear c2
      try clear c2b0
      try clear c2b1
      try clear c2b2
      try clear p2
      try clear c8
      try clear c8b0
      try clear c8b1
      try clear c9
      try clear c9b0
      try clear c9b1
      try clear c10
      try clear hcz4_0
      try clear hcz4_1
      try clear hcz4_2
      try clear hfz4_0
      try clear hfz4_1
      try clear hfz4_2
      try clear hx162_0
      try clear p162
      try clear q162
      obtain ⟨kq,x32_5,rfl,HA,HJ5,BK159,HB⟩:=hcut
      cases kq with
      | zero=>exact absurd HA.out (by simp [frame_look.j0])
      | succ kj5 =>
        have H:=HA.out
        clear HA
        simp only [frame_look.j0] at H
        by_cases c11:x32_5=true
        · subst c11
          have H1:(some (0,0,([]:List Int),0,false))=some (r1,r2,r3,r4,r5):=by rw [if_pos rfl] at H;exact H
          clear H
          have H:=H1
          clear H1
          simp only [Option.some.injEq,Prod.mk.injEq] at H
          obtain ⟨rfl,rfl,rfl,rfl,rfl⟩:=H
          have hcz12_0:wc.cell? ⟨gb159,0,none⟩=some (.int .i64 0):=(blk_cell BK159.out 0).trans rfl
          have hcz12_1:wc.cell? ⟨gb159,1,none⟩=some (.int .i64 0):=(blk_cell BK159.out 1).trans rfl
          have hcz12_2:wc.cell? ⟨gb159,2,none⟩=some (.slice none 0 0):=(blk_cell BK159.out 2).trans rfl
          have hfz12_0:=blk_frozen BK159.out 0
          have hfz12_1:=blk_frozen BK159.out 1
          have hfz12_2:=blk_frozen BK159.out 2
          go_wp2
          refine bodyPost_ret (results_ctt rfl _ _ gb159 54 #[.int .i64 0,.int .i64 0,.slice none 0 0] (0,0) _ rfl (by (with_reducible repeat (first|refine blk_drewN ?_ _|refine blk_drew ?_|refine blk_alloc ?_ _));refine blk_put (cs:=#[.int .i64 0,.int .i64 0,.slice none 0 0]) ?_ 2 _ rfl;(with_reducible repeat (first|refine blk_drewN ?_ _|refine blk_drew ?_|refine blk_alloc ?_ _));refine blk_put (cs:=#[.int .i64 0,.int .i64 0,.slice none 0 0]) ?_ 1 _ rfl;(with_reducible repeat (first|refine blk_drewN ?_ _|refine blk_drew ?_|refine blk_alloc ?_ _));refine blk_put (cs:=#[.int .i64 0,.int .i64 0,.slice none 0 0]) ?_ 0 _ rfl;(with_reducible repeat (first|refine blk_drewN ?_ _|refine blk_drew ?_|refine blk_alloc ?_ _));exact BK159.out) Try.underlying54 rfl (by kernel_rfl)) rfl ?_
          exact ⟨_,by first|rfl|(simp [errW_none,errW_some]<;>rfl)|(simp [*,errW_none,errW_some]<;>rfl),by first|exact Kd.R_nil _ _ _ _ _|exact Kd.N_nil _ _ _ _ _|exact Kd.V_nil _ _ _ _ _|exact Kd.Q_nil _ _ _ _ _|exact Kd.S_nil _ _ _ _ _,by repeat (first|(with_reducible first|exact HB.out|apply below_alloc|apply pw_below_drewN|apply below_drew1|refine below_set ?_ GE159.out)|exact HB.out)⟩
        · replace c11 := Bool.eq_false_iff.mpr c11
          subst c11
          have H1:((frame_take_uint16.f kj5 l0 1 2).bind fun bt163=>(if bt163.2=true then (frame_look.j1 kj5 l0 bt163.1 (decide (bt163.1>256))) else (frame_look.j1 kj5 l0 bt163.1 false)))=some (r1,r2,r3,r4,r5):=by rw [if_neg (show ¬ (false=true) by decide)] at H;exact H
          clear H
          have H:=H1
          clear H1
          replace H:=Option.bind_eq_some_iff.mp H
          obtain ⟨⟨t163,t164⟩,A130,H⟩:=H
          replace H:(if t164=true then (frame_look.j1 kj5 l0 t163 (decide (t163>256))) else (frame_look.j1 kj5 l0 t163 false))=some (r1,r2,r3,r4,r5):=H
          have A13:=Aside0.mk A130
          clear A130
          have HC14:=Aside0.mk H
          clear H
          go_upto_region 7 with (first|((with_reducible refine gate_callee (f:=99) rfl ?_);refine goesL_ (some 36) rfl rfl Try.func99 (by kernel_rfl) rfl #[.slice A0 l0.length c0,.int .i64 1,.int .i64 2] rfl (by (try simp only [List.map_toArray,List.map_cons,List.map_nil]);first|done|rfl|(simp only [List.length_drop,List.length_take];rfl)) ?_;(with_reducible refine (frame_take_uint16.calls kj5 _ _ l0 1 2 t163 t164 _ ?side1 ?side2 A13.out).mono ?_);(case side1=>repeat (first|exact (Kd.C_below HR0.out HB.out)|(with_reducible refine Kd.C_alloc ?_ _)|(with_reducible refine Kd.C_drewN ?_ _)|(with_reducible refine Kd.C_drew ?_)));(case side2=>exact HC0.out);rintro e w' ⟨rfl,⟨nd,rfl⟩⟩;refine ⟨_,rfl,?_⟩))
          (try simp only [Act.put,List.setIfInBounds_toArray,List.set_cons_zero,List.set_cons_succ])
          go_cut [43] (fun v43 wc=>∃ (kq:Nat) (x43_13:Bool),v43 = .bool x43_13∧Aside0 (frame_look.j1 kq l0 t163 x43_13=some (r1,r2,r3,r4,r5))∧Aside0 (kq≤kj5)∧Aside0 (wc.heap[gb159]?=some (.cells #[.int .i64 0,.int .i64 0,(.slice none 0 0)] 54 (0,0)))∧Aside0 (Below w.heap.size w wc))
          case first =>
            have H:=HC14.out
            clear HC14
            by_cases c15:t164=true
            · subst c15
              have H1:(frame_look.j1 kj5 l0 t163 (decide (t163>256)))=some (r1,r2,r3,r4,r5):=by rw [if_pos rfl] at H;exact H
              clear H
              have H:=H1
              clear H1
              have H':=Aside0.mk H
              clear H
              go_wp2
              go_meet
              case rel=>exact ⟨_,(decide (t163>256)),(by first|rfl|(simp;done)|(simp [*];done)),H',⟨by have:=HJ5.out;first|omega|exact Nat.le_refl _⟩,⟨by (with_reducible repeat (first|refine blk_drewN ?_ _|refine blk_drew ?_|refine blk_alloc ?_ _));exact BK159.out⟩,⟨by repeat (first|(with_reducible first|exact HB.out|apply below_alloc|apply pw_below_drewN|apply below_drew1|refine below_set ?_ GE159.out)|exact HB.out)⟩⟩
            · replace c15:=Bool.eq_false_iff.mpr c15
              subst c15
              have H1:(frame_look.j1 kj5 l0 t163 false)=some (r1,r2,r3,r4,r5):=by rw [if_neg (show ¬ (false=true) by decide)] at H;exact H
              clear H
              have H:=H1
              clear H1
              have H':=Aside0.mk H
              clear H
              go_wp2
              go_meet
              case rel=>exact ⟨_,(false),(by first|rfl|(simp;done)|(simp [*];done)),H',⟨by have:=HJ5.out;first|omega|exact Nat.le_refl _⟩,⟨by (with_reducible repeat (first|refine blk_drewN ?_ _|refine blk_drew ?_|refine blk_alloc ?_ _));exact BK159.out⟩,⟨by repeat (first|(with_reducible first|exact HB.out|apply below_alloc|apply pw_below_drewN|apply below_drew1|refine below_set ?_ GE159.out)|exact HB.out)⟩⟩
          case rest =>
            clear HC14
            try clear c1
            try clear p1
            try clear q1
            try clear hx1
            try clear qi1
            try clear c2
            try clear c2b0
            try clear c2b1
            try clear c2b2
            try clear p2
            try clear c8
            try clear c8b0
            try clear c8b1
            try clear c9
            try clear c9b0
            try clear c9b1
            try clear c10
            try clear c11
            try clear c15
            try clear hcz12_0
            try clear hcz12_1
            try clear hcz12_2
            try clear hcz4_0
            try clear hcz4_1
            try clear hcz4_2
            try clear hfz12_0
            try clear hfz12_1
            try clear hfz12_2
            try clear hfz4_0
            try clear hfz4_1
            try clear hfz4_2
            try clear hx162_0
            try clear p1
            try clear p162
            try clear p2
            try clear q1
            try clear q162
            obtain ⟨kq,x43_13,rfl,HA,HJ13,BK159,HB⟩:=hcut
            cases kq with
            | zero=>exact absurd HA.out (by simp [frame_look.j1])
            | succ kj13 =>
              have H:=HA.out
              clear HA
              simp only [frame_look.j1] at H
              by_cases c16:x43_13=true
              · subst c16
                have H1:(some (0,0,([]:List Int),0,false))=some (r1,r2,r3,r4,r5):=by rw [if_pos rfl] at H;exact H
                clear H
                have H:=H1
                clear H1
                simp only [Option.some.injEq,Prod.mk.injEq] at H
                obtain ⟨rfl,rfl,rfl,rfl,rfl⟩:=H
                have hcz17_0:wc.cell? ⟨gb159,0,none⟩=some (.int .i64 0):=(blk_cell BK159.out 0).trans rfl
                have hcz17_1:wc.cell? ⟨gb159,1,none⟩=some (.int .i64 0):=(blk_cell BK159.out 1).trans rfl
                have hcz17_2:wc.cell? ⟨gb159,2,none⟩=some (.slice none 0 0):=(blk_cell BK159.out 2).trans rfl
                have hfz17_0:=blk_frozen BK159.out 0
                have hfz17_1:=blk_frozen BK159.out 1
                have hfz17_2:=blk_frozen BK159.out 2
                go_wp2
                refine bodyPost_ret (results_ctt rfl _ _ gb159 54 #[.int .i64 0,.int .i64 0,.slice none 0 0] (0,0) _ rfl (by (with_reducible repeat (first|refine blk_drewN ?_ _|refine blk_drew ?_|refine blk_alloc ?_ _));refine blk_put (cs:=#[.int .i64 0,.int .i64 0,.slice none 0 0]) ?_ 2 _ rfl;(with_reducible repeat (first|refine blk_drewN ?_ _|refine blk_drew ?_|refine blk_alloc ?_ _));refine blk_put (cs:=#[.int .i64 0,.int .i64 0,.slice none 0 0]) ?_ 1 _ rfl;(with_reducible repeat (first|refine blk_drewN ?_ _|refine blk_drew ?_|refine blk_alloc ?_ _));refine blk_put (cs:=#[.int .i64 0,.int .i64 0,.slice none 0 0]) ?_ 0 _ rfl;(with_reducible repeat (first|refine blk_drewN ?_ _|refine blk_drew ?_|refine blk_alloc ?_ _));exact BK159.out) Try.underlying54 rfl (by kernel_rfl)) rfl ?_
                exact ⟨_,by first|rfl|(simp [errW_none,errW_some]<;>rfl)|(simp [*,errW_none,errW_some]<;>rfl),by first|exact Kd.R_nil _ _ _ _ _|exact Kd.N_nil _ _ _ _ _|exact Kd.V_nil _ _ _ _ _|exact Kd.Q_nil _ _ _ _ _|exact Kd.S_nil _ _ _ _ _,by repeat (first|(with_reducible first|exact HB.out|apply below_alloc|apply pw_below_drewN|apply below_drew1|refine below_set ?_ GE159.out)|exact HB.out)⟩
              · replace c16 := Bool.eq_false_iff.mpr c16
                subst c16
                have H1:((frame_take_uint8.f kj13 l0 4 1).bind fun bt165=>(if bt165.2=true then ((frame_kind.f (wrap64 (bt165.1))).bind fun t167=>(frame_look.j2 kj13 l0 t163 bt165.1 bt165.2 (!t167))) else (frame_look.j2 kj13 l0 t163 bt165.1 bt165.2 false)))=some (r1,r2,r3,r4,r5):=by rw [if_neg (show ¬ (false=true) by decide)] at H;exact H
                clear H
                have H:=H1
                clear H1
                replace H:=Option.bind_eq_some_iff.mp H
                obtain ⟨⟨t165,t166⟩,A180,H⟩:=H
                replace H:(if t166=true then ((frame_kind.f (wrap64 (t165))).bind fun t167=>(frame_look.j2 kj13 l0 t163 t165 t166 (!t167))) else (frame_look.j2 kj13 l0 t163 t165 t166 false))=some (r1,r2,r3,r4,r5):=H
                have A18:=Aside0.mk A180
                clear A180
                have HC19:=Aside0.mk H
                clear H
                go_upto_region 10 with (first|((with_reducible refine gate_callee (f:=98) rfl ?_);refine goesL_ (some 47) rfl rfl Try.func98 (by kernel_rfl) rfl #[.slice A0 l0.length c0,.int .i64 4,.int .i64 1] rfl (by (try simp only [List.map_toArray,List.map_cons,List.map_nil]);first|done|rfl|(simp only [List.length_drop,List.length_take];rfl)) ?_;(with_reducible refine (frame_take_uint8.calls kj13 _ _ l0 4 1 t165 t166 _ ?side1 ?side2 A18.out).mono ?_);(case side1=>repeat (first|exact (Kd.C_below HR0.out HB.out)|(with_reducible refine Kd.C_alloc ?_ _)|(with_reducible refine Kd.C_drewN ?_ _)|(with_reducible refine Kd.C_drew ?_)));(case side2=>exact HC0.out);rintro e w' ⟨rfl,⟨nd,rfl⟩⟩;refine ⟨_,rfl,?_⟩))
                (try simp only [Act.put,List.setIfInBounds_toArray,List.set_cons_zero,List.set_cons_succ])
                go_cut [56] (fun v56 wc=>∃ (kq:Nat) (x56_18:Bool),v56 = .bool x56_18∧Aside0 (frame_look.j2 kq l0 t163 t165 t166 x56_18=some (r1,r2,r3,r4,r5))∧Aside0 (kq≤kj13)∧Aside0 (wc.heap[gb159]?=some (.cells #[.int .i64 0,.int .i64 0,(.slice none 0 0)] 54 (0,0)))∧Aside0 (Below w.heap.size w wc))
                case first =>
                  have H:=HC19.out
                  clear HC19
                  by_cases c20:t166=true
                  · subst c20
                    have H1:((frame_kind.f (wrap64 (t165))).bind fun t167=>(frame_look.j2 kj13 l0 t163 t165 true (!t167)))=some (r1,r2,r3,r4,r5):=by rw [if_pos rfl] at H;exact H
                    clear H
                    have H:=H1
                    clear H1
                    replace H:=Option.bind_eq_some_iff.mp H
                    obtain ⟨t167,A210,H⟩:=H
                    replace H:(frame_look.j2 kj13 l0 t163 t165 true (!t167))=some (r1,r2,r3,r4,r5):=H
                    have A21:=Aside0.mk A210
                    clear A210
                    have H':=Aside0.mk H
                    clear H
                    go_wp2_with (first|(go_at_call 96;(with_reducible refine (frame_kind.calls (wrap64 (t165)) t167 _ A21.out).mono ?_);rintro e w' ⟨rfl,⟨nd,rfl⟩⟩))
                    go_meet
                    case rel=>exact ⟨_,(!t167),(by first|rfl|(simp;done)|(simp [*];done)),H',⟨by have:=HJ5.out;have:=HJ13.out;first|omega|exact Nat.le_refl _⟩,⟨by (with_reducible repeat (first|refine blk_drewN ?_ _|refine blk_drew ?_|refine blk_alloc ?_ _));exact BK159.out⟩,⟨by repeat (first|(with_reducible first|exact HB.out|apply below_alloc|apply pw_below_drewN|apply below_drew1|refine below_set ?_ GE159.out)|exact HB.out)⟩⟩
                  · replace c20:=Bool.eq_false_iff.mpr c20
                    subst c20
                    have H1:(frame_look.j2 kj13 l0 t163 t165 false false)=some (r1,r2,r3,r4,r5):=by rw [if_neg (show ¬ (false=true) by decide)] at H;exact H
                    clear H
                    have H:=H1
                    clear H1
                    have H':=Aside0.mk H
                    clear H
                    go_wp2
                    go_meet
                    case rel=>exact ⟨_,(false),(by first|rfl|(simp;done)|(simp [*];done)),H',⟨by have:=HJ5.out;have:=HJ13.out;first|omega|exact Nat.le_refl _⟩,⟨by (with_reducible repeat (first|refine blk_drewN ?_ _|refine blk_drew ?_|refine blk_alloc ?_ _));exact BK159.out⟩,⟨by repeat (first|(with_reducible first|exact HB.out|apply below_alloc|apply pw_below_drewN|apply below_drew1|refine below_set ?_ GE159.out)|exact HB.out)⟩⟩
                case rest =>
                  clear HC19
                  try clear c1
                  try clear p1
                  try clear q1
                  try clear hx1
                  try clear qi1
                  try clear c2
                  try clear c2b0
                  try clear c2b1
                  try clear c2b2
                  try clear p2
                  try clear p6
                  try clear c8
                  try clear c8b0
                  try clear c8b1
                  try clear c9
                  try clear c9b0
                  try clear c9b1
                  try clear c10
                  try clear c11
                  try clear c15
                  try clear c16
                  try clear p16
                  try clear q16
                  try clear hx16
                  try clear qi16
                  try clear c20
                  try clear hcz12_0
                  try clear hcz12_1
                  try clear hcz12_2
                  try clear hcz17_0
                  try clear hcz17_1
                  try clear hcz17_2
                  try clear hcz4_0
                  try clear hcz4_1
                  try clear hcz4_2
                  try clear hfz12_0
                  try clear hfz12_1
                  try clear hfz12_2
                  try clear hfz17_0
                  try clear hfz17_1
                  try clear hfz17_2
                  try clear hfz4_0
                  try clear hfz4_1
                  try clear hfz4_2
                  try clear hx162_0
                  try clear p1
                  try clear p162
                  try clear p2
                  try clear q1
                  try clear q162
                  obtain ⟨kq,x56_18,rfl,HA,HJ18,BK159,HB⟩:=hcut
                  cases kq with
                  | zero=>exact absurd HA.out (by simp [frame_look.j2])
                  | succ kj18 =>
                    have H:=HA.out
                    clear HA
                    simp only [frame_look.j2] at H
                    by_cases c22:x56_18=true
                    · subst c22
                      have H1:(some (0,0,([]:List Int),0,false))=some (r1,r2,r3,r4,r5):=by rw [if_pos rfl] at H;exact H
                      clear H
                      have H:=H1
                      clear H1
                      simp only [Option.some.injEq,Prod.mk.injEq] at H
                      obtain ⟨rfl,rfl,rfl,rfl,rfl⟩:=H
                      have hcz23_0:wc.cell? ⟨gb159,0,none⟩=some (.int .i64 0):=(blk_cell BK159.out 0).trans rfl
                      have hcz23_1:wc.cell? ⟨gb159,1,none⟩=some (.int .i64 0):=(blk_cell BK159.out 1).trans rfl
                      have hcz23_2:wc.cell? ⟨gb159,2,none⟩=some (.slice none 0 0):=(blk_cell BK159.out 2).trans rfl
                      have hfz23_0:=blk_frozen BK159.out 0
                      have hfz23_1:=blk_frozen BK159.out 1
                      have hfz23_2:=blk_frozen BK159.out 2
                      go_wp2
                      refine bodyPost_ret (results_ctt rfl _ _ gb159 54 #[.int .i64 0,.int .i64 0,.slice none 0 0] (0,0) _ rfl (by (with_reducible repeat (first|refine blk_drewN ?_ _|refine blk_drew ?_|refine blk_alloc ?_ _));refine blk_put (cs:=#[.int .i64 0,.int .i64 0,.slice none 0 0]) ?_ 2 _ rfl;(with_reducible repeat (first|refine blk_drewN ?_ _|refine blk_drew ?_|refine blk_alloc ?_ _));refine blk_put (cs:=#[.int .i64 0,.int .i64 0,.slice none 0 0]) ?_ 1 _ rfl;(with_reducible repeat (first|refine blk_drewN ?_ _|refine blk_drew ?_|refine blk_alloc ?_ _));refine blk_put (cs:=#[.int .i64 0,.int .i64 0,.slice none 0 0]) ?_ 0 _ rfl;(with_reducible repeat (first|refine blk_drewN ?_ _|refine blk_drew ?_|refine blk_alloc ?_ _));exact BK159.out) Try.underlying54 rfl (by kernel_rfl)) rfl ?_
                      exact ⟨_,by first|rfl|(simp [errW_none,errW_some]<;>rfl)|(simp [*,errW_none,errW_some]<;>rfl),by first|exact Kd.R_nil _ _ _ _ _|exact Kd.N_nil _ _ _ _ _|exact Kd.V_nil _ _ _ _ _|exact Kd.Q_nil _ _ _ _ _|exact Kd.S_nil _ _ _ _ _,by repeat (first|(with_reducible first|exact HB.out|apply below_alloc|apply pw_below_drewN|apply below_drew1|refine below_set ?_ GE159.out)|exact HB.out)⟩
                    · replace c22 := Bool.eq_false_iff.mpr c22
                      subst c22
                      have H1:((frame_take_uint16.f kj18 l0 (wrap64 (5+(wrap64 (t163)))) 2).bind fun bt168=>(if t166=true then (frame_look.j3 kj18 l0 t165 (wrap64 (5+(wrap64 (t163)))) bt168.1 (!bt168.2)) else (frame_look.j3 kj18 l0 t165 (wrap64 (5+(wrap64 (t163)))) bt168.1 true)))=some (r1,r2,r3,r4,r5):=by rw [if_neg (show ¬ (false=true) by decide)] at H;exact H
                      clear H
                      have H:=H1
                      clear H1
                      replace H:=Option.bind_eq_some_iff.mp H
                      obtain ⟨⟨t168,t169⟩,A240,H⟩:=H
                      replace H:(if t166=true then (frame_look.j3 kj18 l0 t165 (wrap64 (5+(wrap64 (t163)))) t168 (!t169)) else (frame_look.j3 kj18 l0 t165 (wrap64 (5+(wrap64 (t163)))) t168 true))=some (r1,r2,r3,r4,r5):=H
                      have A24:=Aside0.mk A240
                      clear A240
                      have HC25:=Aside0.mk H
                      clear H
                      go_upto_region 14 with (first|((with_reducible refine gate_callee (f:=99) rfl ?_);refine goesL_ (some 64) rfl rfl Try.func99 (by kernel_rfl) rfl #[.slice A0 l0.length c0,.int .i64 (wrap64 (5+(wrap64 (t163)))),.int .i64 2] rfl (by (try simp only [List.map_toArray,List.map_cons,List.map_nil]);first|done|rfl|(simp only [List.length_drop,List.length_take];rfl)) ?_;(with_reducible refine (frame_take_uint16.calls kj18 _ _ l0 (wrap64 (5+(wrap64 (t163)))) 2 t168 t169 _ ?side1 ?side2 A24.out).mono ?_);(case side1=>repeat (first|exact (Kd.C_below HR0.out HB.out)|(with_reducible refine Kd.C_alloc ?_ _)|(with_reducible refine Kd.C_drewN ?_ _)|(with_reducible refine Kd.C_drew ?_)));(case side2=>exact HC0.out);rintro e w' ⟨rfl,⟨nd,rfl⟩⟩;refine ⟨_,rfl,?_⟩))
                      (try simp only [Act.put,List.setIfInBounds_toArray,List.set_cons_zero,List.set_cons_succ])
                      go_cut [72] (fun v72 wc=>∃ (kq:Nat) (x72_24:Bool),v72 = .bool x72_24∧Aside0 (frame_look.j3 kq l0 t165 (wrap64 (5+(wrap64 (t163)))) t168 x72_24=some (r1,r2,r3,r4,r5))∧Aside0 (kq≤kj18)∧Aside0 (wc.heap[gb159]?=some (.cells #[.int .i64 0,.int .i64 0,(.slice none 0 0)] 54 (0,0)))∧Aside0 (Below w.heap.size w wc))
                      case first =>
                        have H:=HC25.out
                        clear HC25
                        by_cases c26:t166=true
                        · subst c26
                          have H1:(frame_look.j3 kj18 l0 t165 (wrap64 (5+(wrap64 (t163)))) t168 (!t169))=some (r1,r2,r3,r4,r5):=by rw [if_pos rfl] at H;exact H
                          clear H
                          have H:=H1
                          clear H1
                          have H':=Aside0.mk H
                          clear H
                          go_wp2
                          go_meet
                          case rel=>exact ⟨_,(!t169),(by first|rfl|(simp;done)|(simp [*];done)),H',⟨by have:=HJ5.out;have:=HJ13.out;have:=HJ18.out;first|omega|exact Nat.le_refl _⟩,⟨by (with_reducible repeat (first|refine blk_drewN ?_ _|refine blk_drew ?_|refine blk_alloc ?_ _));exact BK159.out⟩,⟨by repeat (first|(with_reducible first|exact HB.out|apply below_alloc|apply pw_below_drewN|apply below_drew1|refine below_set ?_ GE159.out)|exact HB.out)⟩⟩
                        · replace c26:=Bool.eq_false_iff.mpr c26
                          subst c26
                          have H1:(frame_look.j3 kj18 l0 t165 (wrap64 (5+(wrap64 (t163)))) t168 true)=some (r1,r2,r3,r4,r5):=by rw [if_neg (show ¬ (false=true) by decide)] at H;exact H
                          clear H
                          have H:=H1
                          clear H1
                          have H':=Aside0.mk H
                          clear H
                          go_wp2
                          go_meet
                          case rel=>exact ⟨_,(true),(by first|rfl|(simp;done)|(simp [*];done)),H',⟨by have:=HJ5.out;have:=HJ13.out;have:=HJ18.out;first|omega|exact Nat.le_refl _⟩,⟨by (with_reducible repeat (first|refine blk_drewN ?_ _|refine blk_drew ?_|refine blk_alloc ?_ _));exact BK159.out⟩,⟨by repeat (first|(with_reducible first|exact HB.out|apply below_alloc|apply pw_below_drewN|apply below_drew1|refine below_set ?_ GE159.out)|exact HB.out)⟩⟩
                      case rest =>
                        clear HC25
                        try clear c1
                        try clear p1
                        try clear q1
                        try clear hx1
                        try clear qi1
                        try clear c2
                        try clear c2b0
                        try clear c2b1
                        try clear c2b2
                        try clear p2
                        try clear p6
                        try clear c8
                        try clear c8b0
                        try clear c8b1
                        try clear c9
                        try clear c9b0
                        try clear c9b1
                        try clear c10
                        try clear c11
                        try clear c15
                        try clear c16
                        try clear p16
                        try clear q16
                        try clear hx16
                        try clear qi16
                        try clear c20
                        try clear c22
                        try clear c26
                        try clear hcz12_0
                        try clear hcz12_1
                        try clear hcz12_2
                        try clear hcz17_0
                        try clear hcz17_1
                        try clear hcz17_2
                        try clear hcz23_0
                        try clear hcz23_1
                        try clear hcz23_2
                        try clear hcz4_0
                        try clear hcz4_1
                        try clear hcz4_2
                        try clear hfz12_0
                        try clear hfz12_1
                        try clear hfz12_2
                        try clear hfz17_0
                        try clear hfz17_1
                        try clear hfz17_2
                        try clear hfz23_0
                        try clear hfz23_1
                        try clear hfz23_2
                        try clear hfz4_0
                        try clear hfz4_1
                        try clear hfz4_2
                        try clear hx162_0
                        try clear p1
                        try clear p16
                        try clear p162
                        try clear p2
                        try clear p6
                        try clear q1
                        try clear q16
                        try clear q162
                        obtain ⟨kq,x72_24,rfl,HA,HJ24,BK159,HB⟩:=hcut
                        cases kq with
                        | zero=>exact absurd HA.out (by simp [frame_look.j3])
                        | succ kj24 =>
                          have H:=HA.out
                          clear HA
                          simp only [frame_look.j3] at H
                          by_cases c27:x72_24=true
                          · subst c27
                            have H1:(some (0,0,([]:List Int),0,true))=some (r1,r2,r3,r4,r5):=by rw [if_pos rfl] at H;exact H
                            clear H
                            have H:=H1
                            clear H1
                            simp only [Option.some.injEq,Prod.mk.injEq] at H
                            obtain ⟨rfl,rfl,rfl,rfl,rfl⟩:=H
                            have hcz28_0:wc.cell? ⟨gb159,0,none⟩=some (.int .i64 0):=(blk_cell BK159.out 0).trans rfl
                            have hcz28_1:wc.cell? ⟨gb159,1,none⟩=some (.int .i64 0):=(blk_cell BK159.out 1).trans rfl
                            have hcz28_2:wc.cell? ⟨gb159,2,none⟩=some (.slice none 0 0):=(blk_cell BK159.out 2).trans rfl
                            have hfz28_0:=blk_frozen BK159.out 0
                            have hfz28_1:=blk_frozen BK159.out 1
                            have hfz28_2:=blk_frozen BK159.out 2
                            go_wp2
                            refine bodyPost_ret (results_ctt rfl _ _ gb159 54 #[.int .i64 0,.int .i64 0,.slice none 0 0] (0,0) _ rfl (by (with_reducible repeat (first|refine blk_drewN ?_ _|refine blk_drew ?_|refine blk_alloc ?_ _));refine blk_put (cs:=#[.int .i64 0,.int .i64 0,.slice none 0 0]) ?_ 2 _ rfl;(with_reducible repeat (first|refine blk_drewN ?_ _|refine blk_drew ?_|refine blk_alloc ?_ _));refine blk_put (cs:=#[.int .i64 0,.int .i64 0,.slice none 0 0]) ?_ 1 _ rfl;(with_reducible repeat (first|refine blk_drewN ?_ _|refine blk_drew ?_|refine blk_alloc ?_ _));refine blk_put (cs:=#[.int .i64 0,.int .i64 0,.slice none 0 0]) ?_ 0 _ rfl;(with_reducible repeat (first|refine blk_drewN ?_ _|refine blk_drew ?_|refine blk_alloc ?_ _));exact BK159.out) Try.underlying54 rfl (by kernel_rfl)) rfl ?_
                            exact ⟨_,by first|rfl|(simp [errW_none,errW_some]<;>rfl)|(simp [*,errW_none,errW_some]<;>rfl),by first|exact Kd.R_nil _ _ _ _ _|exact Kd.N_nil _ _ _ _ _|exact Kd.V_nil _ _ _ _ _|exact Kd.Q_nil _ _ _ _ _|exact Kd.S_nil _ _ _ _ _,by repeat (first|(with_reducible first|exact HB.out|apply below_alloc|apply pw_below_drewN|apply below_drew1|refine below_set ?_ GE159.out)|exact HB.out)⟩
                          · replace c27 := Bool.eq_false_iff.mpr c27
                            subst c27
                            have H1:(if 1≤(wrap64 (5+(wrap64 (t163)))) then (if (wrap64 (5+(wrap64 (t163))))≤(l0.length:Int) then ((crc_Sum.f ((l0.take ((wrap64 (5+(wrap64 (t163)))):Int).toNat).drop 1)).bind fun t171=>(if t171=t168 then (if 3<(l0.length:Int) then (if 5≤(wrap64 (5+(wrap64 (t163)))) then ((slices_Clone_byte_byte.f ((l0.take ((wrap64 (5+(wrap64 (t163)))):Int).toNat).drop 5)).bind fun t174=>(some (wrap64 (rd l0 3),wrap64 (t165),t174,wrap64 ((wrap64 (5+(wrap64 (t163))))+2),true))) else (none)) else (none)) else (some (0,0,([]:List Int),0,false)))) else (none)) else (none))=some (r1,r2,r3,r4,r5):=by rw [if_neg (show ¬ (false=true) by decide)] at H;exact H
                            clear H
                            have H:=H1
                            clear H1
                            by_cases c29:1≤(wrap64 (5+(wrap64 (t163))))
                            · rw [if_pos c29] at H
                              have c29b0:=eq_true c29
                              have c29b1:decide (1≤(wrap64 (5+(wrap64 (t163)))))=true:=decide_eq_true c29
                              by_cases c30:(wrap64 (5+(wrap64 (t163))))≤(l0.length:Int)
                              · rw [if_pos c30] at H
                                have c30b0:=eq_true c30
                                have c30b1:decide ((wrap64 (5+(wrap64 (t163))))≤(l0.length:Int))=true:=decide_eq_true c30
                                replace H:=Option.bind_eq_some_iff.mp H
                                obtain ⟨t171,A310,H⟩:=H
                                replace H:(if t171=t168 then (if 3<(l0.length:Int) then (if 5≤(wrap64 (5+(wrap64 (t163)))) then ((slices_Clone_byte_byte.f ((l0.take ((wrap64 (5+(wrap64 (t163)))):Int).toNat).drop 5)).bind fun t174=>(some (wrap64 (rd l0 3),wrap64 (t165),t174,wrap64 ((wrap64 (5+(wrap64 (t163))))+2),true))) else (none)) else (none)) else (some (0,0,([]:List Int),0,false)))=some (r1,r2,r3,r4,r5):=H
                                have A31:=Aside0.mk A310
                                clear A310
                                by_cases c32:t171=t168
                                · rw [if_pos c32] at H
                                  have c32b0:(t171 == t168)=true:=beq_iff_eq.mpr c32
                                  have c32b1:(t171 != t168)=false:=bne_eq_false_iff_eq.mpr c32
                                  clear c32
                                  by_cases c33:3<(l0.length:Int)
                                  · rw [if_pos c33] at H
                                    have c33b0:decide (3<(l0.length:Int))=true:=decide_eq_true c33
                                    have c33b1:decide (3<l0.length)=true:=decide_eq_true (by omega)
                                    clear c33
                                    by_cases c34:5≤(wrap64 (5+(wrap64 (t163))))
                                    · rw [if_pos c34] at H
                                      have c34b0:=eq_true c34
                                      have c34b1:decide (5≤(wrap64 (5+(wrap64 (t163)))))=true:=decide_eq_true c34
                                      have c35b0:=eq_true (of_decide_eq_true (by first|(with_reducible assumption)|assumption):(wrap64 (5+(wrap64 (t163))))≤(l0.length:Int))
                                      replace H:=Option.bind_eq_some_iff.mp H
                                      obtain ⟨t174,A360,H⟩:=H
                                      replace H:(some (wrap64 (rd l0 3),wrap64 (t165),t174,wrap64 ((wrap64 (5+(wrap64 (t163))))+2),true))=some (r1,r2,r3,r4,r5):=H
                                      have A36:=Aside0.mk A360
                                      clear A360
                                      simp only [Option.some.injEq,Prod.mk.injEq] at H
                                      obtain ⟨rfl,rfl,rfl,rfl,rfl⟩:=H
                                      obtain ⟨i037,hi037,_,hsz37,_⟩:=info_parts info5
                                      obtain ⟨A37,hcut37,hA37,hC37⟩:=print_mid_of (P:=Try.prog) (Value.int .u8) 0 25 5 .i64 .i64 Try.underlying25 hi037 hsz37 A0 c0 l0 1 (wrap64 (5+(wrap64 (t163)))) (by omega) (by first|omega|exact of_decide_eq_true (by first|(with_reducible assumption)|assumption)) (of_decide_eq_true (by first|(with_reducible assumption)|assumption)) HC0.out
                                      have HR170:=Aside0.mk (Kd.C_of_reads (h1:=fun _=>rfl) (hA37 _ (Kd.reads_of_C HR0.out)))
                                      have HC170:=Aside0.mk hC37
                                      clear hA37 hC37 hi037 hsz37
                                      try go_wp2_with (first|((with_reducible refine gate_callee (f:=82) rfl ?_);refine goesL_ (some 77) rfl rfl Try.func82 (by kernel_rfl) rfl #[.slice A37 ((l0.take ((wrap64 (5+(wrap64 (t163)))):Int).toNat).drop 1).length (c0-1)] rfl (by (try simp only [List.map_toArray,List.map_cons,List.map_nil]);first|done|(rw [show ((l0.take ((wrap64 (5+(wrap64 (t163)))):Int).toNat).drop 1).length=((wrap64 (5+(wrap64 (t163)))).toNat-1) from (by rw [List.length_drop,List.length_take];have h_:((wrap64 (5+(wrap64 (t163)))):Int)≤(l0.length:Int):=of_decide_eq_true (by first|(with_reducible assumption)|assumption);omega)]<;>rfl)|rfl|(simp only [List.length_drop,List.length_take];rfl)) ?_;(with_reducible refine (crc_Sum.calls _ _ ((l0.take ((wrap64 (5+(wrap64 (t163)))):Int).toNat).drop 1) t171 _ ?side1 ?side2 A31.out).mono ?_);(case side1=>repeat (first|exact (Kd.C_below HR170.out HB.out)|(with_reducible refine Kd.C_alloc ?_ _)|(with_reducible refine Kd.C_drewN ?_ _)|(with_reducible refine Kd.C_drew ?_)));(case side2=>exact HC170.out);rintro e w38 ⟨rfl,hb⟩;refine ⟨_,rfl,?_⟩;have n0_:=Aside0.mk (blk_below (g:=gb159) (o := .cells #[.int .i64 0,.int .i64 0,.slice none 0 0] 54 (0,0)) (by (with_reducible repeat (first|refine blk_drewN ?_ _|refine blk_drew ?_|refine blk_alloc ?_ _));exact BK159.out) hb);have n1_:=Aside0.mk (below_step (by repeat (first|(with_reducible first|exact HB.out|apply below_alloc|apply pw_below_drewN|apply below_drew1|refine below_set ?_ GE159.out)|exact HB.out)) hb);clear BK159;clear HB;have BK159:=n0_;have HB:=n1_;clear n0_ n1_;(try clear hb);(try clear hb2);(try clear hk);(try clear hi)))
                                      have n0_:=Aside0.mk (blk_drew BK159.out)
                                      have n1_:=Aside0.mk (below_drew1 HB.out)
                                      clear BK159
                                      clear HB
                                      have BK159:=n0_
                                      have HB:=n1_
                                      clear n0_ n1_
                                      have p172:0≤(3:Int):=(by omega)
                                      have q172:3<(l0.length:Int):=of_decide_eq_true (by first|(with_reducible assumption)|assumption)
                                      obtain ⟨ad172,e172,hx172_0⟩:=Kd.at_int HR0.out 3 p172 q172
                                      have hw172_0:=hx172_0
                                      (try rw [show ((3:Int)).toNat=3 from rfl] at hw172_0)
                                      (try rw [show 3*1=3 from rfl] at hw172_0)
                                      (try simp only [Nat.reduceMul,Nat.reduceEqDiff,Go.Addr.add,↓reduceIte] at hw172_0)
                                      cases e172
                                      (try simp only [show (3:Int).toNat=3 from rfl,Nat.reduceMul,Nat.reduceEqDiff,Go.Addr.add,↓reduceIte] at hx172_0)
                                      have qi172:(3<l0.length)=True:=eq_true (by omega)
                                      (try rw [show ((3:Int)).toNat=3 from rfl] at hx172_0)
                                      replace hx172_0:=(HB.out.cell (World.block_lt_of_cell? w _ hx172_0)).trans hx172_0
                                      replace p172:=eq_true p172
                                      replace q172:=eq_true q172
                                      obtain ⟨i040,hi040,_,hsz40,_⟩:=info_parts info5
                                      obtain ⟨A40,hcut40,hA40,hC40⟩:=print_mid_of (P:=Try.prog) (Value.int .u8) 0 25 5 .i64 .i64 Try.underlying25 hi040 hsz40 (some ad172) c0 l0 5 (wrap64 (5+(wrap64 (t163)))) (by omega) (by first|omega|exact of_decide_eq_true (by first|(with_reducible assumption)|assumption)) (of_decide_eq_true (by first|(with_reducible assumption)|assumption)) HC0.out
                                      have HR173:=Aside0.mk (Kd.C_of_reads (h1:=fun _=>rfl) (hA40 _ (Kd.reads_of_C HR0.out)))
                                      have HC173:=Aside0.mk hC40
                                      clear hA40 hC40 hi040 hsz40
                                      refine start_ (n:=16) (S:=fun w'=>w'.cell? ⟨ad172.block,ad172.off+3,none⟩=some (.int .u8 (rd l0 3))) (ds:=[]) #[false,false,false,false,false,false,false,false,false,false,false,false,false,false,false,false] (by kernel_rfl) rfl rfl (((HB.out.cell (World.block_lt_of_cell? w _ hw172_0)).trans hw172_0)) (fun hHeld=>?_);refine with_tabW frame_look.tab18 frame_look.bits18 (fun HT_ HW_=>?_)
                                      generalize w38.drew=w39 at BK159 HB HR173 hx172_0 hHeld ⊢
                                      refine pure_ (i:=0) (N:=some 81) (v:=?_) (a':=?_) #[true,false,false,false,false,false,false,false,false,false,false,false,false,false,false,false] rfl rfl (any_of HT_.out (by kernel_rfl)) (fun _ _ _ h=>h) (Or.inl ⟨by rfl,?_⟩) ?_ ?_
                                      rotate_left
                                      · intro w'
                                        go_simp
                                        with_reducible rfl
                                      rotate_left
                                      · simp only [Act.put,List.setIfInBounds_toArray,List.set_cons_zero,List.set_cons_succ,i64_w,i32_w]
                                        rfl
                                      refine pure_ (i:=1) (N:=some 82) (v:=?_) (a':=?_) #[true,true,false,false,false,false,false,false,false,false,false,false,false,false,false,false] rfl rfl (any_of HT_.out (by kernel_rfl)) (fun _ _ _ h=>h) (Or.inl ⟨by rfl,?_⟩) ?_ ?_
                                      rotate_left
                                      · intro w'
                                        go_simp
                                        with_reducible rfl
                                      rotate_left
                                      · simp only [Act.put,List.setIfInBounds_toArray,List.set_cons_zero,List.set_cons_succ,i64_w,i32_w]
                                        rfl
                                      refine pure_ (i:=4) (N:=some 85) (v:=?_) (a':=?_) #[true,true,false,false,true,false,false,false,false,false,false,false,false,false,false,false] rfl rfl (any_of HT_.out (by kernel_rfl)) (fun _ _ _ h=>h) (Or.inl ⟨by rfl,?_⟩) ?_ ?_
                                      rotate_left
                                      · intro w'
                                        go_simp
                                        with_reducible rfl
                                      rotate_left
                                      · simp only [Act.put,List.setIfInBounds_toArray,List.set_cons_zero,List.set_cons_succ,i64_w,i32_w]
                                        rfl
                                      refine pure_ (i:=5) (N:=some 86) (v:=?_) (a':=?_) #[true,true,false,false,true,true,false,false,false,false,false,false,false,false,false,false] rfl rfl (any_of HT_.out (by kernel_rfl)) (fun _ _ _ h=>h) (Or.inl ⟨by rfl,?_⟩) ?_ ?_
                                      rotate_left
                                      · intro w'
                                        go_simp
                                        with_reducible rfl
                                      rotate_left
                                      · simp only [Act.put,List.setIfInBounds_toArray,List.set_cons_zero,List.set_cons_succ,i64_w,i32_w]
                                        rfl
                                      refine pure_ (i:=6) (N:=some 87) (v:=?_) (a':=?_) #[true,true,false,false,true,true,true,false,false,false,false,false,false,false,false,false] rfl rfl (any_of HT_.out (by kernel_rfl)) (fun _ _ _ h=>h) (Or.inl ⟨by rfl,?_⟩) ?_ ?_
                                      rotate_left
                                      · intro w'
                                        go_simp
                                        with_reducible rfl
                                      rotate_left
                                      · simp only [Act.put,List.setIfInBounds_toArray,List.set_cons_zero,List.set_cons_succ,i64_w,i32_w]
                                        rfl
                                      refine pure_ (i:=7) (N:=some 88) (v:=?_) (a':=?_) #[true,true,false,false,true,true,true,true,false,false,false,false,false,false,false,false] rfl rfl (any_of HT_.out (by kernel_rfl)) (fun _ _ _ h=>h) (Or.inl ⟨by rfl,?_⟩) ?_ ?_
                                      rotate_left
                                      · intro w'
                                        go_simp
                                        with_reducible rfl
                                      rotate_left
                                      · simp only [Act.put,List.setIfInBounds_toArray,List.set_cons_zero,List.set_cons_succ,i64_w,i32_w]
                                        rfl
                                      refine pure_ (i:=8) (N:=some 89) (v:=?_) (a':=?_) #[true,true,false,false,true,true,true,true,true,false,false,false,false,false,false,false] rfl rfl (any_of HT_.out (by kernel_rfl)) (fun _ _ _ h=>h) (Or.inl ⟨by rfl,?_⟩) ?_ ?_
                                      rotate_left
                                      · intro w'
                                        go_simp
                                        with_reducible rfl
                                      rotate_left
                                      · simp only [Act.put,List.setIfInBounds_toArray,List.set_cons_zero,List.set_cons_succ,i64_w,i32_w]
                                        rfl
                                      refine pure_ (i:=11) (N:=some 92) (v:=?_) (a':=?_) #[true,true,false,false,true,true,true,true,true,false,false,true,false,false,false,false] rfl rfl (any_of HT_.out (by kernel_rfl)) (fun _ _ _ h=>h) (Or.inl ⟨by rfl,?_⟩) ?_ ?_
                                      rotate_left
                                      · intro w'
                                        go_simp
                                        with_reducible rfl
                                      rotate_left
                                      · simp only [Act.put,List.setIfInBounds_toArray,List.set_cons_zero,List.set_cons_succ,i64_w,i32_w]
                                        rfl
                                      refine pure_ (i:=12) (N:=some 93) (v:=?_) (a':=?_) #[true,true,false,false,true,true,true,true,true,false,false,true,true,false,false,false] rfl rfl (any_of HT_.out (by kernel_rfl)) (fun _ _ _ h=>h) (Or.inl ⟨by rfl,?_⟩) ?_ ?_
                                      rotate_left
                                      · intro w'
                                        go_simp
                                        with_reducible rfl
                                      rotate_left
                                      · simp only [Act.put,List.setIfInBounds_toArray,List.set_cons_zero,List.set_cons_succ,i64_w,i32_w]
                                        rfl
                                      refine take_ (i:=2) (N:=some 83) (v:=?_) (a':=?_) #[true,true,true,false,true,true,true,true,true,false,false,true,true,false,false,false] rfl rfl (take_ofW HT_.out HW_.out (by kernel_rfl)) (fun _ _ _ h=>h) (Or.inl ⟨by rfl,?_⟩) hHeld ?_ ?_
                                      rotate_left
                                      · intro w' s0
                                        go_simp
                                        with_reducible rfl
                                      rotate_left
                                      · simp only [Act.put,List.setIfInBounds_toArray,List.set_cons_zero,List.set_cons_succ,i64_w,i32_w]
                                        rfl
                                      refine pure_ (i:=3) (N:=some 84) (v:=?_) (a':=?_) #[true,true,true,true,true,true,true,true,true,false,false,true,true,false,false,false] rfl rfl (any_of HT_.out (by kernel_rfl)) (fun _ _ _ h=>h) (Or.inl ⟨by rfl,?_⟩) ?_ ?_
                                      rotate_left
                                      · intro w'
                                        go_simp
                                        with_reducible rfl
                                      rotate_left
                                      · simp only [Act.put,List.setIfInBounds_toArray,List.set_cons_zero,List.set_cons_succ,i64_w,i32_w]
                                        rfl
                                      refine one_ (i:=9) (N:=some 90) #[true,true,true,true,true,true,true,true,true,true,false,true,true,false,false,false] rfl rfl (one_of HT_.out (by kernel_rfl)) (by decide) (fun K hK=>?_)
                                      refine goes_ Try.func74 (by kernel_rfl) rfl #[.slice A40 ((l0.take ((wrap64 (5+(wrap64 (t163)))):Int).toNat).drop 5).length (c0-5)] (by rfl) rfl rfl (by (try simp only [List.map_toArray,List.map_cons,List.map_nil]);first|done|(rw [show ((l0.take ((wrap64 (5+(wrap64 (t163)))):Int).toNat).drop 5).length=((wrap64 (5+(wrap64 (t163)))).toNat-5) from (by rw [List.length_drop,List.length_take];have h_:((wrap64 (5+(wrap64 (t163)))):Int)≤(l0.length:Int):=of_decide_eq_true (by first|(with_reducible assumption)|assumption);omega)]<;>rfl)|rfl|(simp only [List.length_drop,List.length_take];rfl)) ?_
                                      with_reducible refine (slices_Clone_byte_byte.calls _ _ ((l0.take ((wrap64 (5+(wrap64 (t163)))):Int).toNat).drop 5) t174 _ ?side1 ?side2 A36.out).mono ?_
                                      (case side1=>repeat (first|exact (Kd.C_below HR173.out HB.out)|(with_reducible refine Kd.C_alloc ?_ _)|(with_reducible refine Kd.C_drewN ?_ _)|(with_reducible refine Kd.C_drew ?_)))
                                      (case side2=>exact HC173.out)
                                      rintro e w41 ⟨v175,rfl,ho0,hb⟩
                                      refine ⟨_,rfl,?_⟩
                                      have n0_:=Aside0.mk (Kd.R_lower ho0 (below_size (by repeat (first|(with_reducible first|exact HB.out|apply below_alloc|apply pw_below_drewN|apply below_drew1|refine below_set ?_ GE159.out)|exact HB.out))))
                                      have n1_:=Aside0.mk (blk_below (g:=gb159) (o := .cells #[.int .i64 0,.int .i64 0,.slice none 0 0] 54 (0,0)) (by (with_reducible repeat (first|refine blk_drewN ?_ _|refine blk_drew ?_|refine blk_alloc ?_ _));exact BK159.out) hb)
                                      have n2_:=Aside0.mk (below_step (by repeat (first|(with_reducible first|exact HB.out|apply below_alloc|apply pw_below_drewN|apply below_drew1|refine below_set ?_ GE159.out)|exact HB.out)) hb)
                                      clear BK159
                                      clear HB
                                      have HO176:=n0_
                                      have BK159:=n1_
                                      have HB:=n2_
                                      clear n0_ n1_ n2_
                                      (try clear hb)
                                      (try clear hb2)
                                      (try clear hk)
                                      (try clear hi)
                                      (try clear ho0)
                                      obtain ⟨Ao42,co42,eo42⟩:=Kd.R_slice HO176.out
                                      (first|subst eo42|(injection eo42 with f1_ f2_ f3_;have f4_:=f1_.symm;have f5_:=f3_.symm;clear f1_ f2_ f3_;subst f4_;subst f5_))
                                      refine hK.out _ _ (((HB.out.cell (World.block_lt_of_cell? w _ hw172_0)).trans hw172_0)) (fun hHeld=>?_)
                                      clear hK K
                                      refine norm_ (a':=?_) ?_ ?_
                                      rotate_left
                                      · show Act.put _ (some 90) _=_
                                        simp only [Act.put,List.setIfInBounds_toArray,List.set_cons_zero,List.set_cons_succ,i64_w,i32_w]
                                        rfl
                                      refine pure_ (i:=10) (N:=some 91) (v:=?_) (a':=?_) #[true,true,true,true,true,true,true,true,true,true,true,true,true,false,false,false] rfl rfl (any_of HT_.out (by kernel_rfl)) (fun _ _ _ h=>h) (Or.inl ⟨by rfl,?_⟩) ?_ ?_
                                      rotate_left
                                      · intro w'
                                        go_simp
                                        with_reducible rfl
                                      rotate_left
                                      · simp only [Act.put,List.setIfInBounds_toArray,List.set_cons_zero,List.set_cons_succ,i64_w,i32_w]
                                        rfl
                                      refine one_ (i:=13) (N:=none) #[true,true,true,true,true,true,true,true,true,true,true,true,true,true,false,false] rfl rfl (one_of HT_.out (by kernel_rfl)) (by decide) (fun K hK=>?_)
                                      have hs43:w41.cell? ⟨gb159,0,none⟩=some (.int .i64 0):=(blk_cell BK159.out 0).trans rfl
                                      have hfs43:=blk_frozen BK159.out 0
                                      have hs44:w41.cell? ⟨gb159,1,none⟩=some (.int .i64 0):=(blk_cell BK159.out 1).trans rfl
                                      have hfs44:=blk_frozen BK159.out 1
                                      have hs45:w41.cell? ⟨gb159,2,none⟩=some (.slice none 0 0):=(blk_cell BK159.out 2).trans rfl
                                      have hfs45:=blk_frozen BK159.out 2
                                      refine skip_ (w1:=?_) (by rfl) rfl ?_ ?_
                                      rotate_left
                                      · go_simp
                                        rfl
                                      refine hK.out _ _ (((cell_far (p:=⟨gb159,_,none⟩) (by first|exact Nat.ne_of_lt (Nat.lt_of_lt_of_le (by have:=World.block_lt_of_cell? _ _ hw172_0;first|rwa [add_block] at this|exact this) GW159.out)|(rw [add_block];exact Nat.ne_of_lt (Nat.lt_of_lt_of_le (by have:=World.block_lt_of_cell? _ _ hw172_0;first|rwa [add_block] at this|exact this) GW159.out))|(show (Addr.add _ _).block≠_;rw [add_block];exact Nat.ne_of_lt (Nat.lt_of_lt_of_le (by have:=World.block_lt_of_cell? _ _ hw172_0;first|rwa [add_block] at this|exact this) GW159.out))|(dsimp only;exact Nat.ne_of_lt (Nat.lt_of_lt_of_le (by have:=World.block_lt_of_cell? _ _ hw172_0;first|rwa [add_block] at this|exact this) GW159.out))) _).trans (((cell_far (p:=⟨gb159,_,none⟩) (by first|exact Nat.ne_of_lt (Nat.lt_of_lt_of_le (by have:=World.block_lt_of_cell? _ _ hw172_0;first|rwa [add_block] at this|exact this) GW159.out)|(rw [add_block];exact Nat.ne_of_lt (Nat.lt_of_lt_of_le (by have:=World.block_lt_of_cell? _ _ hw172_0;first|rwa [add_block] at this|exact this) GW159.out))|(show (Addr.add _ _).block≠_;rw [add_block];exact Nat.ne_of_lt (Nat.lt_of_lt_of_le (by have:=World.block_lt_of_cell? _ _ hw172_0;first|rwa [add_block] at this|exact this) GW159.out))|(dsimp only;exact Nat.ne_of_lt (Nat.lt_of_lt_of_le (by have:=World.block_lt_of_cell? _ _ hw172_0;first|rwa [add_block] at this|exact this) GW159.out))) _).trans (((cell_far (p:=⟨gb159,_,none⟩) (by first|exact Nat.ne_of_lt (Nat.lt_of_lt_of_le (by have:=World.block_lt_of_cell? _ _ hw172_0;first|rwa [add_block] at this|exact this) GW159.out)|(rw [add_block];exact Nat.ne_of_lt (Nat.lt_of_lt_of_le (by have:=World.block_lt_of_cell? _ _ hw172_0;first|rwa [add_block] at this|exact this) GW159.out))|(show (Addr.add _ _).block≠_;rw [add_block];exact Nat.ne_of_lt (Nat.lt_of_lt_of_le (by have:=World.block_lt_of_cell? _ _ hw172_0;first|rwa [add_block] at this|exact this) GW159.out))|(dsimp only;exact Nat.ne_of_lt (Nat.lt_of_lt_of_le (by have:=World.block_lt_of_cell? _ _ hw172_0;first|rwa [add_block] at this|exact this) GW159.out))) _).trans (hHeld))))))) (fun hHeld=>?_)
                                      clear hK K
                                      refine pure_ (i:=14) (N:=some 3) (v:=?_) (a':=?_) #[true,true,true,true,true,true,true,true,true,true,true,true,true,true,true,false] rfl rfl (any_of HT_.out (by kernel_rfl)) (fun _ _ _ h=>h) (Or.inl ⟨by rfl,?_⟩) ?_ ?_
                                      rotate_left
                                      · intro w'
                                        go_simp
                                        with_reducible rfl
                                      rotate_left
                                      · simp only [Act.put,List.setIfInBounds_toArray,List.set_cons_zero,List.set_cons_succ,i64_w,i32_w]
                                        rfl
                                      refine pure_ (i:=15) (N:=some 4) (v:=?_) (a':=?_) #[true,true,true,true,true,true,true,true,true,true,true,true,true,true,true,true] rfl rfl (any_of HT_.out (by kernel_rfl)) (fun _ _ _ h=>h) (Or.inl ⟨by rfl,?_⟩) ?_ ?_
                                      rotate_left
                                      · intro w'
                                        go_simp
                                        with_reducible rfl
                                      rotate_left
                                      · simp only [Act.put,List.setIfInBounds_toArray,List.set_cons_zero,List.set_cons_succ,i64_w,i32_w]
                                        rfl
                                      refine done_ (done_of HT_.out (by kernel_rfl)) ?_
                                      try go_wp2
                                      refine bodyPost_ret (results_ctt rfl _ _ gb159 54 #[.int .i64 (wrap64 (rd l0 3)),.int .i64 (wrap64 (t165)),.slice Ao42 t174.length co42] (0,0) _ rfl (by (with_reducible repeat (first|refine blk_drewN ?_ _|refine blk_drew ?_|refine blk_alloc ?_ _));refine blk_put (cs:=#[.int .i64 (wrap64 (rd l0 3)),.int .i64 (wrap64 (t165)),.slice none 0 0]) ?_ 2 _ rfl;(with_reducible repeat (first|refine blk_drewN ?_ _|refine blk_drew ?_|refine blk_alloc ?_ _));refine blk_put (cs:=#[.int .i64 (wrap64 (rd l0 3)),.int .i64 0,.slice none 0 0]) ?_ 1 _ rfl;(with_reducible repeat (first|refine blk_drewN ?_ _|refine blk_drew ?_|refine blk_alloc ?_ _));refine blk_put (cs:=#[.int .i64 0,.int .i64 0,.slice none 0 0]) ?_ 0 _ rfl;(with_reducible repeat (first|refine blk_drewN ?_ _|refine blk_drew ?_|refine blk_alloc ?_ _));exact BK159.out) Try.underlying54 rfl (by kernel_rfl)) rfl ?_
                                      exact ⟨_,by first|rfl|(simp [errW_none,errW_some]<;>rfl)|(simp [*,errW_none,errW_some]<;>rfl),by (with_reducible repeat (first|apply Kd.R_alloc|apply Kd.R_drewN|apply Kd.R_drew));exact Kd.R_mono (Kd.R_far (p:=⟨gb159,2,none⟩) (Kd.R_far (p:=⟨gb159,1,none⟩) (Kd.R_far (p:=⟨gb159,0,none⟩) (Kd.R_types HO176.out BK159.out (by decide)) (fun _ hk=>hk.2) (.int .i64 (wrap64 (rd l0 3)))) (fun _ hk=>hk.2) (.int .i64 (wrap64 (t165)))) (fun _ hk=>hk.2) (.slice Ao42 t174.length co42)) (fun _ hk=>trivial),by repeat (first|(with_reducible first|exact HB.out|apply below_alloc|apply pw_below_drewN|apply below_drew1|refine below_set ?_ GE159.out)|exact HB.out)⟩
                                    · rw [if_neg c34] at H
                                      exact absurd H (by simp)
                                  · rw [if_neg c33] at H
                                    exact absurd H (by simp)
                                · rw [if_neg c32] at H
                                  have c32b0:(t171 == t168)=false:=beq_eq_false_iff_ne.mpr c32
                                  have c32b1:(t171 != t168)=true:=bne_iff_ne.mpr c32
                                  simp only [Option.some.injEq,Prod.mk.injEq] at H
                                  obtain ⟨rfl,rfl,rfl,rfl,rfl⟩:=H
                                  obtain ⟨i046,hi046,_,hsz46,_⟩:=info_parts info5
                                  obtain ⟨A46,hcut46,hA46,hC46⟩:=print_mid_of (P:=Try.prog) (Value.int .u8) 0 25 5 .i64 .i64 Try.underlying25 hi046 hsz46 A0 c0 l0 1 (wrap64 (5+(wrap64 (t163)))) (by omega) (by first|omega|exact of_decide_eq_true (by first|(with_reducible assumption)|assumption)) (of_decide_eq_true (by first|(with_reducible assumption)|assumption)) HC0.out
                                  have HR170:=Aside0.mk (Kd.C_of_reads (h1:=fun _=>rfl) (hA46 _ (Kd.reads_of_C HR0.out)))
                                  have HC170:=Aside0.mk hC46
                                  clear hA46 hC46 hi046 hsz46
                                  go_wp2_with (first|((with_reducible refine gate_callee (f:=82) rfl ?_);refine goesL_ (some 77) rfl rfl Try.func82 (by kernel_rfl) rfl #[.slice A46 ((l0.take ((wrap64 (5+(wrap64 (t163)))):Int).toNat).drop 1).length (c0-1)] rfl (by (try simp only [List.map_toArray,List.map_cons,List.map_nil]);first|done|(rw [show ((l0.take ((wrap64 (5+(wrap64 (t163)))):Int).toNat).drop 1).length=((wrap64 (5+(wrap64 (t163)))).toNat-1) from (by rw [List.length_drop,List.length_take];have h_:((wrap64 (5+(wrap64 (t163)))):Int)≤(l0.length:Int):=of_decide_eq_true (by first|(with_reducible assumption)|assumption);omega)]<;>rfl)|rfl|(simp only [List.length_drop,List.length_take];rfl)) ?_;(with_reducible refine (crc_Sum.calls _ _ ((l0.take ((wrap64 (5+(wrap64 (t163)))):Int).toNat).drop 1) t171 _ ?side1 ?side2 A31.out).mono ?_);(case side1=>repeat (first|exact (Kd.C_below HR170.out HB.out)|(with_reducible refine Kd.C_alloc ?_ _)|(with_reducible refine Kd.C_drewN ?_ _)|(with_reducible refine Kd.C_drew ?_)));(case side2=>exact HC170.out);rintro e w47 ⟨rfl,hb⟩;refine ⟨_,rfl,?_⟩;have n0_:=Aside0.mk (blk_below (g:=gb159) (o := .cells #[.int .i64 0,.int .i64 0,.slice none 0 0] 54 (0,0)) (by (with_reducible repeat (first|refine blk_drewN ?_ _|refine blk_drew ?_|refine blk_alloc ?_ _));exact BK159.out) hb);have n1_:=Aside0.mk (below_step (by repeat (first|(with_reducible first|exact HB.out|apply below_alloc|apply pw_below_drewN|apply below_drew1|refine below_set ?_ GE159.out)|exact HB.out)) hb);clear BK159;clear HB;have BK159:=n0_;have HB:=n1_;clear n0_ n1_;(try clear hb);(try clear hb2);(try clear hk);(try clear hi);have hcz48_0:w47.cell? ⟨gb159,0,none⟩=some (.int .i64 0):=(blk_cell BK159.out 0).trans rfl;have hcz48_1:w47.cell? ⟨gb159,1,none⟩=some (.int .i64 0):=(blk_cell BK159.out 1).trans rfl;have hcz48_2:w47.cell? ⟨gb159,2,none⟩=some (.slice none 0 0):=(blk_cell BK159.out 2).trans rfl;have hfz48_0:=blk_frozen BK159.out 0;have hfz48_1:=blk_frozen BK159.out 1;have hfz48_2:=blk_frozen BK159.out 2))
                                  refine bodyPost_ret (results_ctt rfl _ _ gb159 54 #[.int .i64 0,.int .i64 0,.slice none 0 0] (0,0) _ rfl (by (with_reducible repeat (first|refine blk_drewN ?_ _|refine blk_drew ?_|refine blk_alloc ?_ _));refine blk_put (cs:=#[.int .i64 0,.int .i64 0,.slice none 0 0]) ?_ 2 _ rfl;(with_reducible repeat (first|refine blk_drewN ?_ _|refine blk_drew ?_|refine blk_alloc ?_ _));refine blk_put (cs:=#[.int .i64 0,.int .i64 0,.slice none 0 0]) ?_ 1 _ rfl;(with_reducible repeat (first|refine blk_drewN ?_ _|refine blk_drew ?_|refine blk_alloc ?_ _));refine blk_put (cs:=#[.int .i64 0,.int .i64 0,.slice none 0 0]) ?_ 0 _ rfl;(with_reducible repeat (first|refine blk_drewN ?_ _|refine blk_drew ?_|refine blk_alloc ?_ _));exact BK159.out) Try.underlying54 rfl (by kernel_rfl)) rfl ?_
                                  exact ⟨_,by first|rfl|(simp [errW_none,errW_some]<;>rfl)|(simp [*,errW_none,errW_some]<;>rfl),by first|exact Kd.R_nil _ _ _ _ _|exact Kd.N_nil _ _ _ _ _|exact Kd.V_nil _ _ _ _ _|exact Kd.Q_nil _ _ _ _ _|exact Kd.S_nil _ _ _ _ _,by repeat (first|(with_reducible first|exact HB.out|apply below_alloc|apply pw_below_drewN|apply below_drew1|refine below_set ?_ GE159.out)|exact HB.out)⟩
                              · rw [if_neg c30] at H
                                exact absurd H (by simp)
                            · rw [if_neg c29] at H
                              exact absurd H (by simp)
end Go.Proofs.Ytaeabemipnbgbaa.QFr
end
section
namespace Go.Proofs.Ytaeabemipnbgbaa.QFr
open RowKit YtaeabemipnbgbaaW.PrintWords YtaeabemipnbgbaaW.PrintLast YtaeabemipnbgbaaW.PrintMore
attribute [local go_sem] max2_int min2_int max_two min_two max_three min_three max_four min_four   -- for this text's walks alone
set_option linter.unusedVariables false
set_option linter.unusedSimpArgs false
def frame_Decode.f (k:Nat) (l0:List Int):Option (Int × Int × List Int × Int × Int):=(frame_look.f k l0).bind fun bt178=>(if bt178.2.2.2.1=0 then (some (0,0,([]:List Int),0,1)) else (some (bt178.1,bt178.2.1,bt178.2.2.1,bt178.2.2.2.1,0)))
set_option maxHeartbeats 8000000 in
set_option maxRecDepth 100000 in
theorem frame_Decode.calls (k:Nat) (A0:Option Addr) (c0:Nat) (l0:List Int) (r1:Int) (r2:Int) (r3:List Int) (r4:Int) (r5:Int) (w:World) (hr0:Kd.C (Kd.int .u8) w A0 l0.length l0) (hc0:l0.length≤c0) (h:frame_Decode.f k l0=some (r1,r2,r3,r4,r5)) :
    Calls Try.prog 36 #[.slice A0 l0.length c0] w fun e w'=>∃ v2_:Value,e = .returned (.tuple #[.agg #[.int .i64 r1,.int .i64 r2,v2_],.int .i64 r4,.int .i64 r5])∧Kd.R (Kd.int .u8) 5 w' w.heap.size (fun _=>True) v2_ r3∧Below w.heap.size w w':=by
  have hu54:=Try.underlying54
  have HR0:=Aside0.mk hr0
  have HC0:=Aside0.mk hc0
  clear hr0 hc0
  have HB:=Aside0.mk (Below.refl w.heap.size w)
  have H:((frame_look.f k l0).bind fun bt178=>(if bt178.2.2.2.1=0 then (some (0,0,([]:List Int),0,1)) else (some (bt178.1,bt178.2.1,bt178.2.2.1,bt178.2.2.2.1,0))))=some (r1,r2,r3,r4,r5):=h
  clear h
  replace H:=Option.bind_eq_some_iff.mp H
  obtain ⟨⟨t178,t179,t180,t183,t184⟩,A20,H⟩:=H
  replace H:(if t183=0 then (some (0,0,([]:List Int),0,1)) else (some (t178,t179,t180,t183,0)))=some (r1,r2,r3,r4,r5):=H
  have A2:=Aside0.mk A20
  clear A20
  by_cases c3:t183=0
  · rw [if_pos c3] at H
    have c3b0:(t183 == 0)=true:=beq_iff_eq.mpr c3
    have c3b1:(t183 != 0)=false:=bne_eq_false_iff_eq.mpr c3
    clear c3
    simp only [Option.some.injEq,Prod.mk.injEq] at H
    obtain ⟨rfl,rfl,rfl,rfl,rfl⟩:=H
    go_enter Try.func36,Try.ntmps36
    go_wp2_with (first|((with_reducible refine gate_dst (N:=2) rfl ?_);refine box_event ?hg (N:=2) ?hd (cs:=#[.int .i64 0,.int .i64 0,.slice none 0 0]) (t:=54) ?hr ?_;(case hd=>rfl);(case hg=>rfl);(case hr=>first|(go_simp;done)|(go_simp;rfl));intro gb177 hg w4 hbox hb;have n0_:=Aside0.mk (below_step (by repeat (first|(with_reducible first|exact HB.out|apply below_alloc|apply pw_below_drewN|apply below_drew1)|exact HB.out)) hb);have n1_:=Aside0.mk (hbox);have n2_:=Aside0.mk ((by rw [hg];exact (below_size (by repeat (first|(with_reducible first|exact HB.out|apply below_alloc|apply pw_below_drewN|apply below_drew1)|exact HB.out))):w.heap.size≤gb177));have n3_:=Aside0.mk ((by rw [hg];exact (below_size (by repeat (first|(with_reducible first|exact HB.out|apply below_alloc|apply pw_below_drewN|apply below_drew1)|exact HB.out))):w.heap.size≤gb177));clear HB;have HB:=n0_;have BK177:=n1_;have GW177:=n2_;have GE177:=n3_;clear n0_ n1_ n2_ n3_;clear hb hbox hg)|((with_reducible refine gate_callee (f:=83) rfl ?_);refine goesL_ (some 7) rfl rfl Try.func83 (by kernel_rfl) rfl #[.slice A0 l0.length c0] rfl (by (try simp only [List.map_toArray,List.map_cons,List.map_nil]);first|done|rfl|(simp only [List.length_drop,List.length_take];rfl)) ?_;(with_reducible refine (frame_look.calls k _ _ l0 t178 t179 t180 t183 t184 _ ?side1 ?side2 A2.out).mono ?_);(case side1=>repeat (first|exact (Kd.C_below HR0.out HB.out)|(with_reducible refine Kd.C_alloc ?_ _)|(with_reducible refine Kd.C_drewN ?_ _)|(with_reducible refine Kd.C_drew ?_)));(case side2=>exact HC0.out);rintro e w5 ⟨v181,rfl,ho0,hb⟩;refine ⟨_,rfl,?_⟩;have n0_:=Aside0.mk (Kd.R_lower ho0 (below_size (by repeat (first|(with_reducible first|exact HB.out|apply below_alloc|apply pw_below_drewN|apply below_drew1|refine below_set ?_ GE177.out)|exact HB.out))));have n1_:=Aside0.mk (blk_below (g:=gb177) (o := .cells #[.int .i64 0,.int .i64 0,.slice none 0 0] 54 (0,0)) (by (with_reducible repeat (first|refine blk_drewN ?_ _|refine blk_drew ?_|refine blk_alloc ?_ _));exact BK177.out) hb);have n2_:=Aside0.mk (below_step (by repeat (first|(with_reducible first|exact HB.out|apply below_alloc|apply pw_below_drewN|apply below_drew1|refine below_set ?_ GE177.out)|exact HB.out)) hb);clear BK177;clear HB;have HO182:=n0_;have BK177:=n1_;have HB:=n2_;clear n0_ n1_ n2_;(try clear hb);(try clear hb2);(try clear hk);(try clear hi);(try clear ho0);have hcz6_0:w5.cell? ⟨gb177,0,none⟩=some (.int .i64 0):=(blk_cell BK177.out 0).trans rfl;have hcz6_1:w5.cell? ⟨gb177,1,none⟩=some (.int .i64 0):=(blk_cell BK177.out 1).trans rfl;have hcz6_2:w5.cell? ⟨gb177,2,none⟩=some (.slice none 0 0):=(blk_cell BK177.out 2).trans rfl;have hfz6_0:=blk_frozen BK177.out 0;have hfz6_1:=blk_frozen BK177.out 1;have hfz6_2:=blk_frozen BK177.out 2;obtain ⟨Ao7,co7,eo7⟩:=Kd.R_slice HO182.out;subst eo7))
    refine bodyPost_ret (results_ctt rfl _ _ gb177 54 #[.int .i64 0,.int .i64 0,.slice none 0 0] (0,0) _ rfl (by (with_reducible repeat (first|refine blk_drewN ?_ _|refine blk_drew ?_|refine blk_alloc ?_ _));refine blk_put (cs:=#[.int .i64 0,.int .i64 0,.slice Ao7 t180.length co7]) ?_ 2 _ rfl;(with_reducible repeat (first|refine blk_drewN ?_ _|refine blk_drew ?_|refine blk_alloc ?_ _));refine blk_put (cs:=#[.int .i64 0,.int .i64 t179,.slice Ao7 t180.length co7]) ?_ 1 _ rfl;(with_reducible repeat (first|refine blk_drewN ?_ _|refine blk_drew ?_|refine blk_alloc ?_ _));refine blk_put (cs:=#[.int .i64 t178,.int .i64 t179,.slice Ao7 t180.length co7]) ?_ 0 _ rfl;(with_reducible repeat (first|refine blk_drewN ?_ _|refine blk_drew ?_|refine blk_alloc ?_ _));refine blk_put (cs:=#[.int .i64 t178,.int .i64 t179,.slice none 0 0]) ?_ 2 _ rfl;(with_reducible repeat (first|refine blk_drewN ?_ _|refine blk_drew ?_|refine blk_alloc ?_ _));refine blk_put (cs:=#[.int .i64 t178,.int .i64 0,.slice none 0 0]) ?_ 1 _ rfl;(with_reducible repeat (first|refine blk_drewN ?_ _|refine blk_drew ?_|refine blk_alloc ?_ _));refine blk_put (cs:=#[.int .i64 0,.int .i64 0,.slice none 0 0]) ?_ 0 _ rfl;(with_reducible repeat (first|refine blk_drewN ?_ _|refine blk_drew ?_|refine blk_alloc ?_ _));exact BK177.out) Try.underlying54 rfl (by kernel_rfl)) rfl ?_
    exact ⟨_,by first|rfl|(simp [errW_none,errW_some]<;>rfl)|(simp [*,errW_none,errW_some]<;>rfl),by first|exact Kd.R_nil _ _ _ _ _|exact Kd.N_nil _ _ _ _ _|exact Kd.V_nil _ _ _ _ _|exact Kd.Q_nil _ _ _ _ _|exact Kd.S_nil _ _ _ _ _,by repeat (first|(with_reducible first|exact HB.out|apply below_alloc|apply pw_below_drewN|apply below_drew1|refine below_set ?_ GE177.out)|exact HB.out)⟩
  · rw [if_neg c3] at H
    have c3b0:(t183 == 0)=false:=beq_eq_false_iff_ne.mpr c3
    have c3b1:(t183 != 0)=true:=bne_iff_ne.mpr c3
    simp only [Option.some.injEq,Prod.mk.injEq] at H
    obtain ⟨rfl,rfl,rfl,rfl,rfl⟩:=H
    go_enter Try.func36,Try.ntmps36
    go_wp2_with (first|((with_reducible refine gate_dst (N:=2) rfl ?_);refine box_event ?hg (N:=2) ?hd (cs:=#[.int .i64 0,.int .i64 0,.slice none 0 0]) (t:=54) ?hr ?_;(case hd=>rfl);(case hg=>rfl);(case hr=>first|(go_simp;done)|(go_simp;rfl));intro gb177 hg w8 hbox hb;have n0_:=Aside0.mk (below_step (by repeat (first|(with_reducible first|exact HB.out|apply below_alloc|apply pw_below_drewN|apply below_drew1)|exact HB.out)) hb);have n1_:=Aside0.mk (hbox);have n2_:=Aside0.mk ((by rw [hg];exact (below_size (by repeat (first|(with_reducible first|exact HB.out|apply below_alloc|apply pw_below_drewN|apply below_drew1)|exact HB.out))):w.heap.size≤gb177));have n3_:=Aside0.mk ((by rw [hg];exact (below_size (by repeat (first|(with_reducible first|exact HB.out|apply below_alloc|apply pw_below_drewN|apply below_drew1)|exact HB.out))):w.heap.size≤gb177));clear HB;have HB:=n0_;have BK177:=n1_;have GW177:=n2_;have GE177:=n3_;clear n0_ n1_ n2_ n3_;clear hb hbox hg)|((with_reducible refine gate_callee (f:=83) rfl ?_);refine goesL_ (some 7) rfl rfl Try.func83 (by kernel_rfl) rfl #[.slice A0 l0.length c0] rfl (by (try simp only [List.map_toArray,List.map_cons,List.map_nil]);first|done|rfl|(simp only [List.length_drop,List.length_take];rfl)) ?_;(with_reducible refine (frame_look.calls k _ _ l0 t178 t179 t180 t183 t184 _ ?side1 ?side2 A2.out).mono ?_);(case side1=>repeat (first|exact (Kd.C_below HR0.out HB.out)|(with_reducible refine Kd.C_alloc ?_ _)|(with_reducible refine Kd.C_drewN ?_ _)|(with_reducible refine Kd.C_drew ?_)));(case side2=>exact HC0.out);rintro e w9 ⟨v181,rfl,ho0,hb⟩;refine ⟨_,rfl,?_⟩;have n0_:=Aside0.mk (Kd.R_lower ho0 (below_size (by repeat (first|(with_reducible first|exact HB.out|apply below_alloc|apply pw_below_drewN|apply below_drew1|refine below_set ?_ GE177.out)|exact HB.out))));have n1_:=Aside0.mk (blk_below (g:=gb177) (o := .cells #[.int .i64 0,.int .i64 0,.slice none 0 0] 54 (0,0)) (by (with_reducible repeat (first|refine blk_drewN ?_ _|refine blk_drew ?_|refine blk_alloc ?_ _));exact BK177.out) hb);have n2_:=Aside0.mk (below_step (by repeat (first|(with_reducible first|exact HB.out|apply below_alloc|apply pw_below_drewN|apply below_drew1|refine below_set ?_ GE177.out)|exact HB.out)) hb);clear BK177;clear HB;have HO182:=n0_;have BK177:=n1_;have HB:=n2_;clear n0_ n1_ n2_;(try clear hb);(try clear hb2);(try clear hk);(try clear hi);(try clear ho0);have hcz10_0:w9.cell? ⟨gb177,0,none⟩=some (.int .i64 0):=(blk_cell BK177.out 0).trans rfl;have hcz10_1:w9.cell? ⟨gb177,1,none⟩=some (.int .i64 0):=(blk_cell BK177.out 1).trans rfl;have hcz10_2:w9.cell? ⟨gb177,2,none⟩=some (.slice none 0 0):=(blk_cell BK177.out 2).trans rfl;have hfz10_0:=blk_frozen BK177.out 0;have hfz10_1:=blk_frozen BK177.out 1;have hfz10_2:=blk_frozen BK177.out 2;obtain ⟨Ao11,co11,eo11⟩:=Kd.R_slice HO182.out;subst eo11))
    refine bodyPost_ret (results_ctt rfl _ _ gb177 54 #[.int .i64 t178,.int .i64 t179,.slice Ao11 t180.length co11] (0,0) _ rfl (by (with_reducible repeat (first|refine blk_drewN ?_ _|refine blk_drew ?_|refine blk_alloc ?_ _));refine blk_put (cs:=#[.int .i64 t178,.int .i64 t179,.slice Ao11 t180.length co11]) ?_ 2 _ rfl;(with_reducible repeat (first|refine blk_drewN ?_ _|refine blk_drew ?_|refine blk_alloc ?_ _));refine blk_put (cs:=#[.int .i64 t178,.int .i64 t179,.slice Ao11 t180.length co11]) ?_ 1 _ rfl;(with_reducible repeat (first|refine blk_drewN ?_ _|refine blk_drew ?_|refine blk_alloc ?_ _));refine blk_put (cs:=#[.int .i64 t178,.int .i64 t179,.slice Ao11 t180.length co11]) ?_ 0 _ rfl;(with_reducible repeat (first|refine blk_drewN ?_ _|refine blk_drew ?_|refine blk_alloc ?_ _));refine blk_put (cs:=#[.int .i64 t178,.int .i64 t179,.slice none 0 0]) ?_ 2 _ rfl;(with_reducible repeat (first|refine blk_drewN ?_ _|refine blk_drew ?_|refine blk_alloc ?_ _));refine blk_put (cs:=#[.int .i64 t178,.int .i64 0,.slice none 0 0]) ?_ 1 _ rfl;(with_reducible repeat (first|refine blk_drewN ?_ _|refine blk_drew ?_|refine blk_alloc ?_ _));refine blk_put (cs:=#[.int .i64 0,.int .i64 0,.slice none 0 0]) ?_ 0 _ rfl;(with_reducible repeat (first|refine blk_drewN ?_ _|refine blk_drew ?_|refine blk_alloc ?_ _));exact BK177.out) Try.underlying54 rfl (by kernel_rfl)) rfl ?_
    exact ⟨_,by first|rfl|(simp [errW_none,errW_some]<;>rfl)|(simp [*,errW_none,errW_some]<;>rfl),by (with_reducible repeat (first|apply Kd.R_alloc|apply Kd.R_drewN|apply Kd.R_drew));exact Kd.R_mono (Kd.R_far (p:=⟨gb177,2,none⟩) (Kd.R_far (p:=⟨gb177,1,none⟩) (Kd.R_far (p:=⟨gb177,0,none⟩) (Kd.R_far (p:=⟨gb177,2,none⟩) (Kd.R_far (p:=⟨gb177,1,none⟩) (Kd.R_far (p:=⟨gb177,0,none⟩) (Kd.R_types HO182.out BK177.out (by decide)) (fun _ hk=>hk.2) (.int .i64 t178)) (fun _ hk=>hk.2) (.int .i64 t179)) (fun _ hk=>hk.2) (.slice Ao11 t180.length co11)) (fun _ hk=>hk.2) (.int .i64 t178)) (fun _ hk=>hk.2) (.int .i64 t179)) (fun _ hk=>hk.2) (.slice Ao11 t180.length co11)) (fun _ hk=>trivial),by repeat (first|(with_reducible first|exact HB.out|apply below_alloc|apply pw_below_drewN|apply below_drew1|refine below_set ?_ GE177.out)|exact HB.out)⟩
def frame_Begins.f (k:Nat) (l0:List Int):Option (Bool):=(frame_look.f k l0).bind fun bt185=>(some bt185.2.2.2.2)
set_option maxHeartbeats 8000000 in
set_option maxRecDepth 100000 in
theorem frame_Begins.calls (k:Nat) (A0:Option Addr) (c0:Nat) (l0:List Int) (r:Bool) (w:World) (hr0:Kd.C (Kd.int .u8) w A0 l0.length l0) (hc0:l0.length≤c0) (h:frame_Begins.f k l0=some r) :
    Calls Try.prog 37 #[.slice A0 l0.length c0] w fun e w'=>e = .returned (.bool r)∧Below w.heap.size w w':=by
  have hu54:=Try.underlying54
  have HR0:=Aside0.mk hr0
  have HC0:=Aside0.mk hc0
  clear hr0 hc0
  have HB:=Aside0.mk (Below.refl w.heap.size w)
  have H:((frame_look.f k l0).bind fun bt185=>(some bt185.2.2.2.2))=some r:=h
  clear h
  replace H:=Option.bind_eq_some_iff.mp H
  obtain ⟨⟨t185,t186,t187,t190,t191⟩,A20,H⟩:=H
  replace H:(some t191)=some r:=H
  have A2:=Aside0.mk A20
  clear A20
  obtain rfl:=Option.some.inj H
  go_enter Try.func37,Try.ntmps37
  go_wp2_with (first|((with_reducible refine gate_callee (f:=83) rfl ?_);refine goesL_ (some 8) rfl rfl Try.func83 (by kernel_rfl) rfl #[.slice A0 l0.length c0] rfl (by (try simp only [List.map_toArray,List.map_cons,List.map_nil]);first|done|rfl|(simp only [List.length_drop,List.length_take];rfl)) ?_;(with_reducible refine (frame_look.calls k _ _ l0 t185 t186 t187 t190 t191 _ ?side1 ?side2 A2.out).mono ?_);(case side1=>repeat (first|exact HR0.out|(with_reducible refine Kd.C_alloc ?_ _)|(with_reducible refine Kd.C_drewN ?_ _)|(with_reducible refine Kd.C_drew ?_)));(case side2=>exact HC0.out);rintro e w3 ⟨v188,rfl,ho0,hb⟩;refine ⟨_,rfl,?_⟩;have n0_:=Aside0.mk (Kd.R_lower ho0 (below_size (by repeat (first|(with_reducible first|exact HB.out|apply below_alloc|apply pw_below_drewN|apply below_drew1)|exact HB.out))));have n1_:=Aside0.mk (below_step (by repeat (first|(with_reducible first|exact HB.out|apply below_alloc|apply pw_below_drewN|apply below_drew1)|exact HB.out)) hb);clear HB;have HO189:=n0_;have HB:=n1_;clear n0_ n1_;(try clear hb);(try clear hb2);(try clear hk);(try clear hi);(try clear ho0))|((with_reducible refine gate_dst (N:=3) rfl ?_);refine box_event ?hg (N:=3) ?hd (cs:=#[.int .i64 0,.int .i64 0,.slice none 0 0]) (t:=54) ?hr ?_;(case hd=>rfl);(case hg=>rfl);(case hr=>first|(go_simp;done)|(go_simp;rfl));intro gb192 hg w4 hbox hb;have n0_:=Aside0.mk (Kd.R_below (by (with_reducible repeat (first|apply Kd.R_alloc|apply Kd.R_drewN|apply Kd.R_drew));exact HO189.out) hb);have n1_:=Aside0.mk (below_step (by repeat (first|(with_reducible first|exact HB.out|apply below_alloc|apply pw_below_drewN|apply below_drew1)|exact HB.out)) hb);have n2_:=Aside0.mk (hbox);have n3_:=Aside0.mk ((by rw [hg];exact (below_size (by repeat (first|(with_reducible first|exact HB.out|apply below_alloc|apply pw_below_drewN|apply below_drew1)|exact HB.out))):w.heap.size≤gb192));have n4_:=Aside0.mk ((by rw [hg];exact (below_size (by repeat (first|(with_reducible first|exact HB.out|apply below_alloc|apply pw_below_drewN|apply below_drew1)|exact HB.out))):w.heap.size≤gb192));clear HO189;clear HB;have HO189:=n0_;have HB:=n1_;have BK192:=n2_;have GW192:=n3_;have GE192:=n4_;clear n0_ n1_ n2_ n3_ n4_;clear hb hbox hg;have hcz5_0:w4.cell? ⟨gb192,0,none⟩=some (.int .i64 0):=(blk_cell BK192.out 0).trans rfl;have hcz5_1:w4.cell? ⟨gb192,1,none⟩=some (.int .i64 0):=(blk_cell BK192.out 1).trans rfl;have hcz5_2:w4.cell? ⟨gb192,2,none⟩=some (.slice none 0 0):=(blk_cell BK192.out 2).trans rfl;have hfz5_0:=blk_frozen BK192.out 0;have hfz5_1:=blk_frozen BK192.out 1;have hfz5_2:=blk_frozen BK192.out 2;obtain ⟨Ao6,co6,eo6⟩:=Kd.R_slice HO189.out;subst eo6))
  go_ret
  exact ⟨by first|rfl|(simp [errW_none,errW_some]<;>rfl)|(simp [*,errW_none,errW_some]<;>rfl),by repeat (first|(with_reducible first|exact HB.out|apply below_alloc|apply pw_below_drewN|apply below_drew1|refine below_set ?_ GE192.out)|exact HB.out)⟩
def gimbalref0_EqBytes.l0:Nat→List Int→List Int→Int→Option (Bool)
  | 0,_,_,_=>none
  | k+1,x0,x1,x5=>if x5<(x0.length:Int) then (if 0≤x5 then (if x5<(x1.length:Int) then (if (rd x0 x5)=(rd x1 x5) then (gimbalref0_EqBytes.l0 k x0 x1 (wrap64 (x5+1))) else (some false)) else (none)) else (none)) else (some true)
def gimbalref0_EqBytes.f (k:Nat) (l0:List Int) (l1:List Int):Option (Bool):=if (l0.length:Int)=(l1.length:Int) then (gimbalref0_EqBytes.l0 k l0 l1 0) else (some false)
set_option maxHeartbeats 8000000 in
set_option maxRecDepth 100000 in
theorem gimbalref0_EqBytes.calls (k:Nat) (A0:Option Addr) (c0:Nat) (l0:List Int) (A1:Option Addr) (c1:Nat) (l1:List Int) (r:Bool) (w:World) (hr0:Kd.C (Kd.int .u8) w A0 l0.length l0) (hc0:l0.length≤c0) (hr1:Kd.C (Kd.int .u8) w A1 l1.length l1) (hc1:l1.length≤c1) (h:gimbalref0_EqBytes.f k l0 l1=some r) :
    Calls Try.prog 21 #[.slice A0 l0.length c0,.slice A1 l1.length c1] w fun e w'=>e = .returned (.bool r)∧Drawn0 w w':=by
  have HR0:=Aside0.mk hr0
  have HC0:=Aside0.mk hc0
  clear hr0 hc0
  have HR1:=Aside0.mk hr1
  have HC1:=Aside0.mk hc1
  clear hr1 hc1
  have H:(if (l0.length:Int)=(l1.length:Int) then (gimbalref0_EqBytes.l0 k l0 l1 0) else (some false))=some r:=h
  clear h
  by_cases c3:(l0.length:Int)=(l1.length:Int)
  · rw [if_pos c3] at H
    have c3b0:((l0.length:Int) == (l1.length:Int))=true:=beq_iff_eq.mpr c3
    have c3b1:((l0.length:Int) != (l1.length:Int))=false:=bne_eq_false_iff_eq.mpr c3
    have c3b2:(l0.length == l1.length)=true:=by first|simpa using c3|(simp at c3 ⊢;omega)
    clear c3
    have H':=Aside0.mk H
    clear H
    go_enter Try.func21,Try.ntmps21
    go_wp2
    repeat (go_quiet (fail);try go_wp2)
    go_loopg [5] k (fun kq v5 w'=>∃ (x5_1:Int),v5 = .int .i64 x5_1∧Aside0 (gimbalref0_EqBytes.l0 kq l0 l1 x5_1=some r)∧Aside0 (kq≤k)∧Drawn0 w w')
    case atStart=>exact ⟨(0),(by first|rfl|(simp;done)|(simp [*];done)),H',⟨Nat.le_refl _⟩,by repeat (first|exact Drawn0.refl _|apply Drawn0.step)⟩
    case round =>
      clear H'
      try clear c1
      try clear c2
      try clear p2
      try clear c3
      try clear c3b0
      try clear c3b1
      try clear c3b2
      obtain ⟨x5_1,rfl,HA,HK1,⟨m1,rfl⟩⟩:=hrel
      cases gk with
      | zero=>exact absurd HA.out (by simp [gimbalref0_EqBytes.l0])
      | succ k1 =>
        have H:=HA.out
        clear HA
        simp only [gimbalref0_EqBytes.l0] at H
        by_cases c4:x5_1<(l0.length:Int)
        · rw [if_pos c4] at H
          have c4b0:decide (x5_1<(l0.length:Int))=true:=decide_eq_true c4
          clear c4
          by_cases c5:0≤x5_1
          · rw [if_pos c5] at H
            have c5b0:decide (0≤x5_1)=true:=decide_eq_true c5
            clear c5
            by_cases c6:x5_1<(l1.length:Int)
            · rw [if_pos c6] at H
              have c6b0:decide (x5_1<(l1.length:Int))=true:=decide_eq_true c6
              clear c6
              by_cases c7:(rd l0 x5_1)=(rd l1 x5_1)
              · rw [if_pos c7] at H
                have c7b0:((rd l0 x5_1) == (rd l1 x5_1))=true:=beq_iff_eq.mpr c7
                have c7b1:((rd l0 x5_1) != (rd l1 x5_1))=false:=bne_eq_false_iff_eq.mpr c7
                clear c7
                have H':=Aside0.mk H
                clear H
                have p193:0≤(x5_1:Int):=of_decide_eq_true (by first|(with_reducible assumption)|assumption)
                have q193:x5_1<(l0.length:Int):=of_decide_eq_true (by first|(with_reducible assumption)|assumption)
                obtain ⟨ad193,e193,hx193_0⟩:=Kd.at_int HR0.out x5_1 p193 q193
                cases e193
                replace p193:=eq_true p193
                replace q193:=eq_true q193
                have p194:0≤(x5_1:Int):=of_decide_eq_true (by first|(with_reducible assumption)|assumption)
                have q194:x5_1<(l1.length:Int):=of_decide_eq_true (by first|(with_reducible assumption)|assumption)
                obtain ⟨ad194,e194,hx194_0⟩:=Kd.at_int HR1.out x5_1 p194 q194
                cases e194
                replace p194:=eq_true p194
                replace q194:=eq_true q194
                go_wp2
                repeat (go_quiet (fail);try go_wp2)
                go_roundg k1
                case measure=>have:=HK1.out;omega
                case rel=>exact ⟨(wrap64 (x5_1+1)),(by first|rfl|(simp;done)|(simp [*];done)),H',⟨by have:=HK1.out;omega⟩,by repeat (first|exact Drawn0.refl _|apply Drawn0.step)⟩
              · rw [if_neg c7] at H
                have c7b0:((rd l0 x5_1) == (rd l1 x5_1))=false:=beq_eq_false_iff_ne.mpr c7
                have c7b1:((rd l0 x5_1) != (rd l1 x5_1))=true:=bne_iff_ne.mpr c7
                obtain rfl:=Option.some.inj H
                have p193:0≤(x5_1:Int):=of_decide_eq_true (by first|(with_reducible assumption)|assumption)
                have q193:x5_1<(l0.length:Int):=of_decide_eq_true (by first|(with_reducible assumption)|assumption)
                obtain ⟨ad193,e193,hx193_0⟩:=Kd.at_int HR0.out x5_1 p193 q193
                cases e193
                replace p193:=eq_true p193
                replace q193:=eq_true q193
                have p194:0≤(x5_1:Int):=of_decide_eq_true (by first|(with_reducible assumption)|assumption)
                have q194:x5_1<(l1.length:Int):=of_decide_eq_true (by first|(with_reducible assumption)|assumption)
                obtain ⟨ad194,e194,hx194_0⟩:=Kd.at_int HR1.out x5_1 p194 q194
                cases e194
                replace p194:=eq_true p194
                replace q194:=eq_true q194
                go_wp2
                repeat (go_quiet (fail);try go_wp2)
                go_ret
                exact ⟨by first|rfl|(simp;done)|(simp [*];done),by repeat (first|exact Drawn0.refl _|apply Drawn0.step)⟩
            · rw [if_neg c6] at H
              exact absurd H (by simp)
          · rw [if_neg c5] at H
            exact absurd H (by simp)
        · rw [if_neg c4] at H
          have c4b0:decide (x5_1<(l0.length:Int))=false:=decide_eq_false c4
          clear c4
          obtain rfl:=Option.some.inj H
          go_wp2
          repeat (go_quiet (fail);try go_wp2)
          go_ret
          exact ⟨by first|rfl|(simp;done)|(simp [*];done),by repeat (first|exact Drawn0.refl _|apply Drawn0.step)⟩
  · rw [if_neg c3] at H
    have c3b0:((l0.length:Int) == (l1.length:Int))=false:=beq_eq_false_iff_ne.mpr c3
    have c3b1:((l0.length:Int) != (l1.length:Int))=true:=bne_iff_ne.mpr c3
    have c3b2:(l0.length == l1.length)=false:=by first|simpa using c3|(simp at c3 ⊢;omega)
    obtain rfl:=Option.some.inj H
    go_enter Try.func21,Try.ntmps21
    go_wp2
    repeat (go_quiet (fail);try go_wp2)
    go_ret
    exact ⟨by first|rfl|(simp;done)|(simp [*];done),by repeat (first|exact Drawn0.refl _|apply Drawn0.step)⟩
def gimbalref0_CopyBytes.l0:Nat→List Int→List Int→Int→Option (List Int)
  | 0,_,_,_=>none
  | k+1,x0,x3,x4=>if x4<(x0.length:Int) then (if 0≤x4 then (if x3.length<140737488355328 then (gimbalref0_CopyBytes.l0 k x0 (x3++[rd x0 x4]) (wrap64 (x4+1))) else (none)) else (none)) else (some x3)
def gimbalref0_CopyBytes.f (k:Nat) (l0:List Int):Option (List Int):=gimbalref0_CopyBytes.l0 k l0 ([]:List Int) 0
set_option maxHeartbeats 8000000 in
set_option maxRecDepth 100000 in
theorem gimbalref0_CopyBytes.calls (k:Nat) (A0:Option Addr) (c0:Nat) (l0:List Int) (r:List Int) (w:World) (hr0:Kd.C (Kd.int .u8) w A0 l0.length l0) (hc0:l0.length≤c0) (h:gimbalref0_CopyBytes.f k l0=some r) :
    Calls Try.prog 26 #[.slice A0 l0.length c0] w fun e w'=>∃ v0_:Value,e = .returned (v0_)∧Kd.R (Kd.int .u8) 5 w' w.heap.size (fun _=>True) v0_ r∧Below w.heap.size w w':=by
  have HR0:=Aside0.mk hr0
  have HC0:=Aside0.mk hc0
  clear hr0 hc0
  have HB:=Aside0.mk (Below.refl w.heap.size w)
  have H:(gimbalref0_CopyBytes.l0 k l0 ([]:List Int) 0)=some r:=h
  clear h
  have H':=Aside0.mk H
  clear H
  go_enter Try.func26,Try.ntmps26
  go_wp2
  go_loopg [3,4] k (fun kq v3 v4 w'=>∃ (x3_1:List Int) (x4_1:Int),v4 = .int .i64 x4_1∧Aside0 (gimbalref0_CopyBytes.l0 kq l0 x3_1 x4_1=some r)∧Aside0 (kq≤k)∧Aside0 (Kd.R (Kd.int .u8) 5 w' w.heap.size (fun _=>True) v3 x3_1)∧Aside0 (Below w.heap.size w w'))
  case atStart=>exact ⟨(([]:List Int)),(0),(by first|rfl|(simp;done)|(simp [*];done)),H',⟨Nat.le_refl _⟩,⟨by first|exact Kd.R_nil _ _ _ _ _|exact Kd.N_nil _ _ _ _ _|exact Kd.V_nil _ _ _ _ _|exact Kd.Q_nil _ _ _ _ _|exact Kd.S_nil _ _ _ _ _⟩,⟨by repeat (first|(with_reducible first|exact HB.out|apply below_alloc|apply pw_below_drewN|apply below_drew1)|exact HB.out)⟩⟩
  case round =>
    clear H'
    obtain ⟨x3_1,x4_1,rfl,HA,HK1,HO_3,HB⟩:=hrel
    cases gk with
    | zero=>exact absurd HA.out (by simp [gimbalref0_CopyBytes.l0])
    | succ k1 =>
      have H:=HA.out
      clear HA
      simp only [gimbalref0_CopyBytes.l0] at H
      by_cases c2:x4_1<(l0.length:Int)
      · rw [if_pos c2] at H
        have c2b0:decide (x4_1<(l0.length:Int))=true:=decide_eq_true c2
        clear c2
        by_cases c3:0≤x4_1
        · rw [if_pos c3] at H
          have c3b0:decide (0≤x4_1)=true:=decide_eq_true c3
          clear c3
          by_cases c4:x3_1.length<140737488355328
          · rw [if_pos c4] at H
            have LMc4:=Aside0.mk c4
            clear c4
            obtain ⟨y196,hy196⟩:∃ y_:List Int,y_=(x3_1++[rd l0 x4_1]):=⟨_,rfl⟩
            replace H:(gimbalref0_CopyBytes.l0 k1 l0 y196 (wrap64 (x4_1+1)))=some r:=by first|(rw [hy196];with_reducible exact H)|(have H2_:=(Option.bind_some _ _).symm.trans H;rw [hy196];with_reducible exact H2_)|(have H2_:=(Option.bind_some _ _).symm.trans H;with_reducible exact H2_)|with_reducible exact H|(rw [hy196];exact H)|exact H
            have Ny196:=Aside0.mk hy196
            clear hy196
            have H':=Aside0.mk H
            clear H
            have p195:0≤(x4_1:Int):=of_decide_eq_true (by first|(with_reducible assumption)|assumption)
            have q195:x4_1<(l0.length:Int):=of_decide_eq_true (by first|(with_reducible assumption)|assumption)
            obtain ⟨ad195,e195,hx195_0⟩:=Kd.at_int HR0.out x4_1 p195 q195
            cases e195
            replace hx195_0:=(HB.out.cell (World.block_lt_of_cell? w _ hx195_0)).trans hx195_0
            replace p195:=eq_true p195
            replace q195:=eq_true q195
            go_wp2_with (first|((with_reducible refine gate_builtin (b := .append) (xs:=#[.tmp 11,.tmp 16]) rfl ?_);at_builtin;refine Kd.R_append (Kd.int .u8) (w0:=w) w.heap.size rfl (.tmp 11) (.tmp 16) 25 5 (.int .u8 0) 1 rfl Try.underlying25 info5 rfl (by decide) (by omega) u3 x3_1 (rd l0 x4_1) [.int .u8 (rd l0 x4_1)] (fun _=>True) (fun _=>False) rfl rfl ?aP (fun _ hk=>hk.elim) ?aF ?aO ?aB ?aS ?aL ?_;(case aP=>exact rfl);(case aB=>exact (by repeat (first|(with_reducible first|exact HB.out|apply below_alloc|apply pw_below_drewN|apply below_drew1)|exact HB.out)));(case aF=>exact (fun _ _=>trivial));(case aO=>exact (by (with_reducible repeat (first|apply Kd.R_alloc|apply Kd.R_drewN|apply Kd.R_drew));exact HO_3.out));(case aS=>exact (below_size (by repeat (first|(with_reducible first|exact HB.out|apply below_alloc|apply pw_below_drewN|apply below_drew1)|exact HB.out))));(case aL=>have:=LMc4.out;omega);intro v197 w5 ho hb hg hat;rw [← Ny196.out] at ho;have n0_:=Aside0.mk (hb);have n1_:=Aside0.mk (ho);clear HB;clear HO_3;have HB:=n0_;have HO198:=n1_;clear n0_ n1_;clear ho hb hg hat))
            go_roundg k1
            case measure=>have:=HK1.out;omega
            case rel=>exact ⟨(y196),(wrap64 (x4_1+1)),(by first|rfl|(simp;done)|(simp [*];done)),H',⟨by have:=HK1.out;omega⟩,⟨by (with_reducible repeat (first|apply Kd.R_alloc|apply Kd.R_drewN|apply Kd.R_drew));exact HO198.out⟩,⟨by repeat (first|(with_reducible first|exact HB.out|apply below_alloc|apply pw_below_drewN|apply below_drew1)|exact HB.out)⟩⟩
          · rw [if_neg c4] at H
            exact absurd H (by simp)
        · rw [if_neg c3] at H
          exact absurd H (by simp)
      · rw [if_neg c2] at H
        have c2b0:decide (x4_1<(l0.length:Int))=false:=decide_eq_false c2
        clear c2
        obtain rfl:=Option.some.inj H
        go_wp2
        go_ret
        exact ⟨_,by first|rfl|(simp [errW_none,errW_some]<;>rfl)|(simp [*,errW_none,errW_some]<;>rfl),by (with_reducible repeat (first|apply Kd.R_alloc|apply Kd.R_drewN|apply Kd.R_drew));exact HO_3.out,by repeat (first|(with_reducible first|exact HB.out|apply below_alloc|apply pw_below_drewN|apply below_drew1)|exact HB.out)⟩
def gimbalref0_EqFrame.f (k:Nat) (a0_0:Int) (a0_1:Int) (l0_2:List Int) (a1_0:Int) (a1_1:Int) (l1_2:List Int):Option (Bool):=if a0_0=a1_0 then (if a0_1=a1_1 then ((gimbalref0_EqBytes.f k l0_2 l1_2).bind fun t201=>(some t201)) else (some false)) else (some false)
set_option maxHeartbeats 8000000 in
set_option maxRecDepth 100000 in
theorem gimbalref0_EqFrame.calls (k:Nat) (a0_0:Int) (a0_1:Int) (A0_2:Option Addr) (c0_2:Nat) (l0_2:List Int) (a1_0:Int) (a1_1:Int) (A1_2:Option Addr) (c1_2:Nat) (l1_2:List Int) (r:Bool) (w:World) (hr0_2:Kd.C (Kd.int .u8) w A0_2 l0_2.length l0_2) (hc0_2:l0_2.length≤c0_2) (hr1_2:Kd.C (Kd.int .u8) w A1_2 l1_2.length l1_2) (hc1_2:l1_2.length≤c1_2) (h:gimbalref0_EqFrame.f k a0_0 a0_1 l0_2 a1_0 a1_1 l1_2=some r) :
    Calls Try.prog 34 #[.agg #[.int .i64 a0_0,.int .i64 a0_1,.slice A0_2 l0_2.length c0_2],.agg #[.int .i64 a1_0,.int .i64 a1_1,.slice A1_2 l1_2.length c1_2]] w fun e w'=>e = .returned (.bool r)∧Below w.heap.size w w':=by
  have hu54:=Try.underlying54
  have HR0_2:=Aside0.mk hr0_2
  have HC0_2:=Aside0.mk hc0_2
  clear hr0_2 hc0_2
  have HR1_2:=Aside0.mk hr1_2
  have HC1_2:=Aside0.mk hc1_2
  clear hr1_2 hc1_2
  have HB:=Aside0.mk (Below.refl w.heap.size w)
  have H:(if a0_0=a1_0 then (if a0_1=a1_1 then ((gimbalref0_EqBytes.f k l0_2 l1_2).bind fun t201=>(some t201)) else (some false)) else (some false))=some r:=h
  clear h
  by_cases c3:a0_0=a1_0
  · rw [if_pos c3] at H
    have c3b0:(a0_0 == a1_0)=true:=beq_iff_eq.mpr c3
    have c3b1:(a0_0 != a1_0)=false:=bne_eq_false_iff_eq.mpr c3
    clear c3
    by_cases c4:a0_1=a1_1
    · rw [if_pos c4] at H
      have c4b0:(a0_1 == a1_1)=true:=beq_iff_eq.mpr c4
      have c4b1:(a0_1 != a1_1)=false:=bne_eq_false_iff_eq.mpr c4
      clear c4
      replace H:=Option.bind_eq_some_iff.mp H
      obtain ⟨t201,A50,H⟩:=H
      replace H:(some t201)=some r:=H
      have A5:=Aside0.mk A50
      clear A50
      obtain rfl:=Option.some.inj H
      go_enter Try.func34,Try.ntmps34
      go_wp2_with (first|((with_reducible refine gate_dst (N:=2) rfl ?_);refine box_event ?hg (N:=2) ?hd (cs:=#[.int .i64 a0_0,.int .i64 a0_1,.slice A0_2 l0_2.length c0_2]) (t:=54) ?hr ?_;(case hd=>rfl);(case hg=>rfl);(case hr=>first|(go_simp;done)|(go_simp;rfl));intro gb199 hg w6 hbox hb;have n0_:=Aside0.mk (below_step (by repeat (first|(with_reducible first|exact HB.out|apply below_alloc|apply pw_below_drewN|apply below_drew1)|exact HB.out)) hb);have n1_:=Aside0.mk (hbox);have n2_:=Aside0.mk ((by rw [hg];exact (below_size (by repeat (first|(with_reducible first|exact HB.out|apply below_alloc|apply pw_below_drewN|apply below_drew1)|exact HB.out))):w.heap.size≤gb199));have n3_:=Aside0.mk ((by rw [hg];exact (below_size (by repeat (first|(with_reducible first|exact HB.out|apply below_alloc|apply pw_below_drewN|apply below_drew1)|exact HB.out))):w.heap.size≤gb199));clear HB;have HB:=n0_;have BK199:=n1_;have GW199:=n2_;have GE199:=n3_;clear n0_ n1_ n2_ n3_;clear hb hbox hg)|((with_reducible refine gate_dst (N:=3) rfl ?_);refine box_event ?hg (N:=3) ?hd (cs:=#[.int .i64 a1_0,.int .i64 a1_1,.slice A1_2 l1_2.length c1_2]) (t:=54) ?hr ?_;(case hd=>rfl);(case hg=>rfl);(case hr=>first|(go_simp;done)|(go_simp;rfl));intro gb200 hg w7 hbox hb;have n0_:=Aside0.mk (blk_below (g:=gb199) (o := .cells #[.int .i64 a0_0,.int .i64 a0_1,.slice A0_2 l0_2.length c0_2] 54 (0,0)) (by (with_reducible repeat (first|refine blk_drewN ?_ _|refine blk_drew ?_|refine blk_alloc ?_ _));exact BK199.out) hb);have n1_:=Aside0.mk (below_step (by repeat (first|(with_reducible first|exact HB.out|apply below_alloc|apply pw_below_drewN|apply below_drew1|refine below_set ?_ GE199.out)|exact HB.out)) hb);have n2_:=Aside0.mk (hbox);have n3_:=Aside0.mk ((by rw [hg];exact (below_size (by repeat (first|(with_reducible first|exact HB.out|apply below_alloc|apply pw_below_drewN|apply below_drew1|refine below_set ?_ GE199.out)|exact HB.out))):w.heap.size≤gb200));have n4_:=Aside0.mk ((by rw [hg];exact (below_size (by repeat (first|(with_reducible first|exact HB.out|apply below_alloc|apply pw_below_drewN|apply below_drew1|refine below_set ?_ GE199.out)|exact HB.out))):w.heap.size≤gb200));have n5_:=Aside0.mk ((by rw [hg];exact Nat.ne_of_lt (blk_lt (g:=gb199) (o := .cells #[.int .i64 a0_0,.int .i64 a0_1,.slice A0_2 l0_2.length c0_2] 54 (0,0)) (by (with_reducible repeat (first|refine blk_drewN ?_ _|refine blk_drew ?_|refine blk_alloc ?_ _));exact BK199.out)):gb199≠gb200));have n6_:=Aside0.mk ((by rw [hg];exact Nat.ne_of_gt (blk_lt (g:=gb199) (o := .cells #[.int .i64 a0_0,.int .i64 a0_1,.slice A0_2 l0_2.length c0_2] 54 (0,0)) (by (with_reducible repeat (first|refine blk_drewN ?_ _|refine blk_drew ?_|refine blk_alloc ?_ _));exact BK199.out)):gb200≠gb199));clear BK199;clear HB;have BK199:=n0_;have HB:=n1_;have BK200:=n2_;have GW200:=n3_;have GE200:=n4_;have NB199_200:=n5_;have NB200_199:=n6_;clear n0_ n1_ n2_ n3_ n4_ n5_ n6_;clear hb hbox hg;have hnb8:=NB199_200.out;have hnc8:=NB200_199.out;have hcz9_0:w7.cell? ⟨gb199,0,none⟩=some (.int .i64 a0_0):=(blk_cell BK199.out 0).trans rfl;have hcz9_1:w7.cell? ⟨gb199,1,none⟩=some (.int .i64 a0_1):=(blk_cell BK199.out 1).trans rfl;have hcz9_2:w7.cell? ⟨gb199,2,none⟩=some (.slice A0_2 l0_2.length c0_2):=(blk_cell BK199.out 2).trans rfl;have hfz9_0:=blk_frozen BK199.out 0;have hfz9_1:=blk_frozen BK199.out 1;have hfz9_2:=blk_frozen BK199.out 2;have hcz10_0:w7.cell? ⟨gb200,0,none⟩=some (.int .i64 a1_0):=(blk_cell BK200.out 0).trans rfl;have hcz10_1:w7.cell? ⟨gb200,1,none⟩=some (.int .i64 a1_1):=(blk_cell BK200.out 1).trans rfl;have hcz10_2:w7.cell? ⟨gb200,2,none⟩=some (.slice A1_2 l1_2.length c1_2):=(blk_cell BK200.out 2).trans rfl;have hfz10_0:=blk_frozen BK200.out 0;have hfz10_1:=blk_frozen BK200.out 1;have hfz10_2:=blk_frozen BK200.out 2)|(go_at_call 21;(with_reducible refine (gimbalref0_EqBytes.calls k _ _ l0_2 _ _ l1_2 t201 _ ?side1 ?side2 ?side3 ?side4 A5.out).mono ?_);(case side1=>repeat (first|exact (Kd.C_below HR0_2.out HB.out)|(with_reducible refine Kd.C_alloc ?_ _)|(with_reducible refine Kd.C_drewN ?_ _)|(with_reducible refine Kd.C_drew ?_)));(case side2=>exact HC0_2.out);(case side3=>repeat (first|exact (Kd.C_below HR1_2.out HB.out)|(with_reducible refine Kd.C_alloc ?_ _)|(with_reducible refine Kd.C_drewN ?_ _)|(with_reducible refine Kd.C_drew ?_)));(case side4=>exact HC1_2.out);rintro e w' ⟨rfl,⟨nd,rfl⟩⟩))
      go_ret
      exact ⟨by first|rfl|(simp [errW_none,errW_some]<;>rfl)|(simp [*,errW_none,errW_some]<;>rfl),by repeat (first|(with_reducible first|exact HB.out|apply below_alloc|apply pw_below_drewN|apply below_drew1|refine below_set ?_ GE199.out|refine below_set ?_ GE200.out)|exact HB.out)⟩
    · rw [if_neg c4] at H
      have c4b0:(a0_1 == a1_1)=false:=beq_eq_false_iff_ne.mpr c4
      have c4b1:(a0_1 != a1_1)=true:=bne_iff_ne.mpr c4
      obtain rfl:=Option.some.inj H
      go_enter Try.func34,Try.ntmps34
      go_wp2_with (first|((with_reducible refine gate_dst (N:=2) rfl ?_);refine box_event ?hg (N:=2) ?hd (cs:=#[.int .i64 a0_0,.int .i64 a0_1,.slice A0_2 l0_2.length c0_2]) (t:=54) ?hr ?_;(case hd=>rfl);(case hg=>rfl);(case hr=>first|(go_simp;done)|(go_simp;rfl));intro gb199 hg w11 hbox hb;have n0_:=Aside0.mk (below_step (by repeat (first|(with_reducible first|exact HB.out|apply below_alloc|apply pw_below_drewN|apply below_drew1)|exact HB.out)) hb);have n1_:=Aside0.mk (hbox);have n2_:=Aside0.mk ((by rw [hg];exact (below_size (by repeat (first|(with_reducible first|exact HB.out|apply below_alloc|apply pw_below_drewN|apply below_drew1)|exact HB.out))):w.heap.size≤gb199));have n3_:=Aside0.mk ((by rw [hg];exact (below_size (by repeat (first|(with_reducible first|exact HB.out|apply below_alloc|apply pw_below_drewN|apply below_drew1)|exact HB.out))):w.heap.size≤gb199));clear HB;have HB:=n0_;have BK199:=n1_;have GW199:=n2_;have GE199:=n3_;clear n0_ n1_ n2_ n3_;clear hb hbox hg)|((with_reducible refine gate_dst (N:=3) rfl ?_);refine box_event ?hg (N:=3) ?hd (cs:=#[.int .i64 a1_0,.int .i64 a1_1,.slice A1_2 l1_2.length c1_2]) (t:=54) ?hr ?_;(case hd=>rfl);(case hg=>rfl);(case hr=>first|(go_simp;done)|(go_simp;rfl));intro gb200 hg w12 hbox hb;have n0_:=Aside0.mk (blk_below (g:=gb199) (o := .cells #[.int .i64 a0_0,.int .i64 a0_1,.slice A0_2 l0_2.length c0_2] 54 (0,0)) (by (with_reducible repeat (first|refine blk_drewN ?_ _|refine blk_drew ?_|refine blk_alloc ?_ _));exact BK199.out) hb);have n1_:=Aside0.mk (below_step (by repeat (first|(with_reducible first|exact HB.out|apply below_alloc|apply pw_below_drewN|apply below_drew1|refine below_set ?_ GE199.out)|exact HB.out)) hb);have n2_:=Aside0.mk (hbox);have n3_:=Aside0.mk ((by rw [hg];exact (below_size (by repeat (first|(with_reducible first|exact HB.out|apply below_alloc|apply pw_below_drewN|apply below_drew1|refine below_set ?_ GE199.out)|exact HB.out))):w.heap.size≤gb200));have n4_:=Aside0.mk ((by rw [hg];exact (below_size (by repeat (first|(with_reducible first|exact HB.out|apply below_alloc|apply pw_below_drewN|apply below_drew1|refine below_set ?_ GE199.out)|exact HB.out))):w.heap.size≤gb200));have n5_:=Aside0.mk ((by rw [hg];exact Nat.ne_of_lt (blk_lt (g:=gb199) (o := .cells #[.int .i64 a0_0,.int .i64 a0_1,.slice A0_2 l0_2.length c0_2] 54 (0,0)) (by (with_reducible repeat (first|refine blk_drewN ?_ _|refine blk_drew ?_|refine blk_alloc ?_ _));exact BK199.out)):gb199≠gb200));have n6_:=Aside0.mk ((by rw [hg];exact Nat.ne_of_gt (blk_lt (g:=gb199) (o := .cells #[.int .i64 a0_0,.int .i64 a0_1,.slice A0_2 l0_2.length c0_2] 54 (0,0)) (by (with_reducible repeat (first|refine blk_drewN ?_ _|refine blk_drew ?_|refine blk_alloc ?_ _));exact BK199.out)):gb200≠gb199));clear BK199;clear HB;have BK199:=n0_;have HB:=n1_;have BK200:=n2_;have GW200:=n3_;have GE200:=n4_;have NB199_200:=n5_;have NB200_199:=n6_;clear n0_ n1_ n2_ n3_ n4_ n5_ n6_;clear hb hbox hg;have hnb13:=NB199_200.out;have hnc13:=NB200_199.out;have hcz14_0:w12.cell? ⟨gb199,0,none⟩=some (.int .i64 a0_0):=(blk_cell BK199.out 0).trans rfl;have hcz14_1:w12.cell? ⟨gb199,1,none⟩=some (.int .i64 a0_1):=(blk_cell BK199.out 1).trans rfl;have hcz14_2:w12.cell? ⟨gb199,2,none⟩=some (.slice A0_2 l0_2.length c0_2):=(blk_cell BK199.out 2).trans rfl;have hfz14_0:=blk_frozen BK199.out 0;have hfz14_1:=blk_frozen BK199.out 1;have hfz14_2:=blk_frozen BK199.out 2;have hcz15_0:w12.cell? ⟨gb200,0,none⟩=some (.int .i64 a1_0):=(blk_cell BK200.out 0).trans rfl;have hcz15_1:w12.cell? ⟨gb200,1,none⟩=some (.int .i64 a1_1):=(blk_cell BK200.out 1).trans rfl;have hcz15_2:w12.cell? ⟨gb200,2,none⟩=some (.slice A1_2 l1_2.length c1_2):=(blk_cell BK200.out 2).trans rfl;have hfz15_0:=blk_frozen BK200.out 0;have hfz15_1:=blk_frozen BK200.out 1;have hfz15_2:=blk_frozen BK200.out 2))
      go_ret
      exact ⟨by first|rfl|(simp [errW_none,errW_some]<;>rfl)|(simp [*,errW_none,errW_some]<;>rfl),by repeat (first|(with_reducible first|exact HB.out|apply below_alloc|apply pw_below_drewN|apply below_drew1|refine below_set ?_ GE199.out|refine below_set ?_ GE200.out)|exact HB.out)⟩
  · rw [if_neg c3] at H
    have c3b0:(a0_0 == a1_0)=false:=beq_eq_false_iff_ne.mpr c3
    have c3b1:(a0_0 != a1_0)=true:=bne_iff_ne.mpr c3
    obtain rfl:=Option.some.inj H
    go_enter Try.func34,Try.ntmps34
    go_wp2_with (first|((with_reducible refine gate_dst (N:=2) rfl ?_);refine box_event ?hg (N:=2) ?hd (cs:=#[.int .i64 a0_0,.int .i64 a0_1,.slice A0_2 l0_2.length c0_2]) (t:=54) ?hr ?_;(case hd=>rfl);(case hg=>rfl);(case hr=>first|(go_simp;done)|(go_simp;rfl));intro gb199 hg w16 hbox hb;have n0_:=Aside0.mk (below_step (by repeat (first|(with_reducible first|exact HB.out|apply below_alloc|apply pw_below_drewN|apply below_drew1)|exact HB.out)) hb);have n1_:=Aside0.mk (hbox);have n2_:=Aside0.mk ((by rw [hg];exact (below_size (by repeat (first|(with_reducible first|exact HB.out|apply below_alloc|apply pw_below_drewN|apply below_drew1)|exact HB.out))):w.heap.size≤gb199));have n3_:=Aside0.mk ((by rw [hg];exact (below_size (by repeat (first|(with_reducible first|exact HB.out|apply below_alloc|apply pw_below_drewN|apply below_drew1)|exact HB.out))):w.heap.size≤gb199));clear HB;have HB:=n0_;have BK199:=n1_;have GW199:=n2_;have GE199:=n3_;clear n0_ n1_ n2_ n3_;clear hb hbox hg)|((with_reducible refine gate_dst (N:=3) rfl ?_);refine box_event ?hg (N:=3) ?hd (cs:=#[.int .i64 a1_0,.int .i64 a1_1,.slice A1_2 l1_2.length c1_2]) (t:=54) ?hr ?_;(case hd=>rfl);(case hg=>rfl);(case hr=>first|(go_simp;done)|(go_simp;rfl));intro gb200 hg w17 hbox hb;have n0_:=Aside0.mk (blk_below (g:=gb199) (o := .cells #[.int .i64 a0_0,.int .i64 a0_1,.slice A0_2 l0_2.length c0_2] 54 (0,0)) (by (with_reducible repeat (first|refine blk_drewN ?_ _|refine blk_drew ?_|refine blk_alloc ?_ _));exact BK199.out) hb);have n1_:=Aside0.mk (below_step (by repeat (first|(with_reducible first|exact HB.out|apply below_alloc|apply pw_below_drewN|apply below_drew1|refine below_set ?_ GE199.out)|exact HB.out)) hb);have n2_:=Aside0.mk (hbox);have n3_:=Aside0.mk ((by rw [hg];exact (below_size (by repeat (first|(with_reducible first|exact HB.out|apply below_alloc|apply pw_below_drewN|apply below_drew1|refine below_set ?_ GE199.out)|exact HB.out))):w.heap.size≤gb200));have n4_:=Aside0.mk ((by rw [hg];exact (below_size (by repeat (first|(with_reducible first|exact HB.out|apply below_alloc|apply pw_below_drewN|apply below_drew1|refine below_set ?_ GE199.out)|exact HB.out))):w.heap.size≤gb200));have n5_:=Aside0.mk ((by rw [hg];exact Nat.ne_of_lt (blk_lt (g:=gb199) (o := .cells #[.int .i64 a0_0,.int .i64 a0_1,.slice A0_2 l0_2.length c0_2] 54 (0,0)) (by (with_reducible repeat (first|refine blk_drewN ?_ _|refine blk_drew ?_|refine blk_alloc ?_ _));exact BK199.out)):gb199≠gb200));have n6_:=Aside0.mk ((by rw [hg];exact Nat.ne_of_gt (blk_lt (g:=gb199) (o := .cells #[.int .i64 a0_0,.int .i64 a0_1,.slice A0_2 l0_2.length c0_2] 54 (0,0)) (by (with_reducible repeat (first|refine blk_drewN ?_ _|refine blk_drew ?_|refine blk_alloc ?_ _));exact BK199.out)):gb200≠gb199));clear BK199;clear HB;have BK199:=n0_;have HB:=n1_;have BK200:=n2_;have GW200:=n3_;have GE200:=n4_;have NB199_200:=n5_;have NB200_199:=n6_;clear n0_ n1_ n2_ n3_ n4_ n5_ n6_;clear hb hbox hg;have hnb18:=NB199_200.out;have hnc18:=NB200_199.out;have hcz19_0:w17.cell? ⟨gb199,0,none⟩=some (.int .i64 a0_0):=(blk_cell BK199.out 0).trans rfl;have hcz19_1:w17.cell? ⟨gb199,1,none⟩=some (.int .i64 a0_1):=(blk_cell BK199.out 1).trans rfl;have hcz19_2:w17.cell? ⟨gb199,2,none⟩=some (.slice A0_2 l0_2.length c0_2):=(blk_cell BK199.out 2).trans rfl;have hfz19_0:=blk_frozen BK199.out 0;have hfz19_1:=blk_frozen BK199.out 1;have hfz19_2:=blk_frozen BK199.out 2;have hcz20_0:w17.cell? ⟨gb200,0,none⟩=some (.int .i64 a1_0):=(blk_cell BK200.out 0).trans rfl;have hcz20_1:w17.cell? ⟨gb200,1,none⟩=some (.int .i64 a1_1):=(blk_cell BK200.out 1).trans rfl;have hcz20_2:w17.cell? ⟨gb200,2,none⟩=some (.slice A1_2 l1_2.length c1_2):=(blk_cell BK200.out 2).trans rfl;have hfz20_0:=blk_frozen BK200.out 0;have hfz20_1:=blk_frozen BK200.out 1;have hfz20_2:=blk_frozen BK200.out 2))
    go_ret
    exact ⟨by first|rfl|(simp [errW_none,errW_some]<;>rfl)|(simp [*,errW_none,errW_some]<;>rfl),by repeat (first|(with_reducible first|exact HB.out|apply below_alloc|apply pw_below_drewN|apply below_drew1|refine below_set ?_ GE199.out|refine below_set ?_ GE200.out)|exact HB.out)⟩
def gimbalref0_CopyFrame.f (k:Nat) (a0_0:Int) (a0_1:Int) (l0_2:List Int):Option (Int × Int × List Int):=(gimbalref0_CopyBytes.f k l0_2).bind fun t205=>(some (a0_0,a0_1,t205))
set_option maxHeartbeats 8000000 in
set_option maxRecDepth 100000 in
theorem gimbalref0_CopyFrame.calls (k:Nat) (a0_0:Int) (a0_1:Int) (A0_2:Option Addr) (c0_2:Nat) (l0_2:List Int) (r1:Int) (r2:Int) (r3:List Int) (w:World) (hr0_2:Kd.C (Kd.int .u8) w A0_2 l0_2.length l0_2) (hc0_2:l0_2.length≤c0_2) (h:gimbalref0_CopyFrame.f k a0_0 a0_1 l0_2=some (r1,r2,r3)) :
    Calls Try.prog 31 #[.agg #[.int .i64 a0_0,.int .i64 a0_1,.slice A0_2 l0_2.length c0_2]] w fun e w'=>∃ v2_:Value,e = .returned (.agg #[.int .i64 r1,.int .i64 r2,v2_])∧Kd.R (Kd.int .u8) 5 w' w.heap.size (fun _=>True) v2_ r3∧Below w.heap.size w w':=by
  have hu54:=Try.underlying54
  have HR0_2:=Aside0.mk hr0_2
  have HC0_2:=Aside0.mk hc0_2
  clear hr0_2 hc0_2
  have HB:=Aside0.mk (Below.refl w.heap.size w)
  have H:((gimbalref0_CopyBytes.f k l0_2).bind fun t205=>(some (a0_0,a0_1,t205)))=some (r1,r2,r3):=h
  clear h
  replace H:=Option.bind_eq_some_iff.mp H
  obtain ⟨t205,A20,H⟩:=H
  replace H:(some (a0_0,a0_1,t205))=some (r1,r2,r3):=H
  have A2:=Aside0.mk A20
  clear A20
  simp only [Option.some.injEq,Prod.mk.injEq] at H
  obtain ⟨rfl,rfl,rfl⟩:=H
  go_enter Try.func31,Try.ntmps31
  go_wp2_with (first|((with_reducible refine gate_dst (N:=1) rfl ?_);refine box_event ?hg (N:=1) ?hd (cs:=#[.int .i64 a0_0,.int .i64 a0_1,.slice A0_2 l0_2.length c0_2]) (t:=54) ?hr ?_;(case hd=>rfl);(case hg=>rfl);(case hr=>first|(go_simp;done)|(go_simp;rfl));intro gb202 hg w3 hbox hb;have n0_:=Aside0.mk (below_step (by repeat (first|(with_reducible first|exact HB.out|apply below_alloc|apply pw_below_drewN|apply below_drew1)|exact HB.out)) hb);have n1_:=Aside0.mk (hbox);have n2_:=Aside0.mk ((by rw [hg];exact (below_size (by repeat (first|(with_reducible first|exact HB.out|apply below_alloc|apply pw_below_drewN|apply below_drew1)|exact HB.out))):w.heap.size≤gb202));have n3_:=Aside0.mk ((by rw [hg];exact (below_size (by repeat (first|(with_reducible first|exact HB.out|apply below_alloc|apply pw_below_drewN|apply below_drew1)|exact HB.out))):w.heap.size≤gb202));clear HB;have HB:=n0_;have BK202:=n1_;have GW202:=n2_;have GE202:=n3_;clear n0_ n1_ n2_ n3_;clear hb hbox hg)|((with_reducible refine gate_dst (N:=2) rfl ?_);refine box_event ?hg (N:=2) ?hd (cs:=#[.int .i64 0,.int .i64 0,.slice none 0 0]) (t:=54) ?hr ?_;(case hd=>rfl);(case hg=>rfl);(case hr=>first|(go_simp;done)|(go_simp;rfl));intro gb203 hg w4 hbox hb;have n0_:=Aside0.mk (blk_below (g:=gb202) (o := .cells #[.int .i64 a0_0,.int .i64 a0_1,.slice A0_2 l0_2.length c0_2] 54 (0,0)) (by (with_reducible repeat (first|refine blk_drewN ?_ _|refine blk_drew ?_|refine blk_alloc ?_ _));exact BK202.out) hb);have n1_:=Aside0.mk (below_step (by repeat (first|(with_reducible first|exact HB.out|apply below_alloc|apply pw_below_drewN|apply below_drew1|refine below_set ?_ GE202.out)|exact HB.out)) hb);have n2_:=Aside0.mk (hbox);have n3_:=Aside0.mk ((by rw [hg];exact (below_size (by repeat (first|(with_reducible first|exact HB.out|apply below_alloc|apply pw_below_drewN|apply below_drew1|refine below_set ?_ GE202.out)|exact HB.out))):w.heap.size≤gb203));have n4_:=Aside0.mk ((by rw [hg];exact (below_size (by repeat (first|(with_reducible first|exact HB.out|apply below_alloc|apply pw_below_drewN|apply below_drew1|refine below_set ?_ GE202.out)|exact HB.out))):w.heap.size≤gb203));have n5_:=Aside0.mk ((by rw [hg];exact Nat.ne_of_lt (blk_lt (g:=gb202) (o := .cells #[.int .i64 a0_0,.int .i64 a0_1,.slice A0_2 l0_2.length c0_2] 54 (0,0)) (by (with_reducible repeat (first|refine blk_drewN ?_ _|refine blk_drew ?_|refine blk_alloc ?_ _));exact BK202.out)):gb202≠gb203));have n6_:=Aside0.mk ((by rw [hg];exact Nat.ne_of_gt (blk_lt (g:=gb202) (o := .cells #[.int .i64 a0_0,.int .i64 a0_1,.slice A0_2 l0_2.length c0_2] 54 (0,0)) (by (with_reducible repeat (first|refine blk_drewN ?_ _|refine blk_drew ?_|refine blk_alloc ?_ _));exact BK202.out)):gb203≠gb202));clear BK202;clear HB;have BK202:=n0_;have HB:=n1_;have BK203:=n2_;have GW203:=n3_;have GE203:=n4_;have NB202_203:=n5_;have NB203_202:=n6_;clear n0_ n1_ n2_ n3_ n4_ n5_ n6_;clear hb hbox hg;have hnb5:=NB202_203.out;have hnc5:=NB203_202.out;have hcz6_0:w4.cell? ⟨gb202,0,none⟩=some (.int .i64 a0_0):=(blk_cell BK202.out 0).trans rfl;have hcz6_1:w4.cell? ⟨gb202,1,none⟩=some (.int .i64 a0_1):=(blk_cell BK202.out 1).trans rfl;have hcz6_2:w4.cell? ⟨gb202,2,none⟩=some (.slice A0_2 l0_2.length c0_2):=(blk_cell BK202.out 2).trans rfl;have hfz6_0:=blk_frozen BK202.out 0;have hfz6_1:=blk_frozen BK202.out 1;have hfz6_2:=blk_frozen BK202.out 2)|((with_reducible refine gate_dst (N:=3) rfl ?_);refine box_event ?hg (N:=3) ?hd (cs:=#[.int .i64 0,.int .i64 0,.slice none 0 0]) (t:=54) ?hr ?_;(case hd=>rfl);(case hg=>rfl);(case hr=>first|(go_simp;done)|(go_simp;rfl));intro gb204 hg w7 hbox hb;have n0_:=Aside0.mk (blk_below (g:=gb202) (o := .cells #[.int .i64 a0_0,.int .i64 a0_1,.slice A0_2 l0_2.length c0_2] 54 (0,0)) (by (with_reducible repeat (first|refine blk_drewN ?_ _|refine blk_drew ?_|refine blk_alloc ?_ _));exact BK202.out) hb);have n1_:=Aside0.mk (blk_below (g:=gb203) (o := .cells #[.int .i64 0,.int .i64 0,.slice none 0 0] 54 (0,0)) (by (with_reducible repeat (first|refine blk_drewN ?_ _|refine blk_drew ?_|refine blk_alloc ?_ _));exact BK203.out) hb);have n2_:=Aside0.mk (below_step (by repeat (first|(with_reducible first|exact HB.out|apply below_alloc|apply pw_below_drewN|apply below_drew1|refine below_set ?_ GE202.out|refine below_set ?_ GE203.out)|exact HB.out)) hb);have n3_:=Aside0.mk (hbox);have n4_:=Aside0.mk ((by rw [hg];exact (below_size (by repeat (first|(with_reducible first|exact HB.out|apply below_alloc|apply pw_below_drewN|apply below_drew1|refine below_set ?_ GE202.out|refine below_set ?_ GE203.out)|exact HB.out))):w.heap.size≤gb204));have n5_:=Aside0.mk ((by rw [hg];exact (below_size (by repeat (first|(with_reducible first|exact HB.out|apply below_alloc|apply pw_below_drewN|apply below_drew1|refine below_set ?_ GE202.out|refine below_set ?_ GE203.out)|exact HB.out))):w.heap.size≤gb204));have n6_:=Aside0.mk ((by rw [hg];exact Nat.ne_of_lt (blk_lt (g:=gb202) (o := .cells #[.int .i64 a0_0,.int .i64 a0_1,.slice A0_2 l0_2.length c0_2] 54 (0,0)) (by (with_reducible repeat (first|refine blk_drewN ?_ _|refine blk_drew ?_|refine blk_alloc ?_ _));exact BK202.out)):gb202≠gb204));have n7_:=Aside0.mk ((by rw [hg];exact Nat.ne_of_gt (blk_lt (g:=gb202) (o := .cells #[.int .i64 a0_0,.int .i64 a0_1,.slice A0_2 l0_2.length c0_2] 54 (0,0)) (by (with_reducible repeat (first|refine blk_drewN ?_ _|refine blk_drew ?_|refine blk_alloc ?_ _));exact BK202.out)):gb204≠gb202));have n8_:=Aside0.mk ((by rw [hg];exact Nat.ne_of_lt (blk_lt (g:=gb203) (o := .cells #[.int .i64 0,.int .i64 0,.slice none 0 0] 54 (0,0)) (by (with_reducible repeat (first|refine blk_drewN ?_ _|refine blk_drew ?_|refine blk_alloc ?_ _));exact BK203.out)):gb203≠gb204));have n9_:=Aside0.mk ((by rw [hg];exact Nat.ne_of_gt (blk_lt (g:=gb203) (o := .cells #[.int .i64 0,.int .i64 0,.slice none 0 0] 54 (0,0)) (by (with_reducible repeat (first|refine blk_drewN ?_ _|refine blk_drew ?_|refine blk_alloc ?_ _));exact BK203.out)):gb204≠gb203));clear BK202;clear BK203;clear HB;have BK202:=n0_;have BK203:=n1_;have HB:=n2_;have BK204:=n3_;have GW204:=n4_;have GE204:=n5_;have NB202_204:=n6_;have NB204_202:=n7_;have NB203_204:=n8_;have NB204_203:=n9_;clear n0_ n1_ n2_ n3_ n4_ n5_ n6_ n7_ n8_ n9_;clear hb hbox hg;have hnb8:=NB204_202.out;have hnc8:=NB202_204.out;have hnb9:=NB204_203.out;have hnc9:=NB203_204.out;have hcz10_0:w7.cell? ⟨gb204,0,none⟩=some (.int .i64 0):=(blk_cell BK204.out 0).trans rfl;have hcz10_1:w7.cell? ⟨gb204,1,none⟩=some (.int .i64 0):=(blk_cell BK204.out 1).trans rfl;have hcz10_2:w7.cell? ⟨gb204,2,none⟩=some (.slice none 0 0):=(blk_cell BK204.out 2).trans rfl;have hfz10_0:=blk_frozen BK204.out 0;have hfz10_1:=blk_frozen BK204.out 1;have hfz10_2:=blk_frozen BK204.out 2;have hcz11_0:w7.cell? ⟨gb202,0,none⟩=some (.int .i64 a0_0):=(blk_cell BK202.out 0).trans rfl;have hcz11_1:w7.cell? ⟨gb202,1,none⟩=some (.int .i64 a0_1):=(blk_cell BK202.out 1).trans rfl;have hcz11_2:w7.cell? ⟨gb202,2,none⟩=some (.slice A0_2 l0_2.length c0_2):=(blk_cell BK202.out 2).trans rfl;have hfz11_0:=blk_frozen BK202.out 0;have hfz11_1:=blk_frozen BK202.out 1;have hfz11_2:=blk_frozen BK202.out 2)|((with_reducible refine gate_callee (f:=26) rfl ?_);refine goesL_ (some 7) rfl rfl Try.func26 (by kernel_rfl) rfl #[.slice A0_2 l0_2.length c0_2] rfl (by (try simp only [List.map_toArray,List.map_cons,List.map_nil]);first|done|rfl|(simp only [List.length_drop,List.length_take];rfl)) ?_;(with_reducible refine (gimbalref0_CopyBytes.calls k _ _ l0_2 t205 _ ?side1 ?side2 A2.out).mono ?_);(case side1=>exact Kd.C_below HR0_2.out (by repeat (first|(with_reducible first|exact HB.out|apply below_alloc|apply pw_below_drewN|apply below_drew1|refine below_set ?_ GE202.out|refine below_set ?_ GE203.out|refine below_set ?_ GE204.out)|exact HB.out)));(case side2=>exact HC0_2.out);rintro e w12 ⟨v206,rfl,ho0,hb⟩;refine ⟨_,rfl,?_⟩;have n0_:=Aside0.mk (Kd.R_lower ho0 (below_size (by repeat (first|(with_reducible first|exact HB.out|apply below_alloc|apply pw_below_drewN|apply below_drew1|refine below_set ?_ GE202.out|refine below_set ?_ GE203.out|refine below_set ?_ GE204.out)|exact HB.out))));have n1_:=Aside0.mk (blk_below (g:=gb202) (o := .cells #[.int .i64 a0_0,.int .i64 a0_1,.slice A0_2 l0_2.length c0_2] 54 (0,0)) (by (with_reducible repeat (first|refine blk_drewN ?_ _|refine blk_drew ?_|refine blk_alloc ?_ _));refine blk_far ?_ NB202_204.out _;(with_reducible repeat (first|refine blk_drewN ?_ _|refine blk_drew ?_|refine blk_alloc ?_ _));refine blk_far ?_ NB202_204.out _;(with_reducible repeat (first|refine blk_drewN ?_ _|refine blk_drew ?_|refine blk_alloc ?_ _));refine blk_far ?_ NB202_204.out _;(with_reducible repeat (first|refine blk_drewN ?_ _|refine blk_drew ?_|refine blk_alloc ?_ _));exact BK202.out) hb);have n2_:=Aside0.mk (blk_below (g:=gb203) (o := .cells #[.int .i64 0,.int .i64 0,.slice none 0 0] 54 (0,0)) (by (with_reducible repeat (first|refine blk_drewN ?_ _|refine blk_drew ?_|refine blk_alloc ?_ _));refine blk_far ?_ NB203_204.out _;(with_reducible repeat (first|refine blk_drewN ?_ _|refine blk_drew ?_|refine blk_alloc ?_ _));refine blk_far ?_ NB203_204.out _;(with_reducible repeat (first|refine blk_drewN ?_ _|refine blk_drew ?_|refine blk_alloc ?_ _));refine blk_far ?_ NB203_204.out _;(with_reducible repeat (first|refine blk_drewN ?_ _|refine blk_drew ?_|refine blk_alloc ?_ _));exact BK203.out) hb);have n3_:=Aside0.mk (blk_below (g:=gb204) (o := .cells #[.int .i64 a0_0,.int .i64 a0_1,.slice A0_2 l0_2.length c0_2] 54 (0,0)) (by (with_reducible repeat (first|refine blk_drewN ?_ _|refine blk_drew ?_|refine blk_alloc ?_ _));refine blk_put (cs:=#[.int .i64 a0_0,.int .i64 a0_1,.slice none 0 0]) ?_ 2 _ rfl;(with_reducible repeat (first|refine blk_drewN ?_ _|refine blk_drew ?_|refine blk_alloc ?_ _));refine blk_put (cs:=#[.int .i64 a0_0,.int .i64 0,.slice none 0 0]) ?_ 1 _ rfl;(with_reducible repeat (first|refine blk_drewN ?_ _|refine blk_drew ?_|refine blk_alloc ?_ _));refine blk_put (cs:=#[.int .i64 0,.int .i64 0,.slice none 0 0]) ?_ 0 _ rfl;(with_reducible repeat (first|refine blk_drewN ?_ _|refine blk_drew ?_|refine blk_alloc ?_ _));exact BK204.out) hb);have n4_:=Aside0.mk (below_step (by repeat (first|(with_reducible first|exact HB.out|apply below_alloc|apply pw_below_drewN|apply below_drew1|refine below_set ?_ GE202.out|refine below_set ?_ GE203.out|refine below_set ?_ GE204.out)|exact HB.out)) hb);clear BK202;clear BK203;clear BK204;clear HB;have HO207:=n0_;have BK202:=n1_;have BK203:=n2_;have BK204:=n3_;have HB:=n4_;clear n0_ n1_ n2_ n3_ n4_;(try clear hb);(try clear hb2);(try clear hk);(try clear hi);(try clear ho0);obtain ⟨Ao13,co13,eo13⟩:=Kd.R_slice HO207.out;subst eo13;have hcz14_0:w12.cell? ⟨gb204,0,none⟩=some (.int .i64 a0_0):=(blk_cell BK204.out 0).trans rfl;have hcz14_1:w12.cell? ⟨gb204,1,none⟩=some (.int .i64 a0_1):=(blk_cell BK204.out 1).trans rfl;have hcz14_2:w12.cell? ⟨gb204,2,none⟩=some (.slice A0_2 l0_2.length c0_2):=(blk_cell BK204.out 2).trans rfl;have hfz14_0:=blk_frozen BK204.out 0;have hfz14_1:=blk_frozen BK204.out 1;have hfz14_2:=blk_frozen BK204.out 2;have hcz15_0:w12.cell? ⟨gb203,0,none⟩=some (.int .i64 0):=(blk_cell BK203.out 0).trans rfl;have hcz15_1:w12.cell? ⟨gb203,1,none⟩=some (.int .i64 0):=(blk_cell BK203.out 1).trans rfl;have hcz15_2:w12.cell? ⟨gb203,2,none⟩=some (.slice none 0 0):=(blk_cell BK203.out 2).trans rfl;have hfz15_0:=blk_frozen BK203.out 0;have hfz15_1:=blk_frozen BK203.out 1;have hfz15_2:=blk_frozen BK203.out 2))
  refine bodyPost_ret (results_cell_row rfl _ _ gb203 54 #[.int .i64 a0_0,.int .i64 a0_1,.slice Ao13 t205.length co13] (0,0) _ rfl (by (with_reducible repeat (first|refine blk_drewN ?_ _|refine blk_drew ?_|refine blk_alloc ?_ _));refine blk_put (cs:=#[.int .i64 a0_0,.int .i64 a0_1,.slice none 0 0]) ?_ 2 _ rfl;(with_reducible repeat (first|refine blk_drewN ?_ _|refine blk_drew ?_|refine blk_alloc ?_ _));refine blk_put (cs:=#[.int .i64 a0_0,.int .i64 0,.slice none 0 0]) ?_ 1 _ rfl;(with_reducible repeat (first|refine blk_drewN ?_ _|refine blk_drew ?_|refine blk_alloc ?_ _));refine blk_put (cs:=#[.int .i64 0,.int .i64 0,.slice none 0 0]) ?_ 0 _ rfl;(with_reducible repeat (first|refine blk_drewN ?_ _|refine blk_drew ?_|refine blk_alloc ?_ _));refine blk_far ?_ NB203_204.out _;(with_reducible repeat (first|refine blk_drewN ?_ _|refine blk_drew ?_|refine blk_alloc ?_ _));exact BK203.out) Try.underlying54 rfl (by kernel_rfl)) rfl ?_
  exact ⟨_,by first|rfl|(simp [errW_none,errW_some]<;>rfl)|(simp [*,errW_none,errW_some]<;>rfl),by (with_reducible repeat (first|apply Kd.R_alloc|apply Kd.R_drewN|apply Kd.R_drew));exact Kd.R_mono (Kd.R_far (p:=⟨gb203,2,none⟩) (Kd.R_far (p:=⟨gb203,1,none⟩) (Kd.R_far (p:=⟨gb203,0,none⟩) (Kd.R_far (p:=⟨gb204,2,none⟩) (Kd.R_types (Kd.R_types HO207.out BK204.out (by decide)) BK203.out (by decide)) (fun _ hk=>hk.1.2) (.slice Ao13 t205.length co13)) (fun _ hk=>hk.2) (.int .i64 a0_0)) (fun _ hk=>hk.2) (.int .i64 a0_1)) (fun _ hk=>hk.2) (.slice Ao13 t205.length co13)) (fun _ hk=>trivial),by repeat (first|(with_reducible first|exact HB.out|apply below_alloc|apply pw_below_drewN|apply below_drew1|refine below_set ?_ GE202.out|refine below_set ?_ GE203.out|refine below_set ?_ GE204.out)|exact HB.out)⟩
end Go.Proofs.Ytaeabemipnbgbaa.QFr
end
section
set_option linter.unusedVariables false
set_option linter.unusedSimpArgs false
namespace Go.Proofs.Ytaeabemipnbgbaa.PFr
open RowKit Ytaeabemipnbgbaa.QFr YtaeabemipnbgbaaW.PrintWords YtaeabemipnbgbaaW.PrintMore YtaeabemipnbgbaaW.Aid
def Bytes (b:List Int):Prop:=∀ x∈b,0≤x∧x≤255
theorem Bytes.take {b:List Int} (h:Bytes b) (n:Nat):Bytes (b.take n):=fun x hx=>h x (List.mem_of_mem_take hx)
theorem Bytes.drop {b:List Int} (h:Bytes b) (n:Nat):Bytes (b.drop n):=fun x hx=>h x (List.mem_of_mem_drop hx)
theorem Bytes.append {a b:List Int} (h:Bytes a) (h':Bytes b):Bytes (a++b):=fun x hx=>by
  rcases List.mem_append.1 hx with hx|hx
  · exact h x hx
  · exact h' x hx
theorem Bytes.rd {b:List Int} (h:Bytes b) {i:Int} (h0:0≤i) (h1:i<(b.length:Int)):0≤rd b i∧rd b i≤255:=h _ (rd_mem h0 h1)
theorem bytes_wf {b:List Int} (h:∀ x∈b,(Lit.int .u8 x).wf=true):Bytes b:=fun x hx=>wf_u8 (h x hx)
theorem sum_f {b:List Int} (h:Bytes b):crc_Sum.f b=some (Crc.crcOf b 65535):=by
  unfold crc_Sum.f
  rw [if_pos]
  rw [List.all_eq_true]
  intro x hx
  have:=h x hx
  simp
  exact this
theorem clone_f {b:List Int} (h:b.length≤1000000):slices_Clone_byte_byte.f b=some b:=by
  unfold slices_Clone_byte_byte.f
  rw [if_pos (by omega)]
theorem wraps_u16 (n:Int) (h₀:0≤n) (h₁:n<2 ^ 16):IntKind.u16.wrap n=n:=by rw [u16_wrap];omega
theorem or16 {a c:Int} (ha:0≤a) (ha':a≤255) (hc:0≤c) (hc':c≤255):Go.bits .or .u16 (IntKind.u16.wrap (a*256)) (IntKind.u16.wrap c)=a*256+c:=by
  rw [wraps_u16 _ (by omega) (by omega),wraps_u16 _ (by omega) (by omega)]
  exact bits_join .u16 16 (by decide) wraps_u16 8 (a*256) c (by omega) (by omega) (by omega) hc (by omega) (by omega)
theorem or16z {c:Int} (hc:0≤c) (hc':c≤255):Go.bits .or .u16 (IntKind.u16.wrap (0*256)) (IntKind.u16.wrap c)=c:=by
  have:=or16 (a:=0) (c:=c) (by omega) (by omega) hc hc'
  rw [this];omega
theorem seg1 {b:List Int} {i:Nat} (h:i<b.length):(b.take (i+1)).drop i=[rd b i]:=by
  obtain ⟨hj,e⟩:=rd_at (l:=b) (i:=(i:Int)) (by omega) (by omega)
  rw [e,List.take_succ_eq_append_getElem h,List.drop_append_of_le_length (by simp;omega),List.drop_of_length_le (by simp;omega)]
  simp
theorem seg2 {b:List Int} {i:Nat} (h:i+1<b.length):(b.take (i+2)).drop i=[rd b i,rd b (i+1:Nat)]:=by
  have e1:=seg1 (b:=b) (i:=i) (by omega)
  have e2:=seg1 (b:=b) (i:=i+1) (by omega)
  have e3:b.take (i+2)=b.take (i+1)++[rd b (i+1:Nat)]:=by
    obtain ⟨hj,e⟩:=rd_at (l:=b) (i:=((i+1:Nat):Int)) (by omega) (by omega)
    rw [e,List.take_succ_eq_append_getElem h]
    rfl
  rw [e3,List.drop_append_of_le_length (by simp;omega),e1]
  rfl
theorem take8_no {b:List Int} {a:Int} (h0:0≤a) (ha:a≤100000) (h:(b.length:Int)<a+1):Ev (fun k=>frame_take_uint8.f k b a 1) (0,false):=by
  refine Ev.pure fun k=>?_
  unfold frame_take_uint8.f
  rw [wrap64_id (by omega) (by omega),if_pos (by omega)]
theorem take8_yes {b:List Int} (hb:Bytes b) {a:Int} (h0:0≤a) (ha:a≤100000) (h:a+1≤(b.length:Int)):Ev (fun k=>frame_take_uint8.f k b a 1) (rd b a,true):=by
  have e:(b.take (a+1).toNat).drop a.toNat=[rd b a]:=by
    have:=seg1 (b:=b) (i:=a.toNat) (by omega)
    rw [show (a+1).toNat=a.toNat+1 by omega,this,show ((a.toNat:Nat):Int)=a by omega]
  have hx:=hb.rd h0 (show a<(b.length:Int) by omega)
  unfold frame_take_uint8.f
  simp only [wrap64_id (x:=a+1) (by omega) (by omega),if_neg (show ¬ a+1>(b.length:Int) by omega),h0,if_true,(show a≤a+1 by omega),h,e]
  refine Ev.shift ?_
  have r0:rd [rd b a] 0=rd b a:=rfl
  have w1:wrap64 (0+1)=1:=wrap64_id (by omega) (by omega)
  simp only [frame_take_uint8.l0,List.length_cons,List.length_nil,r0,w1,or16z hx.1 hx.2]
  refine Ev.shift ?_
  refine Ev.pure fun k=>?_
  simp [frame_take_uint8.l0]
  omega
theorem take16_no {b:List Int} {a:Int} (h0:0≤a) (ha:a≤100000) (h:(b.length:Int)<a+2):Ev (fun k=>frame_take_uint16.f k b a 2) (0,false):=by
  refine Ev.pure fun k=>?_
  unfold frame_take_uint16.f
  rw [wrap64_id (by omega) (by omega),if_pos (by omega)]
theorem take16_yes {b:List Int} (hb:Bytes b) {a:Int} (h0:0≤a) (ha:a≤100000) (h:a+2≤(b.length:Int)):Ev (fun k=>frame_take_uint16.f k b a 2) (rd b a*256+rd b (a+1),true):=by
  have e:(b.take (a+2).toNat).drop a.toNat=[rd b a,rd b (a+1)]:=by
    have:=seg2 (b:=b) (i:=a.toNat) (by omega)
    rw [show (a+2).toNat=a.toNat+2 by omega,this,show ((a.toNat:Nat):Int)=a by omega,show ((a.toNat+1:Nat):Int)=a+1 by omega]
  have hx:=hb.rd h0 (show a<(b.length:Int) by omega)
  have hy:=hb.rd (i:=a+1) (by omega) (show a+1<(b.length:Int) by omega)
  unfold frame_take_uint16.f
  simp only [wrap64_id (x:=a+2) (by omega) (by omega),if_neg (show ¬ a+2>(b.length:Int) by omega),h0,if_true,(show a≤a+2 by omega),h,e]
  have r0:rd [rd b a,rd b (a+1)] 0=rd b a:=rfl
  have r1:rd [rd b a,rd b (a+1)] 1=rd b (a+1):=rfl
  have w1:wrap64 (0+1)=1:=wrap64_id (by omega) (by omega)
  have w2:wrap64 (1+1)=2:=wrap64_id (by omega) (by omega)
  refine Ev.shift ?_
  simp only [frame_take_uint16.l0,List.length_cons,List.length_nil,r0,w1,or16z hx.1 hx.2]
  refine Ev.shift ?_
  simp only [frame_take_uint16.l0,List.length_cons,List.length_nil,r1,w2,or16 hx.1 hx.2 hy.1 hy.2]
  refine Ev.shift ?_
  refine Ev.pure fun k=>?_
  simp [frame_take_uint16.l0]
def L (b:List Int):Int:=rd b 1*256+rd b 2
def lookR (b:List Int):Int × Int × List Int × Int × Bool :=
  if b.length=0 then (0,0,[],0,true)
  else if rd b 0≠126∨(2≤b.length∧1<rd b 1) then (0,0,[],0,false)
  else if 3≤b.length∧256<L b then (0,0,[],0,false)
  else if 5≤b.length∧¬ (1≤rd b 4∧rd b 4≤10) then (0,0,[],0,false)
  else if b.length<5∨(b.length:Int)<7+L b then (0,0,[],0,true)
  else if Crc.crcOf ((b.take (5+L b).toNat).drop 1) 65535≠rd b (5+L b)*256+rd b (6+L b) then (0,0,[],0,false)
  else (rd b 3,rd b 4,(b.take (5+L b).toNat).drop 5,7+L b,true)
theorem kind_f (a:Int):frame_kind.f a=some (decide (1≤a)&&decide (a≤10)):=by
  unfold frame_kind.f
  by_cases h:1≤a
  · rw [if_pos h,decide_eq_true h];rfl
  · rw [if_neg h,decide_eq_false h];rfl
theorem look_ev {b:List Int} (hb:Bytes b) (hlen:b.length≤100000):Ev (fun k=>frame_look.f k b) (lookR b):=by
  unfold frame_look.f lookR
  by_cases hl0:b.length=0
  · simp only [hl0];exact Ev.pure fun k=>rfl
  simp only [hl0,(show ¬ ((b.length:Int)=0) by omega),if_false,(show (0:Int)<(b.length:Int) by omega),if_true]
  have no:Ev (fun k=>frame_look.j0 k b true) (0,0,[],0,false):=by
    refine Ev.shift ?_
    simp only [frame_look.j0,if_true]
    exact Ev.pure fun k=>rfl
  -- the test of the sum
  have s3:∀ len sum:Int,0≤len→5≤b.length→7+len≤(b.length:Int)→len≤256→1≤rd b 4→rd b 4≤10 →
      Ev (fun k=>frame_look.j3 k b (rd b 4) (5+len) sum false) (if Crc.crcOf ((b.take (5+len).toNat).drop 1) 65535≠sum then (0,0,[],0,false) else (rd b 3,rd b 4,(b.take (5+len).toNat).drop 5,7+len,true)):=by
    intro len sum h0 h5 h7 h256 hk0 hk1
    refine Ev.shift ?_
    have r3:=hb.rd (i:=3) (by omega) (by omega)
    simp only [frame_look.j3,Bool.false_eq_true,if_false,(show (1:Int)≤5+len by omega),if_true,(show 5+len≤(b.length:Int) by omega),sum_f ((hb.take _).drop 1),Option.bind_some,
      (show (3:Int)<(b.length:Int) by omega),(show (5:Int)≤5+len by omega),clone_f (b:=(b.take (5+len).toNat).drop 5) (by simp;omega)]
    rw [wrap64_id (x:=rd b 3) (by omega) (by omega),wrap64_id (x:=rd b 4) (by omega) (by omega),wrap64_id (x:=5+len+2) (by omega) (by omega)]
    refine Ev.pure fun k=>?_
    by_cases hs:Crc.crcOf ((b.take (5+len).toNat).drop 1) 65535=sum
    · have e:5+len+2=7+len:=by omega
      simp only [hs,if_true,ne_eq,not_true_eq_false,if_false,e]
    · simp only [hs,if_false,ne_eq,not_false_eq_true,if_true]
  -- behind the length
  have s1 : ∀ len : Int, 0 ≤ len → len ≤ 256 → (3 ≤ b.length → len = L b) →
      Ev (fun k=>frame_look.j1 k b len false) (if 5≤b.length∧¬ (1≤rd b 4∧rd b 4≤10) then (0,0,[],0,false) else if b.length<5∨(b.length:Int)<7+L b then (0,0,[],0,true)
        else if Crc.crcOf ((b.take (5+L b).toNat).drop 1) 65535≠rd b (5+L b)*256+rd b (6+L b) then (0,0,[],0,false) else (rd b 3,rd b 4,(b.take (5+L b).toNat).drop 5,7+L b,true)):=by
    intro len h0 h256 hL
    refine Ev.shift ?_
    simp only [frame_look.j1,Bool.false_eq_true,if_false]
    have w5:wrap64 (5+wrap64 len)=5+len:=by rw [wrap64_id (x:=len) (by omega) (by omega),wrap64_id (by omega) (by omega)]
    by_cases h5:5≤b.length
    · have hLL:=hL (by omega)
      subst hLL
      have r4:=hb.rd (i:=4) (by omega) (by omega)
      refine Ev.bind (take8_yes hb (a:=4) (by omega) (by omega) (by omega)) ?_
      simp only [if_true,kind_f,Option.bind_some,wrap64_id (x:=rd b 4) (by omega) (by omega)]
      by_cases hk:1≤rd b 4∧rd b 4≤10
      · simp only [decide_eq_true hk.1,decide_eq_true hk.2,Bool.and_self,Bool.not_true]
        refine Ev.shift ?_
        simp only [frame_look.j2,Bool.false_eq_true,if_false,w5]
        rw [if_neg (by simp [hk])]
        by_cases h7:7+L b≤(b.length:Int)
        · refine Ev.bind (take16_yes hb (a:=5+L b) (by omega) (by omega) (by omega)) ?_
          rw [if_neg (by omega)]
          simp only [if_true,Bool.not_true]
          have e6:5+L b+1=6+L b:=by omega
          rw [e6]
          exact s3 (L b) _ h0 h5 h7 h256 hk.1 hk.2
        · refine Ev.bind (take16_no (a:=5+L b) (by omega) (by omega) (by omega)) ?_
          rw [if_pos (by omega)]
          simp only [if_true,Bool.not_false]
          refine Ev.shift ?_
          simp only [frame_look.j3,if_true]
          exact Ev.pure fun k=>rfl
      · rw [if_pos ⟨h5,hk⟩]
        have:(decide (1≤rd b 4)&&decide (rd b 4≤10))=false:=by
          rw [← Bool.not_eq_true];simpa using hk
        simp only [this,Bool.not_false]
        refine Ev.shift ?_
        simp only [frame_look.j2,if_true]
        exact Ev.pure fun k=>rfl
    · refine Ev.bind (take8_no (a:=4) (by omega) (by omega) (by omega)) ?_
      simp only [Bool.false_eq_true,if_false]
      refine Ev.shift ?_
      simp only [frame_look.j2,Bool.false_eq_true,if_false,w5]
      rw [if_neg (fun h=>h5 h.1),if_pos (.inl (by omega))]
      refine Ev.bind (take16_no (a:=5+len) (by omega) (by omega) (by omega)) ?_
      refine Ev.shift ?_
      simp only [frame_look.j3,if_true]
      exact Ev.pure fun k=>rfl
  -- behind the first byte
  have s0:(2≤b.length→rd b 1≤1)→Ev (fun k=>frame_look.j0 k b false) (if 3≤b.length∧256<L b then (0,0,[],0,false) else if 5≤b.length∧¬ (1≤rd b 4∧rd b 4≤10) then (0,0,[],0,false) else if b.length<5∨(b.length:Int)<7+L b then (0,0,[],0,true)
        else if Crc.crcOf ((b.take (5+L b).toNat).drop 1) 65535≠rd b (5+L b)*256+rd b (6+L b) then (0,0,[],0,false) else (rd b 3,rd b 4,(b.take (5+L b).toNat).drop 5,7+L b,true)):=by
    intro h1
    refine Ev.shift ?_
    simp only [frame_look.j0,Bool.false_eq_true,if_false]
    by_cases h3:3≤b.length
    · refine Ev.bind (take16_yes hb (a:=1) (by omega) (by omega) (by omega)) ?_
      have r1:=hb.rd (i:=1) (by omega) (by omega)
      have r2:=hb.rd (i:=2) (by omega) (by omega)
      have e:rd b 1*256+rd b (1+1)=L b:=rfl
      simp only [if_true,e]
      by_cases hL:256<L b
      · rw [if_pos ⟨h3,hL⟩]
        simp only [decide_eq_true (p:=L b>256) hL]
        refine Ev.shift ?_
        simp only [frame_look.j1,if_true]
        exact Ev.pure fun k=>rfl
      · rw [if_neg (fun h=>hL h.2)]
        simp only [decide_eq_false (p:=L b>256) hL]
        exact s1 (L b) (by unfold L;omega) (by omega) (fun _=>rfl)
    · refine Ev.bind (take16_no (a:=1) (by omega) (by omega) (by omega)) ?_
      simp only [Bool.false_eq_true,if_false]
      rw [if_neg (fun h=>h3 h.1)]
      exact s1 0 (by omega) (by omega) (fun h=>absurd h h3)
  by_cases h2:2≤b.length
  · refine Ev.bind (take8_yes hb (a:=1) (by omega) (by omega) (by omega)) ?_
    by_cases h0:rd b 0=126
    · simp only [h0,if_true,ne_eq,not_true_eq_false,false_or,h2,true_and]
      by_cases h1:1<rd b 1
      · simp only [h1,if_true,gt_iff_lt,decide_true]
        exact no
      · simp only [h1,if_false,gt_iff_lt,decide_false]
        exact s0 (fun _=>by omega)
    · simp only [h0,if_false,ne_eq,not_false_eq_true,true_or,if_true]
      exact no
  · refine Ev.bind (take8_no (a:=1) (by omega) (by omega) (by omega)) ?_
    by_cases h0:rd b 0=126
    · simp only [h0,if_true,Bool.false_eq_true,if_false,ne_eq,not_true_eq_false,false_or,h2,false_and]
      exact s0 (fun h=>absurd h h2)
    · simp only [h0,if_false,ne_eq,not_false_eq_true,true_or,if_true]
      exact no
def begins (b:List Int):Bool:=(lookR b).2.2.2.2
def decR (b:List Int):Int × Int × List Int × Int × Int:=if (lookR b).2.2.2.1=0 then (0,0,[],0,1) else ((lookR b).1,(lookR b).2.1,(lookR b).2.2.1,(lookR b).2.2.2.1,0)
theorem begins_ev {b:List Int} (hb:Bytes b) (hlen:b.length≤100000):Ev (fun k=>frame_Begins.f k b) (begins b):=by
  unfold frame_Begins.f
  exact Ev.bind (look_ev hb hlen) (Ev.pure fun k=>rfl)
theorem dec_ev {b:List Int} (hb:Bytes b) (hlen:b.length≤100000):Ev (fun k=>frame_Decode.f k b) (decR b):=by
  unfold frame_Decode.f decR
  refine Ev.bind (look_ev hb hlen) (Ev.pure fun k=>?_)
  split<;>rfl
end Go.Proofs.Ytaeabemipnbgbaa.PFr
end
