/- Part of a proof: texts of this session, one behind the other, and words that print.sh printed for this seat, of these only those that the proof leans on (wip/tools/pack.py). -/
import Derived.Test.YtcgknibjbnijmaaZT520b
import Derived.Test.YtcgknibjbnijmaaProg
import Derived.Below
import Derived.Deep.Draws
import Derived.Deep.AppendLies
import Derived.Maps.AppendAt
import Derived.OwnWalk
import Derived.Laws.BytesArg
import Derived.Laws.MakeOwn
import Derived.Laws.OwnMore
import Derived.Deep.OwnRows
import Derived.Tactics
import Derived.Lib.ConvBytes
import Derived.Laws.Slices
import Derived.WalkKit
import Derived.KernelRfl
import Derived.RowKit3
import Derived.Deep.LoopGhost
import Derived.Deep.QuietTactic
import Derived.BigQuiet
import Derived.WideLaws
import Derived.Deep.DeepCutAuto
import Derived.Deep.CutBlock
import Derived.Deep.RegionHeld3
import Derived.Laws.Rows
import Derived.Lib.AppendStr
import Derived.ArgAppend
import Derived.Laws.IdiomCopy
import Derived.OrdersHeld
import Derived.Laws.BitsLemmas
import Derived.RowKit
import Derived.Laws.StructEq
section
namespace Go.Proofs.Ytcgknibjbnijmaa.QPw
open RowKit YtcgknibjbnijmaaW.PrintWords YtcgknibjbnijmaaW.PrintLast YtcgknibjbnijmaaW.PrintMore
attribute [local go_sem] max2_int min2_int max_two min_two max_three min_three max_four min_four   -- for this text's walks alone
set_option linter.unusedVariables false
set_option linter.unusedSimpArgs false
theorem info3:(Try.prog.info? 3).map (fun i=>(i.zero,i.size,i.bytes))=some (some (.int .i64 0),1,8):=by kernel_rfl
theorem info70:(Try.prog.info? 70).map (fun i=>(i.zero,i.size,i.bytes))=some (some (.agg #[(.int .i64 0),(.int .i64 0),(.int .i64 0),(.int .i64 0)]),4,32):=by kernel_rfl
structure S70 where
  f0:Int
  f1:Int
  f2:Int
  f3:Int
def z70:S70:=⟨(0:Int),(0:Int),(0:Int),(0:Int)⟩
def k70:Kd S70:=Kd.iso (Kd.pair (Kd.int .i64) (Kd.pair (Kd.int .i64) (Kd.pair (Kd.int .i64) (Kd.int .i64)))) (fun x:S70=>(x.f0,x.f1,x.f2,x.f3))
theorem k70_open {w:World} {x:S70} {cs:List Value} (h:k70.K w x cs):cs=[.int .i64 x.f0,.int .i64 x.f1,.int .i64 x.f2,.int .i64 x.f3]:=by
  obtain ⟨_,_,rfl,rfl,⟨_,_,rfl,rfl,⟨_,_,rfl,rfl,rfl⟩⟩⟩:=h
  exact rfl
theorem k70_mkM (w:World) (base:Nat) (ok:Nat→Prop) (x:S70) :k70.M w base ok x [.int .i64 x.f0,.int .i64 x.f1,.int .i64 x.f2,.int .i64 x.f3]:=⟨[.int .i64 x.f0],[.int .i64 x.f1,.int .i64 x.f2,.int .i64 x.f3],rfl,rfl,⟨[.int .i64 x.f1],[.int .i64 x.f2,.int .i64 x.f3],rfl,rfl,⟨[.int .i64 x.f2],[.int .i64 x.f3],rfl,rfl,rfl⟩⟩⟩
def rd_T70 (xs:List S70) (i:Int):S70:=xs.getD i.toNat z70
theorem at_T70 {w:World} {A:Option Addr} {n:Nat} {xs:List S70} (h:Kd.C k70 w A n xs) (i:Int) (h0:0≤i) (h1:i<n):∃ ad ,A=some ad∧w.cell? (ad.add (i.toNat*4))=some (.int .i64 (rd_T70 xs i).f0)∧w.cell? ⟨(ad.add (i.toNat*4)).block,(ad.add (i.toNat*4)).off+1,none⟩=some (.int .i64 (rd_T70 xs i).f1)∧w.cell? ⟨(ad.add (i.toNat*4)).block,(ad.add (i.toNat*4)).off+2,none⟩=some (.int .i64 (rd_T70 xs i).f2)∧w.cell? ⟨(ad.add (i.toNat*4)).block,(ad.add (i.toNat*4)).off+3,none⟩=some (.int .i64 (rd_T70 xs i).f3):=by
  obtain ⟨ad,c,e,_,hK,hc0⟩:=Kd.C_get h z70 i h0 h1
  have hc:∀ j u,c[j]?=some u→w.cell? (ad.add (i.toNat*4+j))=some u:=hc0
  obtain rfl:=k70_open hK
  exact ⟨ad,e,hc 0 _ rfl,by rw [← add_field _ _ 1 (by omega)];exact hc 1 _ rfl,by rw [← add_field _ _ 2 (by omega)];exact hc 2 _ rfl,by rw [← add_field _ _ 3 (by omega)];exact hc 3 _ rfl⟩
end Go.Proofs.Ytcgknibjbnijmaa.QPw
end
section
namespace Go.Proofs.Ytcgknibjbnijmaa.QPw
open RowKit YtcgknibjbnijmaaW.PrintWords YtcgknibjbnijmaaW.PrintLast YtcgknibjbnijmaaW.PrintMore
attribute [local go_sem] max2_int min2_int max_two min_two max_three min_three max_four min_four   -- for this text's walks alone
set_option linter.unusedVariables false
set_option linter.unusedSimpArgs false
def cmd_Sensor.f (a0:Int):Option (Bool):=if a0≥1 then (some (decide (a0≤15))) else (some false)
set_option maxHeartbeats 8000000 in
set_option maxRecDepth 100000 in
theorem cmd_Sensor.calls (a0:Int) (r:Bool) (w:World) (h:cmd_Sensor.f a0=some r) :
    Calls Try.prog 56 #[.int .i64 a0] w fun e w'=>e = .returned (.bool r)∧Drawn0 w w':=by
  have H:(if a0≥1 then (some (decide (a0≤15))) else (some false))=some r:=h
  clear h
  by_cases c2:a0≥1
  · rw [if_pos c2] at H
    have c2b0:decide (1≤a0)=true:=decide_eq_true c2
    clear c2
    obtain rfl:=Option.some.inj H
    go_enter Try.func56,Try.ntmps56
    go_wp2
    go_ret
    exact ⟨by first|rfl|(simp;done)|(simp [*];done),by repeat (first|exact Drawn0.refl _|apply Drawn0.step)⟩
  · rw [if_neg c2] at H
    have c2b0:decide (1≤a0)=false:=decide_eq_false c2
    clear c2
    obtain rfl:=Option.some.inj H
    go_enter Try.func56,Try.ntmps56
    go_wp2
    go_ret
    exact ⟨by first|rfl|(simp;done)|(simp [*];done),by repeat (first|exact Drawn0.refl _|apply Drawn0.step)⟩
def power_Of_int.l0:Nat→Int→List Int→Int→Int→Option (Int)
  | 0,_,_,_,_=>none
  | k+1,x2,x5,x6,x7=>if x7<x6 then (if 0≤x7 then (if x7<(x5.length:Int) then (if 0≤(rd x5 x7) then (power_Of_int.l0 k (Go.bits .or .u32 x2 (shl .u32 1 (rd x5 x7))) x5 x6 (wrap64 (x7+1))) else (none)) else (none)) else (none)) else (some x2)
def power_Of_int.f (k:Nat) (l0:List Int):Option (Int):=power_Of_int.l0 k 0 l0 (l0.length:Int) 0
theorem power_Of_int.mono_l:∀ k,(∀ y0 y1 y2 y3,LeO (power_Of_int.l0 k y0 y1 y2 y3) (power_Of_int.l0 (k+1) y0 y1 y2 y3))
  | 0=>fun _ _ _ _ r h=>by simp [power_Of_int.l0] at h
  | k + 1 => by
    have ih0:=power_Of_int.mono_l k
    · intro y0 y1 y2 y3
      unfold power_Of_int.l0
      repeat' first
      | (with_reducible exact ih0 _ _ _ _)
      | (with_reducible exact LeO.refl _)
      | (with_reducible exact LeO.none _)
      | (with_reducible refine LeO.ite ?_ ?_)
      | (with_reducible refine LeO.bind ?_ (fun _=>?_))
      | exact ih0 _ _ _ _
      | exact LeO.none _
      | refine LeO.ite ?_ ?_
      | refine LeO.bind ?_ (fun _=>?_)
theorem power_Of_int.mono:∀ a0 k,LeO (power_Of_int.f k a0) (power_Of_int.f (k+1) a0):=by
  intro a0 k
  have ih0:=power_Of_int.mono_l k
  unfold power_Of_int.f
  repeat' first
      | (with_reducible exact ih0 _ _ _ _)
      | (with_reducible exact LeO.refl _)
      | (with_reducible exact LeO.none _)
      | (with_reducible refine LeO.ite ?_ ?_)
      | (with_reducible refine LeO.bind ?_ (fun _=>?_))
      | exact ih0 _ _ _ _
      | exact LeO.none _
      | refine LeO.ite ?_ ?_
      | refine LeO.bind ?_ (fun _=>?_)
set_option maxHeartbeats 8000000 in
set_option maxRecDepth 100000 in
theorem power_Of_int.calls (k:Nat) (A0:Option Addr) (c0:Nat) (l0:List Int) (r:Int) (w:World) (hr0:Kd.C (Kd.int .i64) w A0 l0.length l0) (hc0:l0.length≤c0) (h:power_Of_int.f k l0=some r) :
    Calls Try.prog 78 #[.slice A0 l0.length c0] w fun e w'=>e = .returned (.int .u32 r)∧Drawn0 w w':=by
  have HR0:=Aside0.mk hr0
  have HC0:=Aside0.mk hc0
  clear hr0 hc0
  have H:(power_Of_int.l0 k 0 l0 (l0.length:Int) 0)=some r:=h
  clear h
  have H':=Aside0.mk H
  clear H
  go_enter Try.func78,Try.ntmps78
  go_wp2
  go_loopg [2,7] k (fun kq v2 v7 w'=>∃ (x2_1:Int) (x7_1:Int),v2 = .int .u32 x2_1∧v7 = .int .i64 x7_1∧Aside0 (power_Of_int.l0 kq x2_1 l0 (l0.length:Int) x7_1=some r)∧Aside0 (kq≤k)∧Drawn0 w w')
  case atStart=>exact ⟨(0),(0),(by first|rfl|(simp;done)|(simp [*];done)),(by first|rfl|(simp;done)|(simp [*];done)),H',⟨Nat.le_refl _⟩,by repeat (first|exact Drawn0.refl _|apply Drawn0.step)⟩
  case round =>
    clear H'
    obtain ⟨x2_1,x7_1,rfl,rfl,HA,HK1,⟨m1,rfl⟩⟩:=hrel
    cases gk with
    | zero=>exact absurd HA.out (by simp [power_Of_int.l0])
    | succ k1 =>
      have H:=HA.out
      clear HA
      simp only [power_Of_int.l0] at H
      by_cases c2:x7_1<(l0.length:Int)
      · rw [if_pos c2] at H
        have c2b0:decide (x7_1<(l0.length:Int))=true:=decide_eq_true c2
        clear c2
        by_cases c3:0≤x7_1
        · rw [if_pos c3] at H
          have c3b0:decide (0≤x7_1)=true:=decide_eq_true c3
          clear c3
          by_cases c4:x7_1<(l0.length:Int)
          · rw [if_pos c4] at H
            have c4b0:decide (x7_1<(l0.length:Int))=true:=decide_eq_true c4
            clear c4
            by_cases c5:0≤(rd l0 x7_1)
            · rw [if_pos c5] at H
              have c5b0:=eq_true c5
              have c5b1:decide (0≤(rd l0 x7_1))=true:=decide_eq_true c5
              clear c5
              obtain ⟨ji6,hji6⟩:∃ j_:Int,(shl .u32 1 (rd l0 x7_1))=j_:=⟨_,rfl⟩
              replace H:(power_Of_int.l0 k1 (Go.bits .or .u32 x2_1 (ji6)) l0 (l0.length:Int) (wrap64 (x7_1+1)))=some r:=by first|(rw [hji6] at H;exact H)|(simp only [hji6] at H ⊢;exact H)
              have hji6_:(IntKind.u32.wrap (1*2 ^ min (rd l0 x7_1).toNat 32))=ji6:=hji6
              have hji6z:(rd l0 x7_1)≤32→(IntKind.u32.wrap (1*2 ^ (rd l0 x7_1).toNat))=ji6:=shl_small hji6
              have hji6u:(IntKind.u32.wrap (2 ^ min (rd l0 x7_1).toNat 32))=ji6:=by have h_:=hji6_;rw [Int.one_mul] at h_;exact h_
              have hji6v:(rd l0 x7_1)≤32→(IntKind.u32.wrap (2 ^ (rd l0 x7_1).toNat))=ji6:=fun hle_=>by have h_:=hji6z hle_;rw [Int.one_mul] at h_;exact h_
              have H':=Aside0.mk H
              clear H
              have p101:0≤(x7_1:Int):=of_decide_eq_true (by first|(with_reducible assumption)|assumption)
              have q101:x7_1<(l0.length:Int):=of_decide_eq_true (by first|(with_reducible assumption)|assumption)
              obtain ⟨ad101,e101,hx101_0⟩:=Kd.at_int HR0.out x7_1 p101 q101
              cases e101
              replace p101:=eq_true p101
              replace q101:=eq_true q101
              go_wp2
              go_roundg k1
              case measure=>have:=HK1.out;omega
              case rel=>exact ⟨(Go.bits .or .u32 x2_1 (ji6)),(wrap64 (x7_1+1)),(by first|rfl|(simp;done)|(simp only [← hji6]<;>(first|rfl|simp))|(simp [*];done)),(by first|rfl|(simp;done)|(simp [*];done)),H',⟨by have:=HK1.out;omega⟩,by repeat (first|exact Drawn0.refl _|apply Drawn0.step)⟩
            · rw [if_neg c5] at H
              exact absurd H (by simp)
          · rw [if_neg c4] at H
            exact absurd H (by simp)
        · rw [if_neg c3] at H
          exact absurd H (by simp)
      · rw [if_neg c2] at H
        have c2b0:decide (x7_1<(l0.length:Int))=false:=decide_eq_false c2
        clear c2
        obtain rfl:=Option.some.inj H
        go_wp2
        go_ret
        exact ⟨by first|rfl|(simp;done)|(simp [*];done),by repeat (first|exact Drawn0.refl _|apply Drawn0.step)⟩
end Go.Proofs.Ytcgknibjbnijmaa.QPw
end
section
namespace Go.Proofs.Ytcgknibjbnijmaa.QPw
open RowKit YtcgknibjbnijmaaW.PrintWords YtcgknibjbnijmaaW.PrintLast YtcgknibjbnijmaaW.PrintMore
attribute [local go_sem] max2_int min2_int max_two min_two max_three min_three max_four min_four   -- for this text's walks alone
set_option linter.unusedVariables false
set_option linter.unusedSimpArgs false
mutual
def power_needs.j0:Nat→Int→Int→Int→Bool→Option (Int)
  | 0,_,_,_,_=>none
  | k+1,x0,x3,x6,x7=>if x7=true then ((power_Of_int.f k (([3]:List Int))).bind fun t109=>(some (Go.bits .or .u32 x3 t109))) else (if x6=7 then (power_needs.j1 k x0 x3 x6 (x6 == 7)) else (if x6=8 then (power_needs.j1 k x0 x3 x6 (x6 == 8)) else (power_needs.j1 k x0 x3 x6 (x6 == 14))))
def power_needs.j1:Nat→Int→Int→Int→Bool→Option (Int)
  | 0,_,_,_,_=>none
  | k+1,x0,x3,x6,x14=>if x14=true then (some x3) else (if x6=10 then ((power_Of_int.f k (([4]:List Int))).bind fun t113=>(some t113)) else (if x6=11 then (power_needs.j2 k x0 (x6 == 11)) else (if x6=12 then (power_needs.j2 k x0 (x6 == 12)) else (if x6=13 then (power_needs.j2 k x0 (x6 == 13)) else (power_needs.j2 k x0 (x6 == 15))))))
def power_needs.j2:Nat→Int→Bool→Option (Int)
  | 0,_,_=>none
  | k+1,x0,x23=>if x23=true then ((power_Of_int.f k (([1]:List Int))).bind fun t117=>(some t117)) else ((power_Of_int.f k (([x0]:List Int))).bind fun t121=>(some t121))
end
def power_needs.f (k:Nat) (a0:Int):Option (Int):=(power_Of_int.f k (([1,2]:List Int))).bind fun t105=>(if a0=6 then (power_needs.j0 k a0 t105 a0 (a0 == 6)) else (power_needs.j0 k a0 t105 a0 (a0 == 9)))
theorem power_needs.mono_l:∀ k,(∀ y0 y1 y2 y3,LeO (power_needs.j0 k y0 y1 y2 y3) (power_needs.j0 (k+1) y0 y1 y2 y3))∧(∀ y0 y1 y2 y3,LeO (power_needs.j1 k y0 y1 y2 y3) (power_needs.j1 (k+1) y0 y1 y2 y3))∧(∀ y0 y1,LeO (power_needs.j2 k y0 y1) (power_needs.j2 (k+1) y0 y1))
  | 0=>⟨fun _ _ _ _ r h=>by simp [power_needs.j0] at h,fun _ _ _ _ r h=>by simp [power_needs.j1] at h,fun _ _ r h=>by simp [power_needs.j2] at h⟩
  | k + 1 => by
    obtain ⟨ih0,ih1,ih2⟩:=power_needs.mono_l k
    refine ⟨?_,?_,?_⟩
    · intro y0 y1 y2 y3
      unfold power_needs.j0
      repeat' first
      | (with_reducible exact ih0 _ _ _ _)
      | (with_reducible exact ih1 _ _ _ _)
      | (with_reducible exact ih2 _ _)
      | (with_reducible exact power_Of_int.mono _ _)
      | (with_reducible exact LeO.refl _)
      | (with_reducible exact LeO.none _)
      | (with_reducible refine LeO.ite ?_ ?_)
      | (with_reducible refine LeO.bind ?_ (fun _=>?_))
      | exact ih0 _ _ _ _
      | exact ih1 _ _ _ _
      | exact ih2 _ _
      | exact power_Of_int.mono _ _
      | exact LeO.none _
      | refine LeO.ite ?_ ?_
      | refine LeO.bind ?_ (fun _=>?_)
    · intro y0 y1 y2 y3
      unfold power_needs.j1
      repeat' first
      | (with_reducible exact ih0 _ _ _ _)
      | (with_reducible exact ih1 _ _ _ _)
      | (with_reducible exact ih2 _ _)
      | (with_reducible exact power_Of_int.mono _ _)
      | (with_reducible exact LeO.refl _)
      | (with_reducible exact LeO.none _)
      | (with_reducible refine LeO.ite ?_ ?_)
      | (with_reducible refine LeO.bind ?_ (fun _=>?_))
      | exact ih0 _ _ _ _
      | exact ih1 _ _ _ _
      | exact ih2 _ _
      | exact power_Of_int.mono _ _
      | exact LeO.none _
      | refine LeO.ite ?_ ?_
      | refine LeO.bind ?_ (fun _=>?_)
    · intro y0 y1
      unfold power_needs.j2
      repeat' first
      | (with_reducible exact ih0 _ _ _ _)
      | (with_reducible exact ih1 _ _ _ _)
      | (with_reducible exact ih2 _ _)
      | (with_reducible exact power_Of_int.mono _ _)
      | (with_reducible exact LeO.refl _)
      | (with_reducible exact LeO.none _)
      | (with_reducible refine LeO.ite ?_ ?_)
      | (with_reducible refine LeO.bind ?_ (fun _=>?_))
      | exact ih0 _ _ _ _
      | exact ih1 _ _ _ _
      | exact ih2 _ _
      | exact power_Of_int.mono _ _
      | exact LeO.none _
      | refine LeO.ite ?_ ?_
      | refine LeO.bind ?_ (fun _=>?_)
theorem power_needs.mono:∀ a0 k,LeO (power_needs.f k a0) (power_needs.f (k+1) a0):=by
  intro a0 k
  obtain ⟨ih0,ih1,ih2⟩:=power_needs.mono_l k
  unfold power_needs.f
  repeat' first
      | (with_reducible exact ih0 _ _ _ _)
      | (with_reducible exact ih1 _ _ _ _)
      | (with_reducible exact ih2 _ _)
      | (with_reducible exact power_Of_int.mono _ _)
      | (with_reducible exact LeO.refl _)
      | (with_reducible exact LeO.none _)
      | (with_reducible refine LeO.ite ?_ ?_)
      | (with_reducible refine LeO.bind ?_ (fun _=>?_))
      | exact ih0 _ _ _ _
      | exact ih1 _ _ _ _
      | exact ih2 _ _
      | exact power_Of_int.mono _ _
      | exact LeO.none _
      | refine LeO.ite ?_ ?_
      | refine LeO.bind ?_ (fun _=>?_)
set_option maxHeartbeats 8000000 in
set_option maxRecDepth 100000 in
theorem power_needs.calls (k:Nat) (a0:Int) (r:Int) (w:World) (h:power_needs.f k a0=some r) :
    Calls Try.prog 57 #[.int .i64 a0] w fun e w'=>e = .returned (.int .u32 r)∧Below w.heap.size w w':=by
  have HB:=Aside0.mk (Below.refl w.heap.size w)
  have H:((power_Of_int.f k (([1,2]:List Int))).bind fun t105=>(if a0=6 then (power_needs.j0 k a0 t105 a0 (a0 == 6)) else (power_needs.j0 k a0 t105 a0 (a0 == 9))))=some r:=h
  clear h
  obtain ⟨y102,hy102⟩:∃ y_:List Int,y_=(([1,2]:List Int)):=⟨_,rfl⟩
  replace H:((power_Of_int.f k y102).bind fun t105=>(if a0=6 then (power_needs.j0 k a0 t105 a0 (a0 == 6)) else (power_needs.j0 k a0 t105 a0 (a0 == 9))))=some r:=by first|(rw [hy102];with_reducible exact H)|(have H2_:=(Option.bind_some _ _).symm.trans H;rw [hy102];with_reducible exact H2_)|(have H2_:=(Option.bind_some _ _).symm.trans H;with_reducible exact H2_)|with_reducible exact H|(rw [hy102];exact H)|exact H
  have Ny102:=Aside0.mk hy102
  clear hy102
  replace H:=Option.bind_eq_some_iff.mp H
  obtain ⟨t105,A20,H⟩:=H
  replace H:(if a0=6 then (power_needs.j0 k a0 t105 a0 (a0 == 6)) else (power_needs.j0 k a0 t105 a0 (a0 == 9)))=some r:=H
  have A2:=Aside0.mk A20
  clear A20
  have HC3:=Aside0.mk H
  clear H
  go_enter Try.func57,Try.ntmps57
  go_upto_if 7 with (first|((with_reducible refine gate_dst (N:=4) rfl ?_);refine Kd.R_lit (Kd.int .i64) _ 3 ?hg (N:=4) ?hd (xs:=([1,2]:List Int)) (inner:=[.int .i64 1,.int .i64 2]) (ok:=fun _=>True) (okp:=fun _=>True) ?hr ?hp (fun _ hk=>hk) trivial (Below.refl _ _) (Nat.le_refl _) (by simp) ?_;(case hd=>rfl);(case hg=>rfl);(case hr=>first|(go_simp;done)|(go_simp;rfl));(case hp=>exact (Reps.one (show Kd.M (Kd.int .i64) _ _ _ 1 [.int .i64 1] from rfl) (Reps.one (show Kd.M (Kd.int .i64) _ _ _ 2 [.int .i64 2] from rfl) (Reps.none _ _))));intro v103 w4 ho5 hb hg_ hnew_;clear hg_ hnew_;(first|rw [← Ny102.out] at ho5|(simp only [Int.reduceToNat] at ho5;rw [← Ny102.out] at ho5));have n0_:=Aside0.mk (Kd.R_lower ho5 (below_size (by repeat (first|(with_reducible first|exact HB.out|apply below_alloc|apply pw_below_drewN|apply below_drew1)|exact HB.out))));have n1_:=Aside0.mk (below_step (by repeat (first|(with_reducible first|exact HB.out|apply below_alloc|apply pw_below_drewN|apply below_drew1)|exact HB.out)) hb);clear HB;have HO104:=n0_;have HB:=n1_;clear n0_ n1_;clear hb ho5;obtain ⟨Ao6,co6,eo6⟩:=Kd.R_slice HO104.out;subst eo6)|((with_reducible refine gate_callee (f:=78) rfl ?_);refine goesL_ (some 5) rfl rfl Try.func78 (by kernel_rfl) rfl #[.slice Ao6 y102.length co6] rfl (by (try simp only [List.map_toArray,List.map_cons,List.map_nil]);first|done|rfl|(simp only [List.length_drop,List.length_take];rfl)) ?_;(with_reducible refine (power_Of_int.calls k _ _ y102 t105 _ ?side1 ?side2 A2.out).mono ?_);(case side1=>repeat (first|exact (Kd.R_reads' HO104.out).2.2|(with_reducible refine Kd.C_alloc ?_ _)|(with_reducible refine Kd.C_drewN ?_ _)|(with_reducible refine Kd.C_drew ?_)));(case side2=>exact (Kd.R_reads' HO104.out).2.1);rintro e w' ⟨rfl,⟨nd,rfl⟩⟩;refine ⟨_,rfl,?_⟩))
  (try simp only [Act.put,List.setIfInBounds_toArray,List.set_cons_zero,List.set_cons_succ])
  go_cut [7] (fun v7 wc=>∃ (kq:Nat) (x7_2:Bool),v7 = .bool x7_2∧Aside0 (power_needs.j0 kq a0 t105 a0 x7_2=some r)∧Aside0 (kq≤k)∧Aside0 (Below w.heap.size w wc))
  case first =>
    have H:=HC3.out
    clear HC3
    by_cases c7:a0=6
    · rw [if_pos c7] at H
      have c7b0:(a0 == 6)=true:=beq_iff_eq.mpr c7
      have c7b1:(a0 != 6)=false:=bne_eq_false_iff_eq.mpr c7
      clear c7
      (first|rw [c7b0]|(simp only [i64_w,i32_w];rw [c7b0])|skip)
      have H':=Aside0.mk H
      clear H
      go_wp2
      go_meet
      case rel=>exact ⟨_,((a0 == 6)),(by first|rfl|(simp;done)|(simp [*];done)),H',⟨by first|omega|exact Nat.le_refl _⟩,⟨by repeat (first|(with_reducible first|exact HB.out|apply below_alloc|apply pw_below_drewN|apply below_drew1)|exact HB.out)⟩⟩
    · rw [if_neg c7] at H
      have c7b0:(a0 == 6)=false:=beq_eq_false_iff_ne.mpr c7
      have c7b1:(a0 != 6)=true:=bne_iff_ne.mpr c7
      (first|rw [c7b0]|(simp only [i64_w,i32_w];rw [c7b0])|skip)
      have H':=Aside0.mk H
      clear H
      go_wp2
      go_meet
      case rel=>exact ⟨_,((a0 == 9)),(by first|rfl|(simp;done)|(simp [*];done)),H',⟨by first|omega|exact Nat.le_refl _⟩,⟨by repeat (first|(with_reducible first|exact HB.out|apply below_alloc|apply pw_below_drewN|apply below_drew1)|exact HB.out)⟩⟩
  case rest =>
    clear HC3
    try clear p2
    try clear c5
    try clear c7
    try clear c7b0
    try clear c7b1
    obtain ⟨kq,x7_2,rfl,HA,HJ2,HB⟩:=hcut
    cases kq with
    | zero=>exact absurd HA.out (by simp [power_needs.j0])
    | succ kj2 =>
      have H:=HA.out
      clear HA
      simp only [power_needs.j0] at H
      by_cases c8:x7_2=true
      · subst c8
        have H1:((power_Of_int.f kj2 (([3]:List Int))).bind fun t109=>(some (Go.bits .or .u32 t105 t109)))=some r:=by rw [if_pos rfl] at H;exact H
        clear H
        have H:=H1
        clear H1
        obtain ⟨y106,hy106⟩:∃ y_:List Int,y_=(([3]:List Int)):=⟨_,rfl⟩
        replace H:((power_Of_int.f kj2 y106).bind fun t109=>(some (Go.bits .or .u32 t105 t109)))=some r:=by first|(rw [hy106];with_reducible exact H)|(have H2_:=(Option.bind_some _ _).symm.trans H;rw [hy106];with_reducible exact H2_)|(have H2_:=(Option.bind_some _ _).symm.trans H;with_reducible exact H2_)|with_reducible exact H|(rw [hy106];exact H)|exact H
        have Ny106:=Aside0.mk hy106
        clear hy106
        replace H:=Option.bind_eq_some_iff.mp H
        obtain ⟨t109,A90,H⟩:=H
        replace H:(some (Go.bits .or .u32 t105 t109))=some r:=H
        have A9:=Aside0.mk A90
        clear A90
        obtain rfl:=Option.some.inj H
        go_wp2_with (first|((with_reducible refine gate_dst (N:=11) rfl ?_);refine Kd.R_lit (Kd.int .i64) _ 3 ?hg (N:=11) ?hd (xs:=([3]:List Int)) (inner:=[.int .i64 3]) (ok:=fun _=>True) (okp:=fun _=>True) ?hr ?hp (fun _ hk=>hk) trivial (Below.refl _ _) (Nat.le_refl _) (by simp) ?_;(case hd=>rfl);(case hg=>rfl);(case hr=>first|(go_simp;done)|(go_simp;rfl));(case hp=>exact (Reps.one (show Kd.M (Kd.int .i64) _ _ _ 3 [.int .i64 3] from rfl) (Reps.none _ _)));intro v107 w10 ho11 hb hg_ hnew_;clear hg_ hnew_;(first|rw [← Ny106.out] at ho11|(simp only [Int.reduceToNat] at ho11;rw [← Ny106.out] at ho11));have n0_:=Aside0.mk (Kd.R_lower ho11 (below_size (by repeat (first|(with_reducible first|exact HB.out|apply below_alloc|apply pw_below_drewN|apply below_drew1)|exact HB.out))));have n1_:=Aside0.mk (below_step (by repeat (first|(with_reducible first|exact HB.out|apply below_alloc|apply pw_below_drewN|apply below_drew1)|exact HB.out)) hb);clear HB;have HO108:=n0_;have HB:=n1_;clear n0_ n1_;clear hb ho11;obtain ⟨Ao12,co12,eo12⟩:=Kd.R_slice HO108.out;subst eo12)|((with_reducible refine gate_callee (f:=78) rfl ?_);refine goesL_ (some 12) rfl rfl Try.func78 (by kernel_rfl) rfl #[.slice Ao12 y106.length co12] rfl (by (try simp only [List.map_toArray,List.map_cons,List.map_nil]);first|done|rfl|(simp only [List.length_drop,List.length_take];rfl)) ?_;(with_reducible refine (power_Of_int.calls kj2 _ _ y106 t109 _ ?side1 ?side2 A9.out).mono ?_);(case side1=>repeat (first|exact (Kd.R_reads' HO108.out).2.2|(with_reducible refine Kd.C_alloc ?_ _)|(with_reducible refine Kd.C_drewN ?_ _)|(with_reducible refine Kd.C_drew ?_)));(case side2=>exact (Kd.R_reads' HO108.out).2.1);rintro e w' ⟨rfl,⟨nd,rfl⟩⟩;refine ⟨_,rfl,?_⟩))
        go_ret
        exact ⟨by first|rfl|(simp [errW_none,errW_some]<;>rfl)|(simp [*,errW_none,errW_some]<;>rfl),by repeat (first|(with_reducible first|exact HB.out|apply below_alloc|apply pw_below_drewN|apply below_drew1)|exact HB.out)⟩
      · replace c8 := Bool.eq_false_iff.mpr c8
        subst c8
        have H1:(if a0=7 then (power_needs.j1 kj2 a0 t105 a0 (a0 == 7)) else (if a0=8 then (power_needs.j1 kj2 a0 t105 a0 (a0 == 8)) else (power_needs.j1 kj2 a0 t105 a0 (a0 == 14))))=some r:=by rw [if_neg (show ¬ (false=true) by decide)] at H;exact H
        clear H
        have H:=H1
        clear H1
        have HC13:=Aside0.mk H
        clear H
        go_upto_if 14 with (fail)
        go_cut [14] (fun v14 wc=>∃ (kq:Nat) (x14_12:Bool),v14 = .bool x14_12∧Aside0 (power_needs.j1 kq a0 t105 a0 x14_12=some r)∧Aside0 (kq≤kj2)∧Aside0 (Below w.heap.size w wc))
        case first =>
          have H:=HC13.out
          clear HC13
          by_cases c14:a0=7
          · rw [if_pos c14] at H
            have c14b0:(a0 == 7)=true:=beq_iff_eq.mpr c14
            have c14b1:(a0 != 7)=false:=bne_eq_false_iff_eq.mpr c14
            clear c14
            (first|rw [c14b0]|(simp only [i64_w,i32_w];rw [c14b0])|skip)
            have H':=Aside0.mk H
            clear H
            go_wp2
            go_meet
            case rel=>exact ⟨_,((a0 == 7)),(by first|rfl|(simp;done)|(simp [*];done)),H',⟨by have:=HJ2.out;first|omega|exact Nat.le_refl _⟩,⟨by repeat (first|(with_reducible first|exact HB.out|apply below_alloc|apply pw_below_drewN|apply below_drew1)|exact HB.out)⟩⟩
          · rw [if_neg c14] at H
            have c14b0:(a0 == 7)=false:=beq_eq_false_iff_ne.mpr c14
            have c14b1:(a0 != 7)=true:=bne_iff_ne.mpr c14
            (first|rw [c14b0]|(simp only [i64_w,i32_w];rw [c14b0])|skip)
            by_cases c15:a0=8
            · rw [if_pos c15] at H
              have c15b0:(a0 == 8)=true:=beq_iff_eq.mpr c15
              have c15b1:(a0 != 8)=false:=bne_eq_false_iff_eq.mpr c15
              clear c15
              have H':=Aside0.mk H
              clear H
              go_wp2
              go_meet
              case rel=>exact ⟨_,((a0 == 8)),(by first|rfl|(simp;done)|(simp [*];done)),H',⟨by have:=HJ2.out;first|omega|exact Nat.le_refl _⟩,⟨by repeat (first|(with_reducible first|exact HB.out|apply below_alloc|apply pw_below_drewN|apply below_drew1)|exact HB.out)⟩⟩
            · rw [if_neg c15] at H
              have c15b0:(a0 == 8)=false:=beq_eq_false_iff_ne.mpr c15
              have c15b1:(a0 != 8)=true:=bne_iff_ne.mpr c15
              have H':=Aside0.mk H
              clear H
              go_wp2
              go_meet
              case rel=>exact ⟨_,((a0 == 14)),(by first|rfl|(simp;done)|(simp [*];done)),H',⟨by have:=HJ2.out;first|omega|exact Nat.le_refl _⟩,⟨by repeat (first|(with_reducible first|exact HB.out|apply below_alloc|apply pw_below_drewN|apply below_drew1)|exact HB.out)⟩⟩
        case rest =>
          clear HC13
          try clear c1
          try clear p2
          try clear c5
          try clear c7
          try clear c7b0
          try clear c7b1
          try clear c8
          try clear c14
          try clear c14b0
          try clear c14b1
          try clear c15
          try clear c15b0
          try clear c15b1
          try clear p2
          obtain ⟨kq,x14_12,rfl,HA,HJ12,HB⟩:=hcut
          cases kq with
          | zero=>exact absurd HA.out (by simp [power_needs.j1])
          | succ kj12 =>
            have H:=HA.out
            clear HA
            simp only [power_needs.j1] at H
            by_cases c16:x14_12=true
            · subst c16
              have H1:(some t105)=some r:=by rw [if_pos rfl] at H;exact H
              clear H
              have H:=H1
              clear H1
              obtain rfl:=Option.some.inj H
              go_wp2
              go_ret
              exact ⟨by first|rfl|(simp [errW_none,errW_some]<;>rfl)|(simp [*,errW_none,errW_some]<;>rfl),by repeat (first|(with_reducible first|exact HB.out|apply below_alloc|apply pw_below_drewN|apply below_drew1)|exact HB.out)⟩
            · replace c16:=Bool.eq_false_iff.mpr c16
              subst c16
              have H1:(if a0=10 then ((power_Of_int.f kj12 (([4]:List Int))).bind fun t113=>(some t113)) else (if a0=11 then (power_needs.j2 kj12 a0 (a0 == 11)) else (if a0=12 then (power_needs.j2 kj12 a0 (a0 == 12)) else (if a0=13 then (power_needs.j2 kj12 a0 (a0 == 13)) else (power_needs.j2 kj12 a0 (a0 == 15))))))=some r:=by rw [if_neg (show ¬ (false=true) by decide)] at H;exact H
              clear H
              have H:=H1
              clear H1
              by_cases c17:a0=10
              · rw [if_pos c17] at H
                have c17b0:(a0 == 10)=true:=beq_iff_eq.mpr c17
                have c17b1:(a0 != 10)=false:=bne_eq_false_iff_eq.mpr c17
                clear c17
                obtain ⟨y110,hy110⟩:∃ y_:List Int,y_=(([4]:List Int)):=⟨_,rfl⟩
                replace H:((power_Of_int.f kj12 y110).bind fun t113=>(some t113))=some r:=by first|(rw [hy110];with_reducible exact H)|(have H2_:=(Option.bind_some _ _).symm.trans H;rw [hy110];with_reducible exact H2_)|(have H2_:=(Option.bind_some _ _).symm.trans H;with_reducible exact H2_)|with_reducible exact H|(rw [hy110];exact H)|exact H
                have Ny110:=Aside0.mk hy110
                clear hy110
                replace H:=Option.bind_eq_some_iff.mp H
                obtain ⟨t113,A180,H⟩:=H
                replace H:(some t113)=some r:=H
                have A18:=Aside0.mk A180
                clear A180
                obtain rfl:=Option.some.inj H
                go_wp2_with (first|((with_reducible refine gate_dst (N:=21) rfl ?_);refine Kd.R_lit (Kd.int .i64) _ 3 ?hg (N:=21) ?hd (xs:=([4]:List Int)) (inner:=[.int .i64 4]) (ok:=fun _=>True) (okp:=fun _=>True) ?hr ?hp (fun _ hk=>hk) trivial (Below.refl _ _) (Nat.le_refl _) (by simp) ?_;(case hd=>rfl);(case hg=>rfl);(case hr=>first|(go_simp;done)|(go_simp;rfl));(case hp=>exact (Reps.one (show Kd.M (Kd.int .i64) _ _ _ 4 [.int .i64 4] from rfl) (Reps.none _ _)));intro v111 w19 ho20 hb hg_ hnew_;clear hg_ hnew_;(first|rw [← Ny110.out] at ho20|(simp only [Int.reduceToNat] at ho20;rw [← Ny110.out] at ho20));have n0_:=Aside0.mk (Kd.R_lower ho20 (below_size (by repeat (first|(with_reducible first|exact HB.out|apply below_alloc|apply pw_below_drewN|apply below_drew1)|exact HB.out))));have n1_:=Aside0.mk (below_step (by repeat (first|(with_reducible first|exact HB.out|apply below_alloc|apply pw_below_drewN|apply below_drew1)|exact HB.out)) hb);clear HB;have HO112:=n0_;have HB:=n1_;clear n0_ n1_;clear hb ho20;obtain ⟨Ao21,co21,eo21⟩:=Kd.R_slice HO112.out;subst eo21)|((with_reducible refine gate_callee (f:=78) rfl ?_);refine goesL_ (some 22) rfl rfl Try.func78 (by kernel_rfl) rfl #[.slice Ao21 y110.length co21] rfl (by (try simp only [List.map_toArray,List.map_cons,List.map_nil]);first|done|rfl|(simp only [List.length_drop,List.length_take];rfl)) ?_;(with_reducible refine (power_Of_int.calls kj12 _ _ y110 t113 _ ?side1 ?side2 A18.out).mono ?_);(case side1=>repeat (first|exact (Kd.R_reads' HO112.out).2.2|(with_reducible refine Kd.C_alloc ?_ _)|(with_reducible refine Kd.C_drewN ?_ _)|(with_reducible refine Kd.C_drew ?_)));(case side2=>exact (Kd.R_reads' HO112.out).2.1);rintro e w' ⟨rfl,⟨nd,rfl⟩⟩;refine ⟨_,rfl,?_⟩))
                go_ret
                exact ⟨by first|rfl|(simp [errW_none,errW_some]<;>rfl)|(simp [*,errW_none,errW_some]<;>rfl),by repeat (first|(with_reducible first|exact HB.out|apply below_alloc|apply pw_below_drewN|apply below_drew1)|exact HB.out)⟩
              · rw [if_neg c17] at H
                have c17b0:(a0 == 10)=false:=beq_eq_false_iff_ne.mpr c17
                have c17b1:(a0 != 10)=true:=bne_iff_ne.mpr c17
                have HC22:=Aside0.mk H
                clear H
                go_upto_if 23 with (fail)
                go_cut [23] (fun v23 wc=>∃ (kq:Nat) (x23_21:Bool),v23 = .bool x23_21∧Aside0 (power_needs.j2 kq a0 x23_21=some r)∧Aside0 (kq≤kj12)∧Aside0 (Below w.heap.size w wc))
                case first =>
                  have H:=HC22.out
                  clear HC22
                  by_cases c23:a0=11
                  · rw [if_pos c23] at H
                    have c23b0:(a0 == 11)=true:=beq_iff_eq.mpr c23
                    have c23b1:(a0 != 11)=false:=bne_eq_false_iff_eq.mpr c23
                    clear c23
                    (first|rw [c23b0]|(simp only [i64_w,i32_w];rw [c23b0])|skip)
                    have H':=Aside0.mk H
                    clear H
                    go_wp2
                    go_meet
                    case rel=>exact ⟨_,((a0 == 11)),(by first|rfl|(simp;done)|(simp [*];done)),H',⟨by have:=HJ2.out;have:=HJ12.out;first|omega|exact Nat.le_refl _⟩,⟨by repeat (first|(with_reducible first|exact HB.out|apply below_alloc|apply pw_below_drewN|apply below_drew1)|exact HB.out)⟩⟩
                  · rw [if_neg c23] at H
                    have c23b0:(a0 == 11)=false:=beq_eq_false_iff_ne.mpr c23
                    have c23b1:(a0 != 11)=true:=bne_iff_ne.mpr c23
                    (first|rw [c23b0]|(simp only [i64_w,i32_w];rw [c23b0])|skip)
                    by_cases c24:a0=12
                    · rw [if_pos c24] at H
                      have c24b0:(a0 == 12)=true:=beq_iff_eq.mpr c24
                      have c24b1:(a0 != 12)=false:=bne_eq_false_iff_eq.mpr c24
                      clear c24
                      have H':=Aside0.mk H
                      clear H
                      go_wp2
                      go_meet
                      case rel=>exact ⟨_,((a0 == 12)),(by first|rfl|(simp;done)|(simp [*];done)),H',⟨by have:=HJ2.out;have:=HJ12.out;first|omega|exact Nat.le_refl _⟩,⟨by repeat (first|(with_reducible first|exact HB.out|apply below_alloc|apply pw_below_drewN|apply below_drew1)|exact HB.out)⟩⟩
                    · rw [if_neg c24] at H
                      have c24b0:(a0 == 12)=false:=beq_eq_false_iff_ne.mpr c24
                      have c24b1:(a0 != 12)=true:=bne_iff_ne.mpr c24
                      by_cases c25:a0=13
                      · rw [if_pos c25] at H
                        have c25b0:(a0 == 13)=true:=beq_iff_eq.mpr c25
                        have c25b1:(a0 != 13)=false:=bne_eq_false_iff_eq.mpr c25
                        clear c25
                        have H':=Aside0.mk H
                        clear H
                        go_wp2
                        go_meet
                        case rel=>exact ⟨_,((a0 == 13)),(by first|rfl|(simp;done)|(simp [*];done)),H',⟨by have:=HJ2.out;have:=HJ12.out;first|omega|exact Nat.le_refl _⟩,⟨by repeat (first|(with_reducible first|exact HB.out|apply below_alloc|apply pw_below_drewN|apply below_drew1)|exact HB.out)⟩⟩
                      · rw [if_neg c25] at H
                        have c25b0:(a0 == 13)=false:=beq_eq_false_iff_ne.mpr c25
                        have c25b1:(a0 != 13)=true:=bne_iff_ne.mpr c25
                        have H':=Aside0.mk H
                        clear H
                        go_wp2
                        go_meet
                        case rel=>exact ⟨_,((a0 == 15)),(by first|rfl|(simp;done)|(simp [*];done)),H',⟨by have:=HJ2.out;have:=HJ12.out;first|omega|exact Nat.le_refl _⟩,⟨by repeat (first|(with_reducible first|exact HB.out|apply below_alloc|apply pw_below_drewN|apply below_drew1)|exact HB.out)⟩⟩
                case rest =>
                  clear HC22
                  try clear c1
                  try clear c2
                  try clear p2
                  try clear c5
                  try clear c7
                  try clear c7b0
                  try clear c7b1
                  try clear c8
                  try clear c14
                  try clear c14b0
                  try clear c14b1
                  try clear c15
                  try clear c15b0
                  try clear c15b1
                  try clear c16
                  try clear c17
                  try clear c17b0
                  try clear c17b1
                  try clear c23
                  try clear c23b0
                  try clear c23b1
                  try clear c24
                  try clear c24b0
                  try clear c24b1
                  try clear c25
                  try clear c25b0
                  try clear c25b1
                  try clear p2
                  obtain ⟨kq,x23_21,rfl,HA,HJ21,HB⟩:=hcut
                  cases kq with
                  | zero=>exact absurd HA.out (by simp [power_needs.j2])
                  | succ kj21 =>
                    have H:=HA.out
                    clear HA
                    simp only [power_needs.j2] at H
                    by_cases c26:x23_21=true
                    · subst c26
                      have H1:((power_Of_int.f kj21 (([1]:List Int))).bind fun t117=>(some t117))=some r:=by rw [if_pos rfl] at H;exact H
                      clear H
                      have H:=H1
                      clear H1
                      obtain ⟨y114,hy114⟩:∃ y_:List Int,y_=(([1]:List Int)):=⟨_,rfl⟩
                      replace H:((power_Of_int.f kj21 y114).bind fun t117=>(some t117))=some r:=by first|(rw [hy114];with_reducible exact H)|(have H2_:=(Option.bind_some _ _).symm.trans H;rw [hy114];with_reducible exact H2_)|(have H2_:=(Option.bind_some _ _).symm.trans H;with_reducible exact H2_)|with_reducible exact H|(rw [hy114];exact H)|exact H
                      have Ny114:=Aside0.mk hy114
                      clear hy114
                      replace H:=Option.bind_eq_some_iff.mp H
                      obtain ⟨t117,A270,H⟩:=H
                      replace H:(some t117)=some r:=H
                      have A27:=Aside0.mk A270
                      clear A270
                      obtain rfl:=Option.some.inj H
                      go_wp2_with (first|((with_reducible refine gate_dst (N:=28) rfl ?_);refine Kd.R_lit (Kd.int .i64) _ 3 ?hg (N:=28) ?hd (xs:=([1]:List Int)) (inner:=[.int .i64 1]) (ok:=fun _=>True) (okp:=fun _=>True) ?hr ?hp (fun _ hk=>hk) trivial (Below.refl _ _) (Nat.le_refl _) (by simp) ?_;(case hd=>rfl);(case hg=>rfl);(case hr=>first|(go_simp;done)|(go_simp;rfl));(case hp=>exact (Reps.one (show Kd.M (Kd.int .i64) _ _ _ 1 [.int .i64 1] from rfl) (Reps.none _ _)));intro v115 w28 ho29 hb hg_ hnew_;clear hg_ hnew_;(first|rw [← Ny114.out] at ho29|(simp only [Int.reduceToNat] at ho29;rw [← Ny114.out] at ho29));have n0_:=Aside0.mk (Kd.R_lower ho29 (below_size (by repeat (first|(with_reducible first|exact HB.out|apply below_alloc|apply pw_below_drewN|apply below_drew1)|exact HB.out))));have n1_:=Aside0.mk (below_step (by repeat (first|(with_reducible first|exact HB.out|apply below_alloc|apply pw_below_drewN|apply below_drew1)|exact HB.out)) hb);clear HB;have HO116:=n0_;have HB:=n1_;clear n0_ n1_;clear hb ho29;obtain ⟨Ao30,co30,eo30⟩:=Kd.R_slice HO116.out;subst eo30)|((with_reducible refine gate_callee (f:=78) rfl ?_);refine goesL_ (some 29) rfl rfl Try.func78 (by kernel_rfl) rfl #[.slice Ao30 y114.length co30] rfl (by (try simp only [List.map_toArray,List.map_cons,List.map_nil]);first|done|rfl|(simp only [List.length_drop,List.length_take];rfl)) ?_;(with_reducible refine (power_Of_int.calls kj21 _ _ y114 t117 _ ?side1 ?side2 A27.out).mono ?_);(case side1=>repeat (first|exact (Kd.R_reads' HO116.out).2.2|(with_reducible refine Kd.C_alloc ?_ _)|(with_reducible refine Kd.C_drewN ?_ _)|(with_reducible refine Kd.C_drew ?_)));(case side2=>exact (Kd.R_reads' HO116.out).2.1);rintro e w' ⟨rfl,⟨nd,rfl⟩⟩;refine ⟨_,rfl,?_⟩))
                      go_ret
                      exact ⟨by first|rfl|(simp [errW_none,errW_some]<;>rfl)|(simp [*,errW_none,errW_some]<;>rfl),by repeat (first|(with_reducible first|exact HB.out|apply below_alloc|apply pw_below_drewN|apply below_drew1)|exact HB.out)⟩
                    · replace c26:=Bool.eq_false_iff.mpr c26
                      subst c26
                      have H1:((power_Of_int.f kj21 (([a0]:List Int))).bind fun t121=>(some t121))=some r:=by rw [if_neg (show ¬ (false=true) by decide)] at H;exact H
                      clear H
                      have H:=H1
                      clear H1
                      obtain ⟨y118,hy118⟩:∃ y_:List Int,y_=(([a0]:List Int)):=⟨_,rfl⟩
                      replace H:((power_Of_int.f kj21 y118).bind fun t121=>(some t121))=some r:=by first|(rw [hy118];with_reducible exact H)|(have H2_:=(Option.bind_some _ _).symm.trans H;rw [hy118];with_reducible exact H2_)|(have H2_:=(Option.bind_some _ _).symm.trans H;with_reducible exact H2_)|with_reducible exact H|(rw [hy118];exact H)|exact H
                      have Ny118:=Aside0.mk hy118
                      clear hy118
                      replace H:=Option.bind_eq_some_iff.mp H
                      obtain ⟨t121,A310,H⟩:=H
                      replace H:(some t121)=some r:=H
                      have A31:=Aside0.mk A310
                      clear A310
                      obtain rfl:=Option.some.inj H
                      go_wp2_with (first|((with_reducible refine gate_dst (N:=31) rfl ?_);refine Kd.R_lit (Kd.int .i64) _ 3 ?hg (N:=31) ?hd (xs:=([a0]:List Int)) (inner:=[.int .i64 a0]) (ok:=fun _=>True) (okp:=fun _=>True) ?hr ?hp (fun _ hk=>hk) trivial (Below.refl _ _) (Nat.le_refl _) (by simp) ?_;(case hd=>rfl);(case hg=>rfl);(case hr=>first|(go_simp;done)|(go_simp;rfl));(case hp=>exact (Reps.one (show Kd.M (Kd.int .i64) _ _ _ a0 [.int .i64 a0] from rfl) (Reps.none _ _)));intro v119 w32 ho33 hb hg_ hnew_;clear hg_ hnew_;(first|rw [← Ny118.out] at ho33|(simp only [Int.reduceToNat] at ho33;rw [← Ny118.out] at ho33));have n0_:=Aside0.mk (Kd.R_lower ho33 (below_size (by repeat (first|(with_reducible first|exact HB.out|apply below_alloc|apply pw_below_drewN|apply below_drew1)|exact HB.out))));have n1_:=Aside0.mk (below_step (by repeat (first|(with_reducible first|exact HB.out|apply below_alloc|apply pw_below_drewN|apply below_drew1)|exact HB.out)) hb);clear HB;have HO120:=n0_;have HB:=n1_;clear n0_ n1_;clear hb ho33;obtain ⟨Ao34,co34,eo34⟩:=Kd.R_slice HO120.out;subst eo34)|((with_reducible refine gate_callee (f:=78) rfl ?_);refine goesL_ (some 32) rfl rfl Try.func78 (by kernel_rfl) rfl #[.slice Ao34 y118.length co34] rfl (by (try simp only [List.map_toArray,List.map_cons,List.map_nil]);first|done|rfl|(simp only [List.length_drop,List.length_take];rfl)) ?_;(with_reducible refine (power_Of_int.calls kj21 _ _ y118 t121 _ ?side1 ?side2 A31.out).mono ?_);(case side1=>repeat (first|exact (Kd.R_reads' HO120.out).2.2|(with_reducible refine Kd.C_alloc ?_ _)|(with_reducible refine Kd.C_drewN ?_ _)|(with_reducible refine Kd.C_drew ?_)));(case side2=>exact (Kd.R_reads' HO120.out).2.1);rintro e w' ⟨rfl,⟨nd,rfl⟩⟩;refine ⟨_,rfl,?_⟩))
                      go_ret
                      exact ⟨by first|rfl|(simp [errW_none,errW_some]<;>rfl)|(simp [*,errW_none,errW_some]<;>rfl),by repeat (first|(with_reducible first|exact HB.out|apply below_alloc|apply pw_below_drewN|apply below_drew1)|exact HB.out)⟩
def power_Set_int_Has.f (a0:Int) (a1:Int):Option (Bool):=if 0≤a1 then (some ((Go.bits .and .u32 (shr .u32 a0 a1) 1) == 1)) else (none)
set_option maxHeartbeats 8000000 in
set_option maxRecDepth 100000 in
theorem power_Set_int_Has.calls (a0:Int) (a1:Int) (r:Bool) (w:World) (h:power_Set_int_Has.f a0 a1=some r) :
    Calls Try.prog 58 #[.int .u32 a0,.int .i64 a1] w fun e w'=>e = .returned (.bool r)∧Drawn0 w w':=by
  have H:(if 0≤a1 then (some ((Go.bits .and .u32 (shr .u32 a0 a1) 1) == 1)) else (none))=some r:=h
  clear h
  by_cases c3:0≤a1
  · rw [if_pos c3] at H
    have c3b0:=eq_true c3
    have c3b1:decide (0≤a1)=true:=decide_eq_true c3
    clear c3
    obtain ⟨ji4,hji4⟩:∃ j_:Int,(shr .u32 a0 a1)=j_:=⟨_,rfl⟩
    replace H:(some ((Go.bits .and .u32 (ji4) 1) == 1))=some r:=by first|(rw [hji4] at H;exact H)|(simp only [hji4] at H ⊢;exact H)
    have hji4_:(a0/2 ^ min a1.toNat 32)=ji4:=hji4
    have hji4z:a1≤32→(a0/2 ^ a1.toNat)=ji4:=shr_small hji4
    obtain rfl:=Option.some.inj H
    go_enter Try.func58,Try.ntmps58
    go_wp2
    go_ret
    exact ⟨by first|rfl|(simp;done)|(simp only [← hji4]<;>(first|rfl|simp))|(simp [*];done),by repeat (first|exact Drawn0.refl _|apply Drawn0.step)⟩
  · rw [if_neg c3] at H
    exact absurd H (by simp)
end Go.Proofs.Ytcgknibjbnijmaa.QPw
end
section
namespace Go.Proofs.Ytcgknibjbnijmaa.QPw
open RowKit YtcgknibjbnijmaaW.PrintWords YtcgknibjbnijmaaW.PrintLast YtcgknibjbnijmaaW.PrintMore
attribute [local go_sem] max2_int min2_int max_two min_two max_three min_three max_four min_four   -- for this text's walks alone
set_option linter.unusedVariables false
set_option linter.unusedSimpArgs false
def power_Needs.l0:Nat→List Int→Int→Int→Option (List Int × Int)
  | 0,_,_,_=>none
  | k+1,x4,x5,x6=>if x6≤5 then ((power_Set_int_Has.f x5 x6).bind fun t124=>(if t124=true then (if x4.length<17592186044416 then (power_Needs.l0 k (x4++[x6]) x5 (wrap64 (x6+1))) else (none)) else (power_Needs.l0 k x4 x5 (wrap64 (x6+1))))) else (some (x4,0))
def power_Needs.f (k:Nat) (a0:Int):Option (List Int × Int):=(cmd_Sensor.f a0).bind fun t122=>(if t122=true then ((power_needs.f k a0).bind fun t123=>(power_Needs.l0 k ([]:List Int) t123 1)) else (some (([]:List Int),1)))
theorem power_Needs.mono_l:∀ k,(∀ y0 y1 y2,LeO (power_Needs.l0 k y0 y1 y2) (power_Needs.l0 (k+1) y0 y1 y2))
  | 0=>fun _ _ _ r h=>by simp [power_Needs.l0] at h
  | k + 1 => by
    have ih0:=power_Needs.mono_l k
    · intro y0 y1 y2
      unfold power_Needs.l0
      repeat' first
      | (with_reducible exact ih0 _ _ _)
      | (with_reducible exact power_needs.mono _ _)
      | (with_reducible exact LeO.refl _)
      | (with_reducible exact LeO.none _)
      | (with_reducible refine LeO.ite ?_ ?_)
      | (with_reducible refine LeO.bind ?_ (fun _=>?_))
      | exact ih0 _ _ _
      | exact power_needs.mono _ _
      | exact LeO.none _
      | refine LeO.ite ?_ ?_
      | refine LeO.bind ?_ (fun _=>?_)
theorem power_Needs.mono:∀ a0 k,LeO (power_Needs.f k a0) (power_Needs.f (k+1) a0):=by
  intro a0 k
  have ih0:=power_Needs.mono_l k
  unfold power_Needs.f
  repeat' first
      | (with_reducible exact ih0 _ _ _)
      | (with_reducible exact power_needs.mono _ _)
      | (with_reducible exact LeO.refl _)
      | (with_reducible exact LeO.none _)
      | (with_reducible refine LeO.ite ?_ ?_)
      | (with_reducible refine LeO.bind ?_ (fun _=>?_))
      | exact ih0 _ _ _
      | exact power_needs.mono _ _
      | exact LeO.none _
      | refine LeO.ite ?_ ?_
      | refine LeO.bind ?_ (fun _=>?_)
set_option maxHeartbeats 8000000 in
set_option maxRecDepth 100000 in
theorem power_Needs.calls (k:Nat) (a0:Int) (r1:List Int) (r2:Int) (w:World) (h:power_Needs.f k a0=some (r1,r2)) :
    Calls Try.prog 15 #[.int .i64 a0] w fun e w'=>∃ v0_:Value,e = .returned (.tuple #[v0_,.int .i64 r2])∧Kd.R (Kd.int .i64) 3 w' w.heap.size (fun _=>True) v0_ r1∧Below w.heap.size w w':=by
  have HB:=Aside0.mk (Below.refl w.heap.size w)
  have H:((cmd_Sensor.f a0).bind fun t122=>(if t122=true then ((power_needs.f k a0).bind fun t123=>(power_Needs.l0 k ([]:List Int) t123 1)) else (some (([]:List Int),1))))=some (r1,r2):=h
  clear h
  replace H:=Option.bind_eq_some_iff.mp H
  obtain ⟨t122,A20,H⟩:=H
  replace H:(if t122=true then ((power_needs.f k a0).bind fun t123=>(power_Needs.l0 k ([]:List Int) t123 1)) else (some (([]:List Int),1)))=some (r1,r2):=H
  have A2:=Aside0.mk A20
  clear A20
  by_cases c3:t122=true
  · subst c3
    have H1:((power_needs.f k a0).bind fun t123=>(power_Needs.l0 k ([]:List Int) t123 1))=some (r1,r2):=by rw [if_pos rfl] at H;exact H
    clear H
    have H:=H1
    clear H1
    replace H:=Option.bind_eq_some_iff.mp H
    obtain ⟨t123,A40,H⟩:=H
    replace H:(power_Needs.l0 k ([]:List Int) t123 1)=some (r1,r2):=H
    have A4:=Aside0.mk A40
    clear A40
    have H':=Aside0.mk H
    clear H
    go_enter Try.func15,Try.ntmps15
    go_wp2_with (first|((with_reducible refine gate_callee (f:=56) rfl ?_);refine goesL_ (some 8) rfl rfl Try.func56 (by kernel_rfl) rfl #[.int .i64 a0] rfl (by (try simp only [List.map_toArray,List.map_cons,List.map_nil]);first|done|rfl|(simp only [List.length_drop,List.length_take];rfl)) ?_;(with_reducible refine (cmd_Sensor.calls a0 true _ A2.out).mono ?_);rintro e w' ⟨rfl,⟨nd,rfl⟩⟩;refine ⟨_,rfl,?_⟩)|((with_reducible refine gate_callee (f:=57) rfl ?_);refine goesL_ (some 11) rfl rfl Try.func57 (by kernel_rfl) rfl #[.int .i64 a0] rfl (by (try simp only [List.map_toArray,List.map_cons,List.map_nil]);first|done|rfl|(simp only [List.length_drop,List.length_take];rfl)) ?_;(with_reducible refine (power_needs.calls k a0 t123 _ A4.out).mono ?_);rintro e w5 ⟨rfl,hb⟩;refine ⟨_,rfl,?_⟩;have n0_:=Aside0.mk (below_step (by repeat (first|(with_reducible first|exact HB.out|apply below_alloc|apply pw_below_drewN|apply below_drew1)|exact HB.out)) hb);clear HB;have HB:=n0_;clear n0_;(try clear hb);(try clear hb2);(try clear hk);(try clear hi)))
    go_loopg [4,6] k (fun kq v4 v6 w'=>∃ (x4_1:List Int) (x6_1:Int),v6 = .int .i64 x6_1∧Aside0 (power_Needs.l0 kq x4_1 t123 x6_1=some (r1,r2))∧Aside0 (kq≤k)∧Aside0 (Kd.R (Kd.int .i64) 3 w' w.heap.size (fun _=>True) v4 x4_1)∧Aside0 (Below w.heap.size w w'))
    case atStart=>exact ⟨(([]:List Int)),(1),(by first|rfl|(simp;done)|(simp [*];done)),H',⟨Nat.le_refl _⟩,⟨by first|exact Kd.R_nil _ _ _ _ _|exact Kd.N_nil _ _ _ _ _|exact Kd.V_nil _ _ _ _ _|exact Kd.Q_nil _ _ _ _ _|exact Kd.S_nil _ _ _ _ _⟩,⟨by repeat (first|(with_reducible first|exact HB.out|apply below_alloc|apply pw_below_drewN|apply below_drew1)|exact HB.out)⟩⟩
    case round =>
      clear H'
      try clear c1
      try clear p2
      try clear c3
      try clear c5
      obtain ⟨x4_1,x6_1,rfl,HA,HK1,HO_4,HB⟩:=hrel
      cases gk with
      | zero=>exact absurd HA.out (by simp [power_Needs.l0])
      | succ k1 =>
        have H:=HA.out
        clear HA
        simp only [power_Needs.l0] at H
        by_cases c6:x6_1≤5
        · rw [if_pos c6] at H
          have c6b0:decide (x6_1≤5)=true:=decide_eq_true c6
          clear c6
          replace H:=Option.bind_eq_some_iff.mp H
          obtain ⟨t124,A70,H⟩:=H
          replace H:(if t124=true then (if x4_1.length<17592186044416 then (power_Needs.l0 k1 (x4_1++[x6_1]) t123 (wrap64 (x6_1+1))) else (none)) else (power_Needs.l0 k1 x4_1 t123 (wrap64 (x6_1+1))))=some (r1,r2):=H
          have A7:=Aside0.mk A70
          clear A70
          by_cases c8:t124=true
          · subst c8
            have H1:(if x4_1.length<17592186044416 then (power_Needs.l0 k1 (x4_1++[x6_1]) t123 (wrap64 (x6_1+1))) else (none))=some (r1,r2):=by rw [if_pos rfl] at H;exact H
            clear H
            have H:=H1
            clear H1
            by_cases c9:x4_1.length<17592186044416
            · rw [if_pos c9] at H
              have LMc9:=Aside0.mk c9
              clear c9
              obtain ⟨y125,hy125⟩:∃ y_:List Int,y_=(x4_1++[x6_1]):=⟨_,rfl⟩
              replace H:(power_Needs.l0 k1 y125 t123 (wrap64 (x6_1+1)))=some (r1,r2):=by first|(rw [hy125];with_reducible exact H)|(have H2_:=(Option.bind_some _ _).symm.trans H;rw [hy125];with_reducible exact H2_)|(have H2_:=(Option.bind_some _ _).symm.trans H;with_reducible exact H2_)|with_reducible exact H|(rw [hy125];exact H)|exact H
              have Ny125:=Aside0.mk hy125
              clear hy125
              have H':=Aside0.mk H
              clear H
              go_wp2_with (first|((with_reducible refine gate_callee (f:=58) rfl ?_);refine goesL_ (some 18) rfl rfl Try.func58 (by kernel_rfl) rfl #[.int .u32 t123,.int .i64 x6_1] rfl (by (try simp only [List.map_toArray,List.map_cons,List.map_nil]);first|done|rfl|(simp only [List.length_drop,List.length_take];rfl)) ?_;(with_reducible refine (power_Set_int_Has.calls t123 x6_1 true _ A7.out).mono ?_);rintro e w' ⟨rfl,⟨nd,rfl⟩⟩;refine ⟨_,rfl,?_⟩)|((with_reducible refine gate_builtin (b := .append) (xs:=#[.tmp 19,.tmp 21]) rfl ?_);at_builtin;refine Kd.R_append (Kd.int .i64) (w0:=w) w.heap.size rfl (.tmp 19) (.tmp 21) 22 3 (.int .i64 0) 8 rfl Try.underlying22 info3 rfl (by decide) (by omega) u4 x4_1 x6_1 [.int .i64 x6_1] (fun _=>True) (fun _=>False) rfl rfl ?aP (fun _ hk=>hk.elim) ?aF ?aO ?aB ?aS ?aL ?_;(case aP=>exact rfl);(case aB=>exact (by repeat (first|(with_reducible first|exact HB.out|apply below_alloc|apply pw_below_drewN|apply below_drew1)|exact HB.out)));(case aF=>exact (fun _ _=>trivial));(case aO=>exact (by (with_reducible repeat (first|apply Kd.R_alloc|apply Kd.R_drewN|apply Kd.R_drew));exact HO_4.out));(case aS=>exact (below_size (by repeat (first|(with_reducible first|exact HB.out|apply below_alloc|apply pw_below_drewN|apply below_drew1)|exact HB.out))));(case aL=>have:=LMc9.out;omega);intro v126 w10 ho hb hg hat;rw [← Ny125.out] at ho;have n0_:=Aside0.mk (hb);have n1_:=Aside0.mk (ho);clear HB;clear HO_4;have HB:=n0_;have HO127:=n1_;clear n0_ n1_;clear ho hb hg hat))
              go_roundg k1
              case measure=>have:=HK1.out;omega
              case rel=>exact ⟨(y125),(wrap64 (x6_1+1)),(by first|rfl|(simp;done)|(simp [*];done)),H',⟨by have:=HK1.out;omega⟩,⟨by (with_reducible repeat (first|apply Kd.R_alloc|apply Kd.R_drewN|apply Kd.R_drew));exact HO127.out⟩,⟨by repeat (first|(with_reducible first|exact HB.out|apply below_alloc|apply pw_below_drewN|apply below_drew1)|exact HB.out)⟩⟩
            · rw [if_neg c9] at H
              exact absurd H (by simp)
          · replace c8:=Bool.eq_false_iff.mpr c8
            subst c8
            have H1:(power_Needs.l0 k1 x4_1 t123 (wrap64 (x6_1+1)))=some (r1,r2):=by rw [if_neg (show ¬ (false=true) by decide)] at H;exact H
            clear H
            have H:=H1
            clear H1
            have H':=Aside0.mk H
            clear H
            go_wp2_with (first|((with_reducible refine gate_callee (f:=58) rfl ?_);refine goesL_ (some 18) rfl rfl Try.func58 (by kernel_rfl) rfl #[.int .u32 t123,.int .i64 x6_1] rfl (by (try simp only [List.map_toArray,List.map_cons,List.map_nil]);first|done|rfl|(simp only [List.length_drop,List.length_take];rfl)) ?_;(with_reducible refine (power_Set_int_Has.calls t123 x6_1 false _ A7.out).mono ?_);rintro e w' ⟨rfl,⟨nd,rfl⟩⟩;refine ⟨_,rfl,?_⟩))
            go_roundg k1
            case measure=>have:=HK1.out;omega
            case rel=>exact ⟨(x4_1),(wrap64 (x6_1+1)),(by first|rfl|(simp;done)|(simp [*];done)),H',⟨by have:=HK1.out;omega⟩,⟨by (with_reducible repeat (first|apply Kd.R_alloc|apply Kd.R_drewN|apply Kd.R_drew));exact HO_4.out⟩,⟨by repeat (first|(with_reducible first|exact HB.out|apply below_alloc|apply pw_below_drewN|apply below_drew1)|exact HB.out)⟩⟩
        · rw [if_neg c6] at H
          have c6b0:decide (x6_1≤5)=false:=decide_eq_false c6
          clear c6
          simp only [Option.some.injEq,Prod.mk.injEq] at H
          obtain ⟨rfl,rfl⟩:=H
          go_wp2
          go_ret2
          exact ⟨_,by first|rfl|(simp [errW_none,errW_some]<;>rfl)|(simp [*,errW_none,errW_some]<;>rfl),by (with_reducible repeat (first|apply Kd.R_alloc|apply Kd.R_drewN|apply Kd.R_drew));exact HO_4.out,by repeat (first|(with_reducible first|exact HB.out|apply below_alloc|apply pw_below_drewN|apply below_drew1)|exact HB.out)⟩
  · replace c3:=Bool.eq_false_iff.mpr c3
    subst c3
    have H1:(some (([]:List Int),1))=some (r1,r2):=by rw [if_neg (show ¬ (false=true) by decide)] at H;exact H
    clear H
    have H:=H1
    clear H1
    simp only [Option.some.injEq,Prod.mk.injEq] at H
    obtain ⟨rfl,rfl⟩:=H
    go_enter Try.func15,Try.ntmps15
    go_wp2_with (first|((with_reducible refine gate_callee (f:=56) rfl ?_);refine goesL_ (some 8) rfl rfl Try.func56 (by kernel_rfl) rfl #[.int .i64 a0] rfl (by (try simp only [List.map_toArray,List.map_cons,List.map_nil]);first|done|rfl|(simp only [List.length_drop,List.length_take];rfl)) ?_;(with_reducible refine (cmd_Sensor.calls a0 false _ A2.out).mono ?_);rintro e w' ⟨rfl,⟨nd,rfl⟩⟩;refine ⟨_,rfl,?_⟩))
    go_ret2
    exact ⟨_,by first|rfl|(simp [errW_none,errW_some]<;>rfl)|(simp [*,errW_none,errW_some]<;>rfl),by first|exact Kd.R_nil _ _ _ _ _|exact Kd.N_nil _ _ _ _ _|exact Kd.V_nil _ _ _ _ _|exact Kd.Q_nil _ _ _ _ _|exact Kd.S_nil _ _ _ _ _,by repeat (first|(with_reducible first|exact HB.out|apply below_alloc|apply pw_below_drewN|apply below_drew1)|exact HB.out)⟩
mutual
def gimbalref26_Needs.j0:Nat→Int→Int→Bool→Option (List Int)
  | 0,_,_,_=>none
  | k+1,x0,x3,x4=>if x4=true then (some (([1,2,3]:List Int))) else (if x3=7 then (gimbalref26_Needs.j1 k x0 x3 (x3 == 7)) else (if x3=8 then (gimbalref26_Needs.j1 k x0 x3 (x3 == 8)) else (gimbalref26_Needs.j1 k x0 x3 (x3 == 14))))
def gimbalref26_Needs.j1:Nat→Int→Int→Bool→Option (List Int)
  | 0,_,_,_=>none
  | k+1,x0,x3,x8=>if x8=true then (some (([1,2]:List Int))) else (if x3=10 then (some (([4]:List Int))) else (if x3=11 then (some (([1]:List Int))) else (if x3=12 then (some (([1]:List Int))) else (if x3=13 then (some (([1]:List Int))) else (if x3=15 then (some (([1]:List Int))) else (some (([x0]:List Int))))))))
end
def gimbalref26_Needs.f (k:Nat) (a0:Int):Option (List Int):=if a0=6 then (gimbalref26_Needs.j0 k a0 a0 (a0 == 6)) else (gimbalref26_Needs.j0 k a0 a0 (a0 == 9))
set_option maxHeartbeats 8000000 in
set_option maxRecDepth 100000 in
theorem gimbalref26_Needs.calls (k:Nat) (a0:Int) (r:List Int) (w:World) (h:gimbalref26_Needs.f k a0=some r) :
    Calls Try.prog 18 #[.int .i64 a0] w fun e w'=>∃ v0_:Value,e = .returned (v0_)∧Kd.R (Kd.int .i64) 3 w' w.heap.size (fun _=>True) v0_ r∧Below w.heap.size w w':=by
  have HB:=Aside0.mk (Below.refl w.heap.size w)
  have H:(if a0=6 then (gimbalref26_Needs.j0 k a0 a0 (a0 == 6)) else (gimbalref26_Needs.j0 k a0 a0 (a0 == 9)))=some r:=h
  clear h
  have HC2:=Aside0.mk H
  clear H
  go_enter Try.func18,Try.ntmps18
  go_upto_if 4 with (fail)
  go_cut [4] (fun v4 wc=>∃ (kq:Nat) (x4_1:Bool),v4 = .bool x4_1∧Aside0 (gimbalref26_Needs.j0 kq a0 a0 x4_1=some r)∧Aside0 (kq≤k)∧Aside0 (Below w.heap.size w wc))
  case first =>
    have H:=HC2.out
    clear HC2
    by_cases c3:a0=6
    · rw [if_pos c3] at H
      have c3b0:(a0 == 6)=true:=beq_iff_eq.mpr c3
      have c3b1:(a0 != 6)=false:=bne_eq_false_iff_eq.mpr c3
      clear c3
      (first|rw [c3b0]|(simp only [i64_w,i32_w];rw [c3b0])|skip)
      have H':=Aside0.mk H
      clear H
      go_wp2
      go_meet
      case rel=>exact ⟨_,((a0 == 6)),(by first|rfl|(simp;done)|(simp [*];done)),H',⟨by first|omega|exact Nat.le_refl _⟩,⟨by repeat (first|(with_reducible first|exact HB.out|apply below_alloc|apply pw_below_drewN|apply below_drew1)|exact HB.out)⟩⟩
    · rw [if_neg c3] at H
      have c3b0:(a0 == 6)=false:=beq_eq_false_iff_ne.mpr c3
      have c3b1:(a0 != 6)=true:=bne_iff_ne.mpr c3
      (first|rw [c3b0]|(simp only [i64_w,i32_w];rw [c3b0])|skip)
      have H':=Aside0.mk H
      clear H
      go_wp2
      go_meet
      case rel=>exact ⟨_,((a0 == 9)),(by first|rfl|(simp;done)|(simp [*];done)),H',⟨by first|omega|exact Nat.le_refl _⟩,⟨by repeat (first|(with_reducible first|exact HB.out|apply below_alloc|apply pw_below_drewN|apply below_drew1)|exact HB.out)⟩⟩
  case rest =>
    clear HC2
    try clear c1
    try clear p2
    try clear c3
    try clear c3b0
    try clear c3b1
    obtain ⟨kq,x4_1,rfl,HA,HJ1,HB⟩:=hcut
    cases kq with
    | zero=>exact absurd HA.out (by simp [gimbalref26_Needs.j0])
    | succ kj1 =>
      have H:=HA.out
      clear HA
      simp only [gimbalref26_Needs.j0] at H
      by_cases c4:x4_1=true
      · subst c4
        have H1:(some (([1,2,3]:List Int)))=some r:=by rw [if_pos rfl] at H;exact H
        clear H
        have H:=H1
        clear H1
        obtain ⟨y128,hy128⟩:∃ y_:List Int,y_=(([1,2,3]:List Int)):=⟨_,rfl⟩
        replace H:(some y128)=some r:=by first|(rw [hy128];with_reducible exact H)|(have H2_:=(Option.bind_some _ _).symm.trans H;rw [hy128];with_reducible exact H2_)|(have H2_:=(Option.bind_some _ _).symm.trans H;with_reducible exact H2_)|with_reducible exact H|(rw [hy128];exact H)|exact H
        have Ny128:=Aside0.mk hy128
        clear hy128
        obtain rfl:=Option.some.inj H
        go_wp2_with (first|((with_reducible refine gate_dst (N:=7) rfl ?_);refine Kd.R_lit (Kd.int .i64) _ 3 ?hg (N:=7) ?hd (xs:=([1,2,3]:List Int)) (inner:=[.int .i64 1,.int .i64 2,.int .i64 3]) (ok:=fun _=>True) (okp:=fun _=>True) ?hr ?hp (fun _ hk=>hk) trivial (Below.refl _ _) (Nat.le_refl _) (by simp) ?_;(case hd=>rfl);(case hg=>rfl);(case hr=>first|(go_simp;done)|(go_simp;rfl));(case hp=>exact (Reps.one (show Kd.M (Kd.int .i64) _ _ _ 1 [.int .i64 1] from rfl) (Reps.one (show Kd.M (Kd.int .i64) _ _ _ 2 [.int .i64 2] from rfl) (Reps.one (show Kd.M (Kd.int .i64) _ _ _ 3 [.int .i64 3] from rfl) (Reps.none _ _)))));intro v129 w5 ho6 hb hg_ hnew_;clear hg_ hnew_;(first|rw [← Ny128.out] at ho6|(simp only [Int.reduceToNat] at ho6;rw [← Ny128.out] at ho6));have n0_:=Aside0.mk (Kd.R_lower ho6 (below_size (by repeat (first|(with_reducible first|exact HB.out|apply below_alloc|apply pw_below_drewN|apply below_drew1)|exact HB.out))));have n1_:=Aside0.mk (below_step (by repeat (first|(with_reducible first|exact HB.out|apply below_alloc|apply pw_below_drewN|apply below_drew1)|exact HB.out)) hb);clear HB;have HO130:=n0_;have HB:=n1_;clear n0_ n1_;clear hb ho6))
        go_ret
        exact ⟨_,by first|rfl|(simp [errW_none,errW_some]<;>rfl)|(simp [*,errW_none,errW_some]<;>rfl),by (with_reducible repeat (first|apply Kd.R_alloc|apply Kd.R_drewN|apply Kd.R_drew));exact HO130.out,by repeat (first|(with_reducible first|exact HB.out|apply below_alloc|apply pw_below_drewN|apply below_drew1)|exact HB.out)⟩
      · replace c4 := Bool.eq_false_iff.mpr c4
        subst c4
        have H1:(if a0=7 then (gimbalref26_Needs.j1 kj1 a0 a0 (a0 == 7)) else (if a0=8 then (gimbalref26_Needs.j1 kj1 a0 a0 (a0 == 8)) else (gimbalref26_Needs.j1 kj1 a0 a0 (a0 == 14))))=some r:=by rw [if_neg (show ¬ (false=true) by decide)] at H;exact H
        clear H
        have H:=H1
        clear H1
        have HC7:=Aside0.mk H
        clear H
        go_upto_if 8 with (fail)
        go_cut [8] (fun v8 wc=>∃ (kq:Nat) (x8_6:Bool),v8 = .bool x8_6∧Aside0 (gimbalref26_Needs.j1 kq a0 a0 x8_6=some r)∧Aside0 (kq≤kj1)∧Aside0 (Below w.heap.size w wc))
        case first =>
          have H:=HC7.out
          clear HC7
          by_cases c8:a0=7
          · rw [if_pos c8] at H
            have c8b0:(a0 == 7)=true:=beq_iff_eq.mpr c8
            have c8b1:(a0 != 7)=false:=bne_eq_false_iff_eq.mpr c8
            clear c8
            (first|rw [c8b0]|(simp only [i64_w,i32_w];rw [c8b0])|skip)
            have H':=Aside0.mk H
            clear H
            go_wp2
            go_meet
            case rel=>exact ⟨_,((a0 == 7)),(by first|rfl|(simp;done)|(simp [*];done)),H',⟨by have:=HJ1.out;first|omega|exact Nat.le_refl _⟩,⟨by repeat (first|(with_reducible first|exact HB.out|apply below_alloc|apply pw_below_drewN|apply below_drew1)|exact HB.out)⟩⟩
          · rw [if_neg c8] at H
            have c8b0:(a0 == 7)=false:=beq_eq_false_iff_ne.mpr c8
            have c8b1:(a0 != 7)=true:=bne_iff_ne.mpr c8
            (first|rw [c8b0]|(simp only [i64_w,i32_w];rw [c8b0])|skip)
            by_cases c9:a0=8
            · rw [if_pos c9] at H
              have c9b0:(a0 == 8)=true:=beq_iff_eq.mpr c9
              have c9b1:(a0 != 8)=false:=bne_eq_false_iff_eq.mpr c9
              clear c9
              have H':=Aside0.mk H
              clear H
              go_wp2
              go_meet
              case rel=>exact ⟨_,((a0 == 8)),(by first|rfl|(simp;done)|(simp [*];done)),H',⟨by have:=HJ1.out;first|omega|exact Nat.le_refl _⟩,⟨by repeat (first|(with_reducible first|exact HB.out|apply below_alloc|apply pw_below_drewN|apply below_drew1)|exact HB.out)⟩⟩
            · rw [if_neg c9] at H
              have c9b0:(a0 == 8)=false:=beq_eq_false_iff_ne.mpr c9
              have c9b1:(a0 != 8)=true:=bne_iff_ne.mpr c9
              have H':=Aside0.mk H
              clear H
              go_wp2
              go_meet
              case rel=>exact ⟨_,((a0 == 14)),(by first|rfl|(simp;done)|(simp [*];done)),H',⟨by have:=HJ1.out;first|omega|exact Nat.le_refl _⟩,⟨by repeat (first|(with_reducible first|exact HB.out|apply below_alloc|apply pw_below_drewN|apply below_drew1)|exact HB.out)⟩⟩
        case rest =>
          clear HC7
          try clear c1
          try clear p2
          try clear c3
          try clear c3b0
          try clear c3b1
          try clear c4
          try clear c8
          try clear c8b0
          try clear c8b1
          try clear c9
          try clear c9b0
          try clear c9b1
          try clear p2
          obtain ⟨kq,x8_6,rfl,HA,HJ6,HB⟩:=hcut
          cases kq with
          | zero=>exact absurd HA.out (by simp [gimbalref26_Needs.j1])
          | succ kj6 =>
            have H:=HA.out
            clear HA
            simp only [gimbalref26_Needs.j1] at H
            by_cases c10:x8_6=true
            · subst c10
              have H1:(some (([1,2]:List Int)))=some r:=by rw [if_pos rfl] at H;exact H
              clear H
              have H:=H1
              clear H1
              obtain ⟨y131,hy131⟩:∃ y_:List Int,y_=(([1,2]:List Int)):=⟨_,rfl⟩
              replace H:(some y131)=some r:=by first|(rw [hy131];with_reducible exact H)|(have H2_:=(Option.bind_some _ _).symm.trans H;rw [hy131];with_reducible exact H2_)|(have H2_:=(Option.bind_some _ _).symm.trans H;with_reducible exact H2_)|with_reducible exact H|(rw [hy131];exact H)|exact H
              have Ny131:=Aside0.mk hy131
              clear hy131
              obtain rfl:=Option.some.inj H
              go_wp2_with (first|((with_reducible refine gate_dst (N:=12) rfl ?_);refine Kd.R_lit (Kd.int .i64) _ 3 ?hg (N:=12) ?hd (xs:=([1,2]:List Int)) (inner:=[.int .i64 1,.int .i64 2]) (ok:=fun _=>True) (okp:=fun _=>True) ?hr ?hp (fun _ hk=>hk) trivial (Below.refl _ _) (Nat.le_refl _) (by simp) ?_;(case hd=>rfl);(case hg=>rfl);(case hr=>first|(go_simp;done)|(go_simp;rfl));(case hp=>exact (Reps.one (show Kd.M (Kd.int .i64) _ _ _ 1 [.int .i64 1] from rfl) (Reps.one (show Kd.M (Kd.int .i64) _ _ _ 2 [.int .i64 2] from rfl) (Reps.none _ _))));intro v132 w11 ho12 hb hg_ hnew_;clear hg_ hnew_;(first|rw [← Ny131.out] at ho12|(simp only [Int.reduceToNat] at ho12;rw [← Ny131.out] at ho12));have n0_:=Aside0.mk (Kd.R_lower ho12 (below_size (by repeat (first|(with_reducible first|exact HB.out|apply below_alloc|apply pw_below_drewN|apply below_drew1)|exact HB.out))));have n1_:=Aside0.mk (below_step (by repeat (first|(with_reducible first|exact HB.out|apply below_alloc|apply pw_below_drewN|apply below_drew1)|exact HB.out)) hb);clear HB;have HO133:=n0_;have HB:=n1_;clear n0_ n1_;clear hb ho12))
              go_ret
              exact ⟨_,by first|rfl|(simp [errW_none,errW_some]<;>rfl)|(simp [*,errW_none,errW_some]<;>rfl),by (with_reducible repeat (first|apply Kd.R_alloc|apply Kd.R_drewN|apply Kd.R_drew));exact HO133.out,by repeat (first|(with_reducible first|exact HB.out|apply below_alloc|apply pw_below_drewN|apply below_drew1)|exact HB.out)⟩
            · replace c10:=Bool.eq_false_iff.mpr c10
              subst c10
              have H1:(if a0=10 then (some (([4]:List Int))) else (if a0=11 then (some (([1]:List Int))) else (if a0=12 then (some (([1]:List Int))) else (if a0=13 then (some (([1]:List Int))) else (if a0=15 then (some (([1]:List Int))) else (some (([a0]:List Int))))))))=some r:=by rw [if_neg (show ¬ (false=true) by decide)] at H;exact H
              clear H
              have H:=H1
              clear H1
              by_cases c13:a0=10
              · rw [if_pos c13] at H
                have c13b0:(a0 == 10)=true:=beq_iff_eq.mpr c13
                have c13b1:(a0 != 10)=false:=bne_eq_false_iff_eq.mpr c13
                clear c13
                obtain ⟨y134,hy134⟩:∃ y_:List Int,y_=(([4]:List Int)):=⟨_,rfl⟩
                replace H:(some y134)=some r:=by first|(rw [hy134];with_reducible exact H)|(have H2_:=(Option.bind_some _ _).symm.trans H;rw [hy134];with_reducible exact H2_)|(have H2_:=(Option.bind_some _ _).symm.trans H;with_reducible exact H2_)|with_reducible exact H|(rw [hy134];exact H)|exact H
                have Ny134:=Aside0.mk hy134
                clear hy134
                obtain rfl:=Option.some.inj H
                go_wp2_with (first|((with_reducible refine gate_dst (N:=15) rfl ?_);refine Kd.R_lit (Kd.int .i64) _ 3 ?hg (N:=15) ?hd (xs:=([4]:List Int)) (inner:=[.int .i64 4]) (ok:=fun _=>True) (okp:=fun _=>True) ?hr ?hp (fun _ hk=>hk) trivial (Below.refl _ _) (Nat.le_refl _) (by simp) ?_;(case hd=>rfl);(case hg=>rfl);(case hr=>first|(go_simp;done)|(go_simp;rfl));(case hp=>exact (Reps.one (show Kd.M (Kd.int .i64) _ _ _ 4 [.int .i64 4] from rfl) (Reps.none _ _)));intro v135 w14 ho15 hb hg_ hnew_;clear hg_ hnew_;(first|rw [← Ny134.out] at ho15|(simp only [Int.reduceToNat] at ho15;rw [← Ny134.out] at ho15));have n0_:=Aside0.mk (Kd.R_lower ho15 (below_size (by repeat (first|(with_reducible first|exact HB.out|apply below_alloc|apply pw_below_drewN|apply below_drew1)|exact HB.out))));have n1_:=Aside0.mk (below_step (by repeat (first|(with_reducible first|exact HB.out|apply below_alloc|apply pw_below_drewN|apply below_drew1)|exact HB.out)) hb);clear HB;have HO136:=n0_;have HB:=n1_;clear n0_ n1_;clear hb ho15))
                go_ret
                exact ⟨_,by first|rfl|(simp [errW_none,errW_some]<;>rfl)|(simp [*,errW_none,errW_some]<;>rfl),by (with_reducible repeat (first|apply Kd.R_alloc|apply Kd.R_drewN|apply Kd.R_drew));exact HO136.out,by repeat (first|(with_reducible first|exact HB.out|apply below_alloc|apply pw_below_drewN|apply below_drew1)|exact HB.out)⟩
              · rw [if_neg c13] at H
                have c13b0:(a0 == 10)=false:=beq_eq_false_iff_ne.mpr c13
                have c13b1:(a0 != 10)=true:=bne_iff_ne.mpr c13
                by_cases c16:a0=11
                · rw [if_pos c16] at H
                  have c16b0:(a0 == 11)=true:=beq_iff_eq.mpr c16
                  have c16b1:(a0 != 11)=false:=bne_eq_false_iff_eq.mpr c16
                  clear c16
                  obtain ⟨y137,hy137⟩:∃ y_:List Int,y_=(([1]:List Int)):=⟨_,rfl⟩
                  replace H:(some y137)=some r:=by first|(rw [hy137];with_reducible exact H)|(have H2_:=(Option.bind_some _ _).symm.trans H;rw [hy137];with_reducible exact H2_)|(have H2_:=(Option.bind_some _ _).symm.trans H;with_reducible exact H2_)|with_reducible exact H|(rw [hy137];exact H)|exact H
                  have Ny137:=Aside0.mk hy137
                  clear hy137
                  obtain rfl:=Option.some.inj H
                  go_wp2_with (first|((with_reducible refine gate_dst (N:=21) rfl ?_);refine Kd.R_lit (Kd.int .i64) _ 3 ?hg (N:=21) ?hd (xs:=([1]:List Int)) (inner:=[.int .i64 1]) (ok:=fun _=>True) (okp:=fun _=>True) ?hr ?hp (fun _ hk=>hk) trivial (Below.refl _ _) (Nat.le_refl _) (by simp) ?_;(case hd=>rfl);(case hg=>rfl);(case hr=>first|(go_simp;done)|(go_simp;rfl));(case hp=>exact (Reps.one (show Kd.M (Kd.int .i64) _ _ _ 1 [.int .i64 1] from rfl) (Reps.none _ _)));intro v138 w17 ho18 hb hg_ hnew_;clear hg_ hnew_;(first|rw [← Ny137.out] at ho18|(simp only [Int.reduceToNat] at ho18;rw [← Ny137.out] at ho18));have n0_:=Aside0.mk (Kd.R_lower ho18 (below_size (by repeat (first|(with_reducible first|exact HB.out|apply below_alloc|apply pw_below_drewN|apply below_drew1)|exact HB.out))));have n1_:=Aside0.mk (below_step (by repeat (first|(with_reducible first|exact HB.out|apply below_alloc|apply pw_below_drewN|apply below_drew1)|exact HB.out)) hb);clear HB;have HO139:=n0_;have HB:=n1_;clear n0_ n1_;clear hb ho18))
                  go_ret
                  exact ⟨_,by first|rfl|(simp [errW_none,errW_some]<;>rfl)|(simp [*,errW_none,errW_some]<;>rfl),by (with_reducible repeat (first|apply Kd.R_alloc|apply Kd.R_drewN|apply Kd.R_drew));exact HO139.out,by repeat (first|(with_reducible first|exact HB.out|apply below_alloc|apply pw_below_drewN|apply below_drew1)|exact HB.out)⟩
                · rw [if_neg c16] at H
                  have c16b0:(a0 == 11)=false:=beq_eq_false_iff_ne.mpr c16
                  have c16b1:(a0 != 11)=true:=bne_iff_ne.mpr c16
                  by_cases c19:a0=12
                  · rw [if_pos c19] at H
                    have c19b0:(a0 == 12)=true:=beq_iff_eq.mpr c19
                    have c19b1:(a0 != 12)=false:=bne_eq_false_iff_eq.mpr c19
                    clear c19
                    obtain ⟨y140,hy140⟩:∃ y_:List Int,y_=(([1]:List Int)):=⟨_,rfl⟩
                    replace H:(some y140)=some r:=by first|(rw [hy140];with_reducible exact H)|(have H2_:=(Option.bind_some _ _).symm.trans H;rw [hy140];with_reducible exact H2_)|(have H2_:=(Option.bind_some _ _).symm.trans H;with_reducible exact H2_)|with_reducible exact H|(rw [hy140];exact H)|exact H
                    have Ny140:=Aside0.mk hy140
                    clear hy140
                    obtain rfl:=Option.some.inj H
                    go_wp2_with (first|((with_reducible refine gate_dst (N:=21) rfl ?_);refine Kd.R_lit (Kd.int .i64) _ 3 ?hg (N:=21) ?hd (xs:=([1]:List Int)) (inner:=[.int .i64 1]) (ok:=fun _=>True) (okp:=fun _=>True) ?hr ?hp (fun _ hk=>hk) trivial (Below.refl _ _) (Nat.le_refl _) (by simp) ?_;(case hd=>rfl);(case hg=>rfl);(case hr=>first|(go_simp;done)|(go_simp;rfl));(case hp=>exact (Reps.one (show Kd.M (Kd.int .i64) _ _ _ 1 [.int .i64 1] from rfl) (Reps.none _ _)));intro v141 w20 ho21 hb hg_ hnew_;clear hg_ hnew_;(first|rw [← Ny140.out] at ho21|(simp only [Int.reduceToNat] at ho21;rw [← Ny140.out] at ho21));have n0_:=Aside0.mk (Kd.R_lower ho21 (below_size (by repeat (first|(with_reducible first|exact HB.out|apply below_alloc|apply pw_below_drewN|apply below_drew1)|exact HB.out))));have n1_:=Aside0.mk (below_step (by repeat (first|(with_reducible first|exact HB.out|apply below_alloc|apply pw_below_drewN|apply below_drew1)|exact HB.out)) hb);clear HB;have HO142:=n0_;have HB:=n1_;clear n0_ n1_;clear hb ho21))
                    go_ret
                    exact ⟨_,by first|rfl|(simp [errW_none,errW_some]<;>rfl)|(simp [*,errW_none,errW_some]<;>rfl),by (with_reducible repeat (first|apply Kd.R_alloc|apply Kd.R_drewN|apply Kd.R_drew));exact HO142.out,by repeat (first|(with_reducible first|exact HB.out|apply below_alloc|apply pw_below_drewN|apply below_drew1)|exact HB.out)⟩
                  · rw [if_neg c19] at H
                    have c19b0:(a0 == 12)=false:=beq_eq_false_iff_ne.mpr c19
                    have c19b1:(a0 != 12)=true:=bne_iff_ne.mpr c19
                    by_cases c22:a0=13
                    · rw [if_pos c22] at H
                      have c22b0:(a0 == 13)=true:=beq_iff_eq.mpr c22
                      have c22b1:(a0 != 13)=false:=bne_eq_false_iff_eq.mpr c22
                      clear c22
                      obtain ⟨y143,hy143⟩:∃ y_:List Int,y_=(([1]:List Int)):=⟨_,rfl⟩
                      replace H:(some y143)=some r:=by first|(rw [hy143];with_reducible exact H)|(have H2_:=(Option.bind_some _ _).symm.trans H;rw [hy143];with_reducible exact H2_)|(have H2_:=(Option.bind_some _ _).symm.trans H;with_reducible exact H2_)|with_reducible exact H|(rw [hy143];exact H)|exact H
                      have Ny143:=Aside0.mk hy143
                      clear hy143
                      obtain rfl:=Option.some.inj H
                      go_wp2_with (first|((with_reducible refine gate_dst (N:=21) rfl ?_);refine Kd.R_lit (Kd.int .i64) _ 3 ?hg (N:=21) ?hd (xs:=([1]:List Int)) (inner:=[.int .i64 1]) (ok:=fun _=>True) (okp:=fun _=>True) ?hr ?hp (fun _ hk=>hk) trivial (Below.refl _ _) (Nat.le_refl _) (by simp) ?_;(case hd=>rfl);(case hg=>rfl);(case hr=>first|(go_simp;done)|(go_simp;rfl));(case hp=>exact (Reps.one (show Kd.M (Kd.int .i64) _ _ _ 1 [.int .i64 1] from rfl) (Reps.none _ _)));intro v144 w23 ho24 hb hg_ hnew_;clear hg_ hnew_;(first|rw [← Ny143.out] at ho24|(simp only [Int.reduceToNat] at ho24;rw [← Ny143.out] at ho24));have n0_:=Aside0.mk (Kd.R_lower ho24 (below_size (by repeat (first|(with_reducible first|exact HB.out|apply below_alloc|apply pw_below_drewN|apply below_drew1)|exact HB.out))));have n1_:=Aside0.mk (below_step (by repeat (first|(with_reducible first|exact HB.out|apply below_alloc|apply pw_below_drewN|apply below_drew1)|exact HB.out)) hb);clear HB;have HO145:=n0_;have HB:=n1_;clear n0_ n1_;clear hb ho24))
                      go_ret
                      exact ⟨_,by first|rfl|(simp [errW_none,errW_some]<;>rfl)|(simp [*,errW_none,errW_some]<;>rfl),by (with_reducible repeat (first|apply Kd.R_alloc|apply Kd.R_drewN|apply Kd.R_drew));exact HO145.out,by repeat (first|(with_reducible first|exact HB.out|apply below_alloc|apply pw_below_drewN|apply below_drew1)|exact HB.out)⟩
                    · rw [if_neg c22] at H
                      have c22b0:(a0 == 13)=false:=beq_eq_false_iff_ne.mpr c22
                      have c22b1:(a0 != 13)=true:=bne_iff_ne.mpr c22
                      by_cases c25:a0=15
                      · rw [if_pos c25] at H
                        have c25b0:(a0 == 15)=true:=beq_iff_eq.mpr c25
                        have c25b1:(a0 != 15)=false:=bne_eq_false_iff_eq.mpr c25
                        clear c25
                        obtain ⟨y146,hy146⟩:∃ y_:List Int,y_=(([1]:List Int)):=⟨_,rfl⟩
                        replace H:(some y146)=some r:=by first|(rw [hy146];with_reducible exact H)|(have H2_:=(Option.bind_some _ _).symm.trans H;rw [hy146];with_reducible exact H2_)|(have H2_:=(Option.bind_some _ _).symm.trans H;with_reducible exact H2_)|with_reducible exact H|(rw [hy146];exact H)|exact H
                        have Ny146:=Aside0.mk hy146
                        clear hy146
                        obtain rfl:=Option.some.inj H
                        go_wp2_with (first|((with_reducible refine gate_dst (N:=21) rfl ?_);refine Kd.R_lit (Kd.int .i64) _ 3 ?hg (N:=21) ?hd (xs:=([1]:List Int)) (inner:=[.int .i64 1]) (ok:=fun _=>True) (okp:=fun _=>True) ?hr ?hp (fun _ hk=>hk) trivial (Below.refl _ _) (Nat.le_refl _) (by simp) ?_;(case hd=>rfl);(case hg=>rfl);(case hr=>first|(go_simp;done)|(go_simp;rfl));(case hp=>exact (Reps.one (show Kd.M (Kd.int .i64) _ _ _ 1 [.int .i64 1] from rfl) (Reps.none _ _)));intro v147 w26 ho27 hb hg_ hnew_;clear hg_ hnew_;(first|rw [← Ny146.out] at ho27|(simp only [Int.reduceToNat] at ho27;rw [← Ny146.out] at ho27));have n0_:=Aside0.mk (Kd.R_lower ho27 (below_size (by repeat (first|(with_reducible first|exact HB.out|apply below_alloc|apply pw_below_drewN|apply below_drew1)|exact HB.out))));have n1_:=Aside0.mk (below_step (by repeat (first|(with_reducible first|exact HB.out|apply below_alloc|apply pw_below_drewN|apply below_drew1)|exact HB.out)) hb);clear HB;have HO148:=n0_;have HB:=n1_;clear n0_ n1_;clear hb ho27))
                        go_ret
                        exact ⟨_,by first|rfl|(simp [errW_none,errW_some]<;>rfl)|(simp [*,errW_none,errW_some]<;>rfl),by (with_reducible repeat (first|apply Kd.R_alloc|apply Kd.R_drewN|apply Kd.R_drew));exact HO148.out,by repeat (first|(with_reducible first|exact HB.out|apply below_alloc|apply pw_below_drewN|apply below_drew1)|exact HB.out)⟩
                      · rw [if_neg c25] at H
                        have c25b0:(a0 == 15)=false:=beq_eq_false_iff_ne.mpr c25
                        have c25b1:(a0 != 15)=true:=bne_iff_ne.mpr c25
                        obtain ⟨y149,hy149⟩:∃ y_:List Int,y_=(([a0]:List Int)):=⟨_,rfl⟩
                        replace H:(some y149)=some r:=by first|(rw [hy149];with_reducible exact H)|(have H2_:=(Option.bind_some _ _).symm.trans H;rw [hy149];with_reducible exact H2_)|(have H2_:=(Option.bind_some _ _).symm.trans H;with_reducible exact H2_)|with_reducible exact H|(rw [hy149];exact H)|exact H
                        have Ny149:=Aside0.mk hy149
                        clear hy149
                        obtain rfl:=Option.some.inj H
                        go_wp2_with (first|((with_reducible refine gate_dst (N:=23) rfl ?_);refine Kd.R_lit (Kd.int .i64) _ 3 ?hg (N:=23) ?hd (xs:=([a0]:List Int)) (inner:=[.int .i64 a0]) (ok:=fun _=>True) (okp:=fun _=>True) ?hr ?hp (fun _ hk=>hk) trivial (Below.refl _ _) (Nat.le_refl _) (by simp) ?_;(case hd=>rfl);(case hg=>rfl);(case hr=>first|(go_simp;done)|(go_simp;rfl));(case hp=>exact (Reps.one (show Kd.M (Kd.int .i64) _ _ _ a0 [.int .i64 a0] from rfl) (Reps.none _ _)));intro v150 w28 ho29 hb hg_ hnew_;clear hg_ hnew_;(first|rw [← Ny149.out] at ho29|(simp only [Int.reduceToNat] at ho29;rw [← Ny149.out] at ho29));have n0_:=Aside0.mk (Kd.R_lower ho29 (below_size (by repeat (first|(with_reducible first|exact HB.out|apply below_alloc|apply pw_below_drewN|apply below_drew1)|exact HB.out))));have n1_:=Aside0.mk (below_step (by repeat (first|(with_reducible first|exact HB.out|apply below_alloc|apply pw_below_drewN|apply below_drew1)|exact HB.out)) hb);clear HB;have HO151:=n0_;have HB:=n1_;clear n0_ n1_;clear hb ho29))
                        go_ret
                        exact ⟨_,by first|rfl|(simp [errW_none,errW_some]<;>rfl)|(simp [*,errW_none,errW_some]<;>rfl),by (with_reducible repeat (first|apply Kd.R_alloc|apply Kd.R_drewN|apply Kd.R_drew));exact HO151.out,by repeat (first|(with_reducible first|exact HB.out|apply below_alloc|apply pw_below_drewN|apply below_drew1)|exact HB.out)⟩
def cmd_Client.f (a0:Int):Option (Bool):=if a0≥0 then (some (decide (a0<8))) else (some false)
set_option maxHeartbeats 8000000 in
set_option maxRecDepth 100000 in
theorem cmd_Client.calls (a0:Int) (r:Bool) (w:World) (h:cmd_Client.f a0=some r) :
    Calls Try.prog 79 #[.int .i64 a0] w fun e w'=>e = .returned (.bool r)∧Drawn0 w w':=by
  have H:(if a0≥0 then (some (decide (a0<8))) else (some false))=some r:=h
  clear h
  by_cases c2:a0≥0
  · rw [if_pos c2] at H
    have c2b0:decide (0≤a0)=true:=decide_eq_true c2
    clear c2
    obtain rfl:=Option.some.inj H
    go_enter Try.func79,Try.ntmps79
    go_wp2
    go_ret
    exact ⟨by first|rfl|(simp;done)|(simp [*];done),by repeat (first|exact Drawn0.refl _|apply Drawn0.step)⟩
  · rw [if_neg c2] at H
    have c2b0:decide (0≤a0)=false:=decide_eq_false c2
    clear c2
    obtain rfl:=Option.some.inj H
    go_enter Try.func79,Try.ntmps79
    go_wp2
    go_ret
    exact ⟨by first|rfl|(simp;done)|(simp [*];done),by repeat (first|exact Drawn0.refl _|apply Drawn0.step)⟩
end Go.Proofs.Ytcgknibjbnijmaa.QPw
end
section
namespace Go.Proofs.Ytcgknibjbnijmaa.QPw
open RowKit YtcgknibjbnijmaaW.PrintWords YtcgknibjbnijmaaW.PrintLast YtcgknibjbnijmaaW.PrintMore
attribute [local go_sem] max2_int min2_int max_two min_two max_three min_three max_four min_four   -- for this text's walks alone
set_option linter.unusedVariables false
set_option linter.unusedSimpArgs false
def cmd_Sub.f (a0_0:Int) (a0_1:Int) (a0_2:Int) (a0_3:Int):Option (Bool):=(cmd_Client.f a0_0).bind fun t153=>(if t153=true then ((cmd_Sensor.f a0_1).bind fun t154=>(if t154=true then (if a0_2≥1 then (if a0_2≤1000 then (if a0_3≥0 then (some (decide (a0_3≤60000))) else (some false)) else (some false)) else (some false)) else (some false))) else (some false))
set_option maxHeartbeats 8000000 in
set_option maxRecDepth 100000 in
theorem cmd_Sub.calls (a0_0:Int) (a0_1:Int) (a0_2:Int) (a0_3:Int) (r:Bool) (w:World) (h:cmd_Sub.f a0_0 a0_1 a0_2 a0_3=some r) :
    Calls Try.prog 66 #[.agg #[.int .i64 a0_0,.int .i64 a0_1,.int .i64 a0_2,.int .i64 a0_3]] w fun e w'=>e = .returned (.bool r)∧Below w.heap.size w w':=by
  have hu70:=Try.underlying70
  have HB:=Aside0.mk (Below.refl w.heap.size w)
  have H:((cmd_Client.f a0_0).bind fun t153=>(if t153=true then ((cmd_Sensor.f a0_1).bind fun t154=>(if t154=true then (if a0_2≥1 then (if a0_2≤1000 then (if a0_3≥0 then (some (decide (a0_3≤60000))) else (some false)) else (some false)) else (some false)) else (some false))) else (some false)))=some r:=h
  clear h
  replace H:=Option.bind_eq_some_iff.mp H
  obtain ⟨t153,A20,H⟩:=H
  replace H:(if t153=true then ((cmd_Sensor.f a0_1).bind fun t154=>(if t154=true then (if a0_2≥1 then (if a0_2≤1000 then (if a0_3≥0 then (some (decide (a0_3≤60000))) else (some false)) else (some false)) else (some false)) else (some false))) else (some false))=some r:=H
  have A2:=Aside0.mk A20
  clear A20
  by_cases c3:t153=true
  · subst c3
    have H1:((cmd_Sensor.f a0_1).bind fun t154=>(if t154=true then (if a0_2≥1 then (if a0_2≤1000 then (if a0_3≥0 then (some (decide (a0_3≤60000))) else (some false)) else (some false)) else (some false)) else (some false)))=some r:=by rw [if_pos rfl] at H;exact H
    clear H
    have H:=H1
    clear H1
    replace H:=Option.bind_eq_some_iff.mp H
    obtain ⟨t154,A40,H⟩:=H
    replace H:(if t154=true then (if a0_2≥1 then (if a0_2≤1000 then (if a0_3≥0 then (some (decide (a0_3≤60000))) else (some false)) else (some false)) else (some false)) else (some false))=some r:=H
    have A4:=Aside0.mk A40
    clear A40
    by_cases c5:t154=true
    · subst c5
      have H1:(if a0_2≥1 then (if a0_2≤1000 then (if a0_3≥0 then (some (decide (a0_3≤60000))) else (some false)) else (some false)) else (some false))=some r:=by rw [if_pos rfl] at H;exact H
      clear H
      have H:=H1
      clear H1
      by_cases c6:a0_2≥1
      · rw [if_pos c6] at H
        have c6b0:decide (1≤a0_2)=true:=decide_eq_true c6
        clear c6
        by_cases c7:a0_2≤1000
        · rw [if_pos c7] at H
          have c7b0:decide (a0_2≤1000)=true:=decide_eq_true c7
          clear c7
          by_cases c8:a0_3≥0
          · rw [if_pos c8] at H
            have c8b0:decide (0≤a0_3)=true:=decide_eq_true c8
            clear c8
            obtain rfl:=Option.some.inj H
            go_enter Try.func66,Try.ntmps66
            go_wp2_with (first|((with_reducible refine gate_dst (N:=1) rfl ?_);refine box_event ?hg (N:=1) ?hd (cs:=#[.int .i64 a0_0,.int .i64 a0_1,.int .i64 a0_2,.int .i64 a0_3]) (t:=70) ?hr ?_;(case hd=>rfl);(case hg=>rfl);(case hr=>first|(go_simp;done)|(go_simp;rfl));intro gb152 hg w9 hbox hb;have n0_:=Aside0.mk (below_step (by repeat (first|(with_reducible first|exact HB.out|apply below_alloc|apply pw_below_drewN|apply below_drew1)|exact HB.out)) hb);have n1_:=Aside0.mk (hbox);have n2_:=Aside0.mk ((by rw [hg];exact (below_size (by repeat (first|(with_reducible first|exact HB.out|apply below_alloc|apply pw_below_drewN|apply below_drew1)|exact HB.out))):w.heap.size≤gb152));have n3_:=Aside0.mk ((by rw [hg];exact (below_size (by repeat (first|(with_reducible first|exact HB.out|apply below_alloc|apply pw_below_drewN|apply below_drew1)|exact HB.out))):w.heap.size≤gb152));clear HB;have HB:=n0_;have BK152:=n1_;have GW152:=n2_;have GE152:=n3_;clear n0_ n1_ n2_ n3_;clear hb hbox hg;have hcz10_0:w9.cell? ⟨gb152,0,none⟩=some (.int .i64 a0_0):=(blk_cell BK152.out 0).trans rfl;have hcz10_1:w9.cell? ⟨gb152,1,none⟩=some (.int .i64 a0_1):=(blk_cell BK152.out 1).trans rfl;have hcz10_2:w9.cell? ⟨gb152,2,none⟩=some (.int .i64 a0_2):=(blk_cell BK152.out 2).trans rfl;have hcz10_3:w9.cell? ⟨gb152,3,none⟩=some (.int .i64 a0_3):=(blk_cell BK152.out 3).trans rfl;have hfz10_0:=blk_frozen BK152.out 0;have hfz10_1:=blk_frozen BK152.out 1;have hfz10_2:=blk_frozen BK152.out 2;have hfz10_3:=blk_frozen BK152.out 3)|((with_reducible refine gate_callee (f:=79) rfl ?_);refine goesL_ (some 5) rfl rfl Try.func79 (by kernel_rfl) rfl #[.int .i64 a0_0] rfl (by (try simp only [List.map_toArray,List.map_cons,List.map_nil]);first|done|rfl|(simp only [List.length_drop,List.length_take];rfl)) ?_;(with_reducible refine (cmd_Client.calls a0_0 true _ A2.out).mono ?_);rintro e w' ⟨rfl,⟨nd,rfl⟩⟩;refine ⟨_,rfl,?_⟩)|(go_at_call 56;(with_reducible refine (cmd_Sensor.calls a0_1 true _ A4.out).mono ?_);rintro e w' ⟨rfl,⟨nd,rfl⟩⟩))
            go_ret
            exact ⟨by first|rfl|(simp [errW_none,errW_some]<;>rfl)|(simp [*,errW_none,errW_some]<;>rfl),by repeat (first|(with_reducible first|exact HB.out|apply below_alloc|apply pw_below_drewN|apply below_drew1|refine below_set ?_ GE152.out)|exact HB.out)⟩
          · rw [if_neg c8] at H
            have c8b0:decide (0≤a0_3)=false:=decide_eq_false c8
            clear c8
            obtain rfl:=Option.some.inj H
            go_enter Try.func66,Try.ntmps66
            go_wp2_with (first|((with_reducible refine gate_dst (N:=1) rfl ?_);refine box_event ?hg (N:=1) ?hd (cs:=#[.int .i64 a0_0,.int .i64 a0_1,.int .i64 a0_2,.int .i64 a0_3]) (t:=70) ?hr ?_;(case hd=>rfl);(case hg=>rfl);(case hr=>first|(go_simp;done)|(go_simp;rfl));intro gb152 hg w11 hbox hb;have n0_:=Aside0.mk (below_step (by repeat (first|(with_reducible first|exact HB.out|apply below_alloc|apply pw_below_drewN|apply below_drew1)|exact HB.out)) hb);have n1_:=Aside0.mk (hbox);have n2_:=Aside0.mk ((by rw [hg];exact (below_size (by repeat (first|(with_reducible first|exact HB.out|apply below_alloc|apply pw_below_drewN|apply below_drew1)|exact HB.out))):w.heap.size≤gb152));have n3_:=Aside0.mk ((by rw [hg];exact (below_size (by repeat (first|(with_reducible first|exact HB.out|apply below_alloc|apply pw_below_drewN|apply below_drew1)|exact HB.out))):w.heap.size≤gb152));clear HB;have HB:=n0_;have BK152:=n1_;have GW152:=n2_;have GE152:=n3_;clear n0_ n1_ n2_ n3_;clear hb hbox hg;have hcz12_0:w11.cell? ⟨gb152,0,none⟩=some (.int .i64 a0_0):=(blk_cell BK152.out 0).trans rfl;have hcz12_1:w11.cell? ⟨gb152,1,none⟩=some (.int .i64 a0_1):=(blk_cell BK152.out 1).trans rfl;have hcz12_2:w11.cell? ⟨gb152,2,none⟩=some (.int .i64 a0_2):=(blk_cell BK152.out 2).trans rfl;have hcz12_3:w11.cell? ⟨gb152,3,none⟩=some (.int .i64 a0_3):=(blk_cell BK152.out 3).trans rfl;have hfz12_0:=blk_frozen BK152.out 0;have hfz12_1:=blk_frozen BK152.out 1;have hfz12_2:=blk_frozen BK152.out 2;have hfz12_3:=blk_frozen BK152.out 3)|((with_reducible refine gate_callee (f:=79) rfl ?_);refine goesL_ (some 5) rfl rfl Try.func79 (by kernel_rfl) rfl #[.int .i64 a0_0] rfl (by (try simp only [List.map_toArray,List.map_cons,List.map_nil]);first|done|rfl|(simp only [List.length_drop,List.length_take];rfl)) ?_;(with_reducible refine (cmd_Client.calls a0_0 true _ A2.out).mono ?_);rintro e w' ⟨rfl,⟨nd,rfl⟩⟩;refine ⟨_,rfl,?_⟩)|(go_at_call 56;(with_reducible refine (cmd_Sensor.calls a0_1 true _ A4.out).mono ?_);rintro e w' ⟨rfl,⟨nd,rfl⟩⟩))
            go_ret
            exact ⟨by first|rfl|(simp [errW_none,errW_some]<;>rfl)|(simp [*,errW_none,errW_some]<;>rfl),by repeat (first|(with_reducible first|exact HB.out|apply below_alloc|apply pw_below_drewN|apply below_drew1|refine below_set ?_ GE152.out)|exact HB.out)⟩
        · rw [if_neg c7] at H
          have c7b0:decide (a0_2≤1000)=false:=decide_eq_false c7
          clear c7
          obtain rfl:=Option.some.inj H
          go_enter Try.func66,Try.ntmps66
          go_wp2_with (first|((with_reducible refine gate_dst (N:=1) rfl ?_);refine box_event ?hg (N:=1) ?hd (cs:=#[.int .i64 a0_0,.int .i64 a0_1,.int .i64 a0_2,.int .i64 a0_3]) (t:=70) ?hr ?_;(case hd=>rfl);(case hg=>rfl);(case hr=>first|(go_simp;done)|(go_simp;rfl));intro gb152 hg w13 hbox hb;have n0_:=Aside0.mk (below_step (by repeat (first|(with_reducible first|exact HB.out|apply below_alloc|apply pw_below_drewN|apply below_drew1)|exact HB.out)) hb);have n1_:=Aside0.mk (hbox);have n2_:=Aside0.mk ((by rw [hg];exact (below_size (by repeat (first|(with_reducible first|exact HB.out|apply below_alloc|apply pw_below_drewN|apply below_drew1)|exact HB.out))):w.heap.size≤gb152));have n3_:=Aside0.mk ((by rw [hg];exact (below_size (by repeat (first|(with_reducible first|exact HB.out|apply below_alloc|apply pw_below_drewN|apply below_drew1)|exact HB.out))):w.heap.size≤gb152));clear HB;have HB:=n0_;have BK152:=n1_;have GW152:=n2_;have GE152:=n3_;clear n0_ n1_ n2_ n3_;clear hb hbox hg;have hcz14_0:w13.cell? ⟨gb152,0,none⟩=some (.int .i64 a0_0):=(blk_cell BK152.out 0).trans rfl;have hcz14_1:w13.cell? ⟨gb152,1,none⟩=some (.int .i64 a0_1):=(blk_cell BK152.out 1).trans rfl;have hcz14_2:w13.cell? ⟨gb152,2,none⟩=some (.int .i64 a0_2):=(blk_cell BK152.out 2).trans rfl;have hcz14_3:w13.cell? ⟨gb152,3,none⟩=some (.int .i64 a0_3):=(blk_cell BK152.out 3).trans rfl;have hfz14_0:=blk_frozen BK152.out 0;have hfz14_1:=blk_frozen BK152.out 1;have hfz14_2:=blk_frozen BK152.out 2;have hfz14_3:=blk_frozen BK152.out 3)|((with_reducible refine gate_callee (f:=79) rfl ?_);refine goesL_ (some 5) rfl rfl Try.func79 (by kernel_rfl) rfl #[.int .i64 a0_0] rfl (by (try simp only [List.map_toArray,List.map_cons,List.map_nil]);first|done|rfl|(simp only [List.length_drop,List.length_take];rfl)) ?_;(with_reducible refine (cmd_Client.calls a0_0 true _ A2.out).mono ?_);rintro e w' ⟨rfl,⟨nd,rfl⟩⟩;refine ⟨_,rfl,?_⟩)|(go_at_call 56;(with_reducible refine (cmd_Sensor.calls a0_1 true _ A4.out).mono ?_);rintro e w' ⟨rfl,⟨nd,rfl⟩⟩))
          go_ret
          exact ⟨by first|rfl|(simp [errW_none,errW_some]<;>rfl)|(simp [*,errW_none,errW_some]<;>rfl),by repeat (first|(with_reducible first|exact HB.out|apply below_alloc|apply pw_below_drewN|apply below_drew1|refine below_set ?_ GE152.out)|exact HB.out)⟩
      · rw [if_neg c6] at H
        have c6b0:decide (1≤a0_2)=false:=decide_eq_false c6
        clear c6
        obtain rfl:=Option.some.inj H
        go_enter Try.func66,Try.ntmps66
        go_wp2_with (first|((with_reducible refine gate_dst (N:=1) rfl ?_);refine box_event ?hg (N:=1) ?hd (cs:=#[.int .i64 a0_0,.int .i64 a0_1,.int .i64 a0_2,.int .i64 a0_3]) (t:=70) ?hr ?_;(case hd=>rfl);(case hg=>rfl);(case hr=>first|(go_simp;done)|(go_simp;rfl));intro gb152 hg w15 hbox hb;have n0_:=Aside0.mk (below_step (by repeat (first|(with_reducible first|exact HB.out|apply below_alloc|apply pw_below_drewN|apply below_drew1)|exact HB.out)) hb);have n1_:=Aside0.mk (hbox);have n2_:=Aside0.mk ((by rw [hg];exact (below_size (by repeat (first|(with_reducible first|exact HB.out|apply below_alloc|apply pw_below_drewN|apply below_drew1)|exact HB.out))):w.heap.size≤gb152));have n3_:=Aside0.mk ((by rw [hg];exact (below_size (by repeat (first|(with_reducible first|exact HB.out|apply below_alloc|apply pw_below_drewN|apply below_drew1)|exact HB.out))):w.heap.size≤gb152));clear HB;have HB:=n0_;have BK152:=n1_;have GW152:=n2_;have GE152:=n3_;clear n0_ n1_ n2_ n3_;clear hb hbox hg;have hcz16_0:w15.cell? ⟨gb152,0,none⟩=some (.int .i64 a0_0):=(blk_cell BK152.out 0).trans rfl;have hcz16_1:w15.cell? ⟨gb152,1,none⟩=some (.int .i64 a0_1):=(blk_cell BK152.out 1).trans rfl;have hcz16_2:w15.cell? ⟨gb152,2,none⟩=some (.int .i64 a0_2):=(blk_cell BK152.out 2).trans rfl;have hcz16_3:w15.cell? ⟨gb152,3,none⟩=some (.int .i64 a0_3):=(blk_cell BK152.out 3).trans rfl;have hfz16_0:=blk_frozen BK152.out 0;have hfz16_1:=blk_frozen BK152.out 1;have hfz16_2:=blk_frozen BK152.out 2;have hfz16_3:=blk_frozen BK152.out 3)|((with_reducible refine gate_callee (f:=79) rfl ?_);refine goesL_ (some 5) rfl rfl Try.func79 (by kernel_rfl) rfl #[.int .i64 a0_0] rfl (by (try simp only [List.map_toArray,List.map_cons,List.map_nil]);first|done|rfl|(simp only [List.length_drop,List.length_take];rfl)) ?_;(with_reducible refine (cmd_Client.calls a0_0 true _ A2.out).mono ?_);rintro e w' ⟨rfl,⟨nd,rfl⟩⟩;refine ⟨_,rfl,?_⟩)|(go_at_call 56;(with_reducible refine (cmd_Sensor.calls a0_1 true _ A4.out).mono ?_);rintro e w' ⟨rfl,⟨nd,rfl⟩⟩))
        go_ret
        exact ⟨by first|rfl|(simp [errW_none,errW_some]<;>rfl)|(simp [*,errW_none,errW_some]<;>rfl),by repeat (first|(with_reducible first|exact HB.out|apply below_alloc|apply pw_below_drewN|apply below_drew1|refine below_set ?_ GE152.out)|exact HB.out)⟩
    · replace c5:=Bool.eq_false_iff.mpr c5
      subst c5
      have H1:(some false)=some r:=by rw [if_neg (show ¬ (false=true) by decide)] at H;exact H
      clear H
      have H:=H1
      clear H1
      obtain rfl:=Option.some.inj H
      go_enter Try.func66,Try.ntmps66
      go_wp2_with (first|((with_reducible refine gate_dst (N:=1) rfl ?_);refine box_event ?hg (N:=1) ?hd (cs:=#[.int .i64 a0_0,.int .i64 a0_1,.int .i64 a0_2,.int .i64 a0_3]) (t:=70) ?hr ?_;(case hd=>rfl);(case hg=>rfl);(case hr=>first|(go_simp;done)|(go_simp;rfl));intro gb152 hg w17 hbox hb;have n0_:=Aside0.mk (below_step (by repeat (first|(with_reducible first|exact HB.out|apply below_alloc|apply pw_below_drewN|apply below_drew1)|exact HB.out)) hb);have n1_:=Aside0.mk (hbox);have n2_:=Aside0.mk ((by rw [hg];exact (below_size (by repeat (first|(with_reducible first|exact HB.out|apply below_alloc|apply pw_below_drewN|apply below_drew1)|exact HB.out))):w.heap.size≤gb152));have n3_:=Aside0.mk ((by rw [hg];exact (below_size (by repeat (first|(with_reducible first|exact HB.out|apply below_alloc|apply pw_below_drewN|apply below_drew1)|exact HB.out))):w.heap.size≤gb152));clear HB;have HB:=n0_;have BK152:=n1_;have GW152:=n2_;have GE152:=n3_;clear n0_ n1_ n2_ n3_;clear hb hbox hg;have hcz18_0:w17.cell? ⟨gb152,0,none⟩=some (.int .i64 a0_0):=(blk_cell BK152.out 0).trans rfl;have hcz18_1:w17.cell? ⟨gb152,1,none⟩=some (.int .i64 a0_1):=(blk_cell BK152.out 1).trans rfl;have hcz18_2:w17.cell? ⟨gb152,2,none⟩=some (.int .i64 a0_2):=(blk_cell BK152.out 2).trans rfl;have hcz18_3:w17.cell? ⟨gb152,3,none⟩=some (.int .i64 a0_3):=(blk_cell BK152.out 3).trans rfl;have hfz18_0:=blk_frozen BK152.out 0;have hfz18_1:=blk_frozen BK152.out 1;have hfz18_2:=blk_frozen BK152.out 2;have hfz18_3:=blk_frozen BK152.out 3)|((with_reducible refine gate_callee (f:=79) rfl ?_);refine goesL_ (some 5) rfl rfl Try.func79 (by kernel_rfl) rfl #[.int .i64 a0_0] rfl (by (try simp only [List.map_toArray,List.map_cons,List.map_nil]);first|done|rfl|(simp only [List.length_drop,List.length_take];rfl)) ?_;(with_reducible refine (cmd_Client.calls a0_0 true _ A2.out).mono ?_);rintro e w' ⟨rfl,⟨nd,rfl⟩⟩;refine ⟨_,rfl,?_⟩)|(go_at_call 56;(with_reducible refine (cmd_Sensor.calls a0_1 false _ A4.out).mono ?_);rintro e w' ⟨rfl,⟨nd,rfl⟩⟩))
      go_ret
      exact ⟨by first|rfl|(simp [errW_none,errW_some]<;>rfl)|(simp [*,errW_none,errW_some]<;>rfl),by repeat (first|(with_reducible first|exact HB.out|apply below_alloc|apply pw_below_drewN|apply below_drew1|refine below_set ?_ GE152.out)|exact HB.out)⟩
  · replace c3:=Bool.eq_false_iff.mpr c3
    subst c3
    have H1:(some false)=some r:=by rw [if_neg (show ¬ (false=true) by decide)] at H;exact H
    clear H
    have H:=H1
    clear H1
    obtain rfl:=Option.some.inj H
    go_enter Try.func66,Try.ntmps66
    go_wp2_with (first|((with_reducible refine gate_dst (N:=1) rfl ?_);refine box_event ?hg (N:=1) ?hd (cs:=#[.int .i64 a0_0,.int .i64 a0_1,.int .i64 a0_2,.int .i64 a0_3]) (t:=70) ?hr ?_;(case hd=>rfl);(case hg=>rfl);(case hr=>first|(go_simp;done)|(go_simp;rfl));intro gb152 hg w19 hbox hb;have n0_:=Aside0.mk (below_step (by repeat (first|(with_reducible first|exact HB.out|apply below_alloc|apply pw_below_drewN|apply below_drew1)|exact HB.out)) hb);have n1_:=Aside0.mk (hbox);have n2_:=Aside0.mk ((by rw [hg];exact (below_size (by repeat (first|(with_reducible first|exact HB.out|apply below_alloc|apply pw_below_drewN|apply below_drew1)|exact HB.out))):w.heap.size≤gb152));have n3_:=Aside0.mk ((by rw [hg];exact (below_size (by repeat (first|(with_reducible first|exact HB.out|apply below_alloc|apply pw_below_drewN|apply below_drew1)|exact HB.out))):w.heap.size≤gb152));clear HB;have HB:=n0_;have BK152:=n1_;have GW152:=n2_;have GE152:=n3_;clear n0_ n1_ n2_ n3_;clear hb hbox hg;have hcz20_0:w19.cell? ⟨gb152,0,none⟩=some (.int .i64 a0_0):=(blk_cell BK152.out 0).trans rfl;have hcz20_1:w19.cell? ⟨gb152,1,none⟩=some (.int .i64 a0_1):=(blk_cell BK152.out 1).trans rfl;have hcz20_2:w19.cell? ⟨gb152,2,none⟩=some (.int .i64 a0_2):=(blk_cell BK152.out 2).trans rfl;have hcz20_3:w19.cell? ⟨gb152,3,none⟩=some (.int .i64 a0_3):=(blk_cell BK152.out 3).trans rfl;have hfz20_0:=blk_frozen BK152.out 0;have hfz20_1:=blk_frozen BK152.out 1;have hfz20_2:=blk_frozen BK152.out 2;have hfz20_3:=blk_frozen BK152.out 3)|((with_reducible refine gate_callee (f:=79) rfl ?_);refine goesL_ (some 5) rfl rfl Try.func79 (by kernel_rfl) rfl #[.int .i64 a0_0] rfl (by (try simp only [List.map_toArray,List.map_cons,List.map_nil]);first|done|rfl|(simp only [List.length_drop,List.length_take];rfl)) ?_;(with_reducible refine (cmd_Client.calls a0_0 false _ A2.out).mono ?_);rintro e w' ⟨rfl,⟨nd,rfl⟩⟩;refine ⟨_,rfl,?_⟩))
    go_ret
    exact ⟨by first|rfl|(simp [errW_none,errW_some]<;>rfl)|(simp [*,errW_none,errW_some]<;>rfl),by repeat (first|(with_reducible first|exact HB.out|apply below_alloc|apply pw_below_drewN|apply below_drew1|refine below_set ?_ GE152.out)|exact HB.out)⟩
def gimbalref25_in.f (a0:Int) (a1:Int) (a2:Int):Option (Bool):=if a0≥a1 then (some (decide (a0≤a2))) else (some false)
set_option maxHeartbeats 8000000 in
set_option maxRecDepth 100000 in
theorem gimbalref25_in.calls (a0:Int) (a1:Int) (a2:Int) (r:Bool) (w:World) (h:gimbalref25_in.f a0 a1 a2=some r) :
    Calls Try.prog 67 #[.int .i64 a0,.int .i64 a1,.int .i64 a2] w fun e w'=>e = .returned (.bool r)∧Drawn0 w w':=by
  have H:(if a0≥a1 then (some (decide (a0≤a2))) else (some false))=some r:=h
  clear h
  by_cases c4:a0≥a1
  · rw [if_pos c4] at H
    have c4b0:decide (a1≤a0)=true:=decide_eq_true c4
    clear c4
    obtain rfl:=Option.some.inj H
    go_enter Try.func67,Try.ntmps67
    go_wp2
    go_ret
    exact ⟨by first|rfl|(simp;done)|(simp [*];done),by repeat (first|exact Drawn0.refl _|apply Drawn0.step)⟩
  · rw [if_neg c4] at H
    have c4b0:decide (a1≤a0)=false:=decide_eq_false c4
    clear c4
    obtain rfl:=Option.some.inj H
    go_enter Try.func67,Try.ntmps67
    go_wp2
    go_ret
    exact ⟨by first|rfl|(simp;done)|(simp [*];done),by repeat (first|exact Drawn0.refl _|apply Drawn0.step)⟩
def gimbalref25_Sensor.f (a0:Int):Option (Bool):=(gimbalref25_in.f a0 1 15).bind fun t155=>(some t155)
set_option maxHeartbeats 8000000 in
set_option maxRecDepth 100000 in
theorem gimbalref25_Sensor.calls (a0:Int) (r:Bool) (w:World) (h:gimbalref25_Sensor.f a0=some r) :
    Calls Try.prog 40 #[.int .i64 a0] w fun e w'=>e = .returned (.bool r)∧Drawn0 w w':=by
  have H:((gimbalref25_in.f a0 1 15).bind fun t155=>(some t155))=some r:=h
  clear h
  replace H:=Option.bind_eq_some_iff.mp H
  obtain ⟨t155,A20,H⟩:=H
  replace H:(some t155)=some r:=H
  have A2:=Aside0.mk A20
  clear A20
  obtain rfl:=Option.some.inj H
  go_enter Try.func40,Try.ntmps40
  go_wp2_with (first|((with_reducible refine gate_callee (f:=67) rfl ?_);refine goesL_ (some 4) rfl rfl Try.func67 (by kernel_rfl) rfl #[.int .i64 a0,.int .i64 1,.int .i64 15] rfl (by (try simp only [List.map_toArray,List.map_cons,List.map_nil]);first|done|rfl|(simp only [List.length_drop,List.length_take];rfl)) ?_;(with_reducible refine (gimbalref25_in.calls a0 1 15 t155 _ A2.out).mono ?_);rintro e w' ⟨rfl,⟨nd,rfl⟩⟩;refine ⟨_,rfl,?_⟩))
  go_ret
  exact ⟨by first|rfl|(simp;done)|(simp [*];done),by repeat (first|exact Drawn0.refl _|apply Drawn0.step)⟩
def gimbalref25_Client.f (a0:Int):Option (Bool):=(gimbalref25_in.f a0 0 7).bind fun t156=>(some t156)
set_option maxHeartbeats 8000000 in
set_option maxRecDepth 100000 in
theorem gimbalref25_Client.calls (a0:Int) (r:Bool) (w:World) (h:gimbalref25_Client.f a0=some r) :
    Calls Try.prog 68 #[.int .i64 a0] w fun e w'=>e = .returned (.bool r)∧Drawn0 w w':=by
  have H:((gimbalref25_in.f a0 0 7).bind fun t156=>(some t156))=some r:=h
  clear h
  replace H:=Option.bind_eq_some_iff.mp H
  obtain ⟨t156,A20,H⟩:=H
  replace H:(some t156)=some r:=H
  have A2:=Aside0.mk A20
  clear A20
  obtain rfl:=Option.some.inj H
  go_enter Try.func68,Try.ntmps68
  go_wp2_with (first|((with_reducible refine gate_callee (f:=67) rfl ?_);refine goesL_ (some 4) rfl rfl Try.func67 (by kernel_rfl) rfl #[.int .i64 a0,.int .i64 0,.int .i64 7] rfl (by (try simp only [List.map_toArray,List.map_cons,List.map_nil]);first|done|rfl|(simp only [List.length_drop,List.length_take];rfl)) ?_;(with_reducible refine (gimbalref25_in.calls a0 0 7 t156 _ A2.out).mono ?_);rintro e w' ⟨rfl,⟨nd,rfl⟩⟩;refine ⟨_,rfl,?_⟩))
  go_ret
  exact ⟨by first|rfl|(simp;done)|(simp [*];done),by repeat (first|exact Drawn0.refl _|apply Drawn0.step)⟩
def gimbalref25_MaySub.f (a0_0:Int) (a0_1:Int) (a0_2:Int) (a0_3:Int):Option (Bool):=(gimbalref25_Client.f a0_0).bind fun t158=>(if t158=true then ((gimbalref25_Sensor.f a0_1).bind fun t159=>(if t159=true then ((gimbalref25_in.f a0_2 1 1000).bind fun t160=>(if t160=true then ((gimbalref25_in.f a0_3 0 60000).bind fun t161=>(some t161)) else (some false))) else (some false))) else (some false))
set_option maxHeartbeats 8000000 in
set_option maxRecDepth 100000 in
theorem gimbalref25_MaySub.calls (a0_0:Int) (a0_1:Int) (a0_2:Int) (a0_3:Int) (r:Bool) (w:World) (h:gimbalref25_MaySub.f a0_0 a0_1 a0_2 a0_3=some r) :
    Calls Try.prog 44 #[.agg #[.int .i64 a0_0,.int .i64 a0_1,.int .i64 a0_2,.int .i64 a0_3]] w fun e w'=>e = .returned (.bool r)∧Below w.heap.size w w':=by
  have hu70:=Try.underlying70
  have HB:=Aside0.mk (Below.refl w.heap.size w)
  have H:((gimbalref25_Client.f a0_0).bind fun t158=>(if t158=true then ((gimbalref25_Sensor.f a0_1).bind fun t159=>(if t159=true then ((gimbalref25_in.f a0_2 1 1000).bind fun t160=>(if t160=true then ((gimbalref25_in.f a0_3 0 60000).bind fun t161=>(some t161)) else (some false))) else (some false))) else (some false)))=some r:=h
  clear h
  replace H:=Option.bind_eq_some_iff.mp H
  obtain ⟨t158,A20,H⟩:=H
  replace H:(if t158=true then ((gimbalref25_Sensor.f a0_1).bind fun t159=>(if t159=true then ((gimbalref25_in.f a0_2 1 1000).bind fun t160=>(if t160=true then ((gimbalref25_in.f a0_3 0 60000).bind fun t161=>(some t161)) else (some false))) else (some false))) else (some false))=some r:=H
  have A2:=Aside0.mk A20
  clear A20
  by_cases c3:t158=true
  · subst c3
    have H1:((gimbalref25_Sensor.f a0_1).bind fun t159=>(if t159=true then ((gimbalref25_in.f a0_2 1 1000).bind fun t160=>(if t160=true then ((gimbalref25_in.f a0_3 0 60000).bind fun t161=>(some t161)) else (some false))) else (some false)))=some r:=by rw [if_pos rfl] at H;exact H
    clear H
    have H:=H1
    clear H1
    replace H:=Option.bind_eq_some_iff.mp H
    obtain ⟨t159,A40,H⟩:=H
    replace H:(if t159=true then ((gimbalref25_in.f a0_2 1 1000).bind fun t160=>(if t160=true then ((gimbalref25_in.f a0_3 0 60000).bind fun t161=>(some t161)) else (some false))) else (some false))=some r:=H
    have A4:=Aside0.mk A40
    clear A40
    by_cases c5:t159=true
    · subst c5
      have H1:((gimbalref25_in.f a0_2 1 1000).bind fun t160=>(if t160=true then ((gimbalref25_in.f a0_3 0 60000).bind fun t161=>(some t161)) else (some false)))=some r:=by rw [if_pos rfl] at H;exact H
      clear H
      have H:=H1
      clear H1
      replace H:=Option.bind_eq_some_iff.mp H
      obtain ⟨t160,A60,H⟩:=H
      replace H:(if t160=true then ((gimbalref25_in.f a0_3 0 60000).bind fun t161=>(some t161)) else (some false))=some r:=H
      have A6:=Aside0.mk A60
      clear A60
      by_cases c7:t160=true
      · subst c7
        have H1:((gimbalref25_in.f a0_3 0 60000).bind fun t161=>(some t161))=some r:=by rw [if_pos rfl] at H;exact H
        clear H
        have H:=H1
        clear H1
        replace H:=Option.bind_eq_some_iff.mp H
        obtain ⟨t161,A80,H⟩:=H
        replace H:(some t161)=some r:=H
        have A8:=Aside0.mk A80
        clear A80
        obtain rfl:=Option.some.inj H
        go_enter Try.func44,Try.ntmps44
        go_wp2_with (first|((with_reducible refine gate_dst (N:=1) rfl ?_);refine box_event ?hg (N:=1) ?hd (cs:=#[.int .i64 a0_0,.int .i64 a0_1,.int .i64 a0_2,.int .i64 a0_3]) (t:=70) ?hr ?_;(case hd=>rfl);(case hg=>rfl);(case hr=>first|(go_simp;done)|(go_simp;rfl));intro gb157 hg w9 hbox hb;have n0_:=Aside0.mk (below_step (by repeat (first|(with_reducible first|exact HB.out|apply below_alloc|apply pw_below_drewN|apply below_drew1)|exact HB.out)) hb);have n1_:=Aside0.mk (hbox);have n2_:=Aside0.mk ((by rw [hg];exact (below_size (by repeat (first|(with_reducible first|exact HB.out|apply below_alloc|apply pw_below_drewN|apply below_drew1)|exact HB.out))):w.heap.size≤gb157));have n3_:=Aside0.mk ((by rw [hg];exact (below_size (by repeat (first|(with_reducible first|exact HB.out|apply below_alloc|apply pw_below_drewN|apply below_drew1)|exact HB.out))):w.heap.size≤gb157));clear HB;have HB:=n0_;have BK157:=n1_;have GW157:=n2_;have GE157:=n3_;clear n0_ n1_ n2_ n3_;clear hb hbox hg;have hcz10_0:w9.cell? ⟨gb157,0,none⟩=some (.int .i64 a0_0):=(blk_cell BK157.out 0).trans rfl;have hcz10_1:w9.cell? ⟨gb157,1,none⟩=some (.int .i64 a0_1):=(blk_cell BK157.out 1).trans rfl;have hcz10_2:w9.cell? ⟨gb157,2,none⟩=some (.int .i64 a0_2):=(blk_cell BK157.out 2).trans rfl;have hcz10_3:w9.cell? ⟨gb157,3,none⟩=some (.int .i64 a0_3):=(blk_cell BK157.out 3).trans rfl;have hfz10_0:=blk_frozen BK157.out 0;have hfz10_1:=blk_frozen BK157.out 1;have hfz10_2:=blk_frozen BK157.out 2;have hfz10_3:=blk_frozen BK157.out 3)|((with_reducible refine gate_callee (f:=68) rfl ?_);refine goesL_ (some 5) rfl rfl Try.func68 (by kernel_rfl) rfl #[.int .i64 a0_0] rfl (by (try simp only [List.map_toArray,List.map_cons,List.map_nil]);first|done|rfl|(simp only [List.length_drop,List.length_take];rfl)) ?_;(with_reducible refine (gimbalref25_Client.calls a0_0 true _ A2.out).mono ?_);rintro e w' ⟨rfl,⟨nd,rfl⟩⟩;refine ⟨_,rfl,?_⟩)|(go_at_call 40;(with_reducible refine (gimbalref25_Sensor.calls a0_1 true _ A4.out).mono ?_);rintro e w' ⟨rfl,⟨nd,rfl⟩⟩)|(go_at_call 67;(with_reducible refine (gimbalref25_in.calls a0_2 1 1000 true _ A6.out).mono ?_);rintro e w' ⟨rfl,⟨nd,rfl⟩⟩)|(go_at_call 67;(with_reducible refine (gimbalref25_in.calls a0_3 0 60000 t161 _ A8.out).mono ?_);rintro e w' ⟨rfl,⟨nd,rfl⟩⟩))
        go_ret
        exact ⟨by first|rfl|(simp [errW_none,errW_some]<;>rfl)|(simp [*,errW_none,errW_some]<;>rfl),by repeat (first|(with_reducible first|exact HB.out|apply below_alloc|apply pw_below_drewN|apply below_drew1|refine below_set ?_ GE157.out)|exact HB.out)⟩
      · replace c7:=Bool.eq_false_iff.mpr c7
        subst c7
        have H1:(some false)=some r:=by rw [if_neg (show ¬ (false=true) by decide)] at H;exact H
        clear H
        have H:=H1
        clear H1
        obtain rfl:=Option.some.inj H
        go_enter Try.func44,Try.ntmps44
        go_wp2_with (first|((with_reducible refine gate_dst (N:=1) rfl ?_);refine box_event ?hg (N:=1) ?hd (cs:=#[.int .i64 a0_0,.int .i64 a0_1,.int .i64 a0_2,.int .i64 a0_3]) (t:=70) ?hr ?_;(case hd=>rfl);(case hg=>rfl);(case hr=>first|(go_simp;done)|(go_simp;rfl));intro gb157 hg w11 hbox hb;have n0_:=Aside0.mk (below_step (by repeat (first|(with_reducible first|exact HB.out|apply below_alloc|apply pw_below_drewN|apply below_drew1)|exact HB.out)) hb);have n1_:=Aside0.mk (hbox);have n2_:=Aside0.mk ((by rw [hg];exact (below_size (by repeat (first|(with_reducible first|exact HB.out|apply below_alloc|apply pw_below_drewN|apply below_drew1)|exact HB.out))):w.heap.size≤gb157));have n3_:=Aside0.mk ((by rw [hg];exact (below_size (by repeat (first|(with_reducible first|exact HB.out|apply below_alloc|apply pw_below_drewN|apply below_drew1)|exact HB.out))):w.heap.size≤gb157));clear HB;have HB:=n0_;have BK157:=n1_;have GW157:=n2_;have GE157:=n3_;clear n0_ n1_ n2_ n3_;clear hb hbox hg;have hcz12_0:w11.cell? ⟨gb157,0,none⟩=some (.int .i64 a0_0):=(blk_cell BK157.out 0).trans rfl;have hcz12_1:w11.cell? ⟨gb157,1,none⟩=some (.int .i64 a0_1):=(blk_cell BK157.out 1).trans rfl;have hcz12_2:w11.cell? ⟨gb157,2,none⟩=some (.int .i64 a0_2):=(blk_cell BK157.out 2).trans rfl;have hcz12_3:w11.cell? ⟨gb157,3,none⟩=some (.int .i64 a0_3):=(blk_cell BK157.out 3).trans rfl;have hfz12_0:=blk_frozen BK157.out 0;have hfz12_1:=blk_frozen BK157.out 1;have hfz12_2:=blk_frozen BK157.out 2;have hfz12_3:=blk_frozen BK157.out 3)|((with_reducible refine gate_callee (f:=68) rfl ?_);refine goesL_ (some 5) rfl rfl Try.func68 (by kernel_rfl) rfl #[.int .i64 a0_0] rfl (by (try simp only [List.map_toArray,List.map_cons,List.map_nil]);first|done|rfl|(simp only [List.length_drop,List.length_take];rfl)) ?_;(with_reducible refine (gimbalref25_Client.calls a0_0 true _ A2.out).mono ?_);rintro e w' ⟨rfl,⟨nd,rfl⟩⟩;refine ⟨_,rfl,?_⟩)|(go_at_call 40;(with_reducible refine (gimbalref25_Sensor.calls a0_1 true _ A4.out).mono ?_);rintro e w' ⟨rfl,⟨nd,rfl⟩⟩)|(go_at_call 67;(with_reducible refine (gimbalref25_in.calls a0_2 1 1000 false _ A6.out).mono ?_);rintro e w' ⟨rfl,⟨nd,rfl⟩⟩))
        go_ret
        exact ⟨by first|rfl|(simp [errW_none,errW_some]<;>rfl)|(simp [*,errW_none,errW_some]<;>rfl),by repeat (first|(with_reducible first|exact HB.out|apply below_alloc|apply pw_below_drewN|apply below_drew1|refine below_set ?_ GE157.out)|exact HB.out)⟩
    · replace c5:=Bool.eq_false_iff.mpr c5
      subst c5
      have H1:(some false)=some r:=by rw [if_neg (show ¬ (false=true) by decide)] at H;exact H
      clear H
      have H:=H1
      clear H1
      obtain rfl:=Option.some.inj H
      go_enter Try.func44,Try.ntmps44
      go_wp2_with (first|((with_reducible refine gate_dst (N:=1) rfl ?_);refine box_event ?hg (N:=1) ?hd (cs:=#[.int .i64 a0_0,.int .i64 a0_1,.int .i64 a0_2,.int .i64 a0_3]) (t:=70) ?hr ?_;(case hd=>rfl);(case hg=>rfl);(case hr=>first|(go_simp;done)|(go_simp;rfl));intro gb157 hg w13 hbox hb;have n0_:=Aside0.mk (below_step (by repeat (first|(with_reducible first|exact HB.out|apply below_alloc|apply pw_below_drewN|apply below_drew1)|exact HB.out)) hb);have n1_:=Aside0.mk (hbox);have n2_:=Aside0.mk ((by rw [hg];exact (below_size (by repeat (first|(with_reducible first|exact HB.out|apply below_alloc|apply pw_below_drewN|apply below_drew1)|exact HB.out))):w.heap.size≤gb157));have n3_:=Aside0.mk ((by rw [hg];exact (below_size (by repeat (first|(with_reducible first|exact HB.out|apply below_alloc|apply pw_below_drewN|apply below_drew1)|exact HB.out))):w.heap.size≤gb157));clear HB;have HB:=n0_;have BK157:=n1_;have GW157:=n2_;have GE157:=n3_;clear n0_ n1_ n2_ n3_;clear hb hbox hg;have hcz14_0:w13.cell? ⟨gb157,0,none⟩=some (.int .i64 a0_0):=(blk_cell BK157.out 0).trans rfl;have hcz14_1:w13.cell? ⟨gb157,1,none⟩=some (.int .i64 a0_1):=(blk_cell BK157.out 1).trans rfl;have hcz14_2:w13.cell? ⟨gb157,2,none⟩=some (.int .i64 a0_2):=(blk_cell BK157.out 2).trans rfl;have hcz14_3:w13.cell? ⟨gb157,3,none⟩=some (.int .i64 a0_3):=(blk_cell BK157.out 3).trans rfl;have hfz14_0:=blk_frozen BK157.out 0;have hfz14_1:=blk_frozen BK157.out 1;have hfz14_2:=blk_frozen BK157.out 2;have hfz14_3:=blk_frozen BK157.out 3)|((with_reducible refine gate_callee (f:=68) rfl ?_);refine goesL_ (some 5) rfl rfl Try.func68 (by kernel_rfl) rfl #[.int .i64 a0_0] rfl (by (try simp only [List.map_toArray,List.map_cons,List.map_nil]);first|done|rfl|(simp only [List.length_drop,List.length_take];rfl)) ?_;(with_reducible refine (gimbalref25_Client.calls a0_0 true _ A2.out).mono ?_);rintro e w' ⟨rfl,⟨nd,rfl⟩⟩;refine ⟨_,rfl,?_⟩)|(go_at_call 40;(with_reducible refine (gimbalref25_Sensor.calls a0_1 false _ A4.out).mono ?_);rintro e w' ⟨rfl,⟨nd,rfl⟩⟩))
      go_ret
      exact ⟨by first|rfl|(simp [errW_none,errW_some]<;>rfl)|(simp [*,errW_none,errW_some]<;>rfl),by repeat (first|(with_reducible first|exact HB.out|apply below_alloc|apply pw_below_drewN|apply below_drew1|refine below_set ?_ GE157.out)|exact HB.out)⟩
  · replace c3:=Bool.eq_false_iff.mpr c3
    subst c3
    have H1:(some false)=some r:=by rw [if_neg (show ¬ (false=true) by decide)] at H;exact H
    clear H
    have H:=H1
    clear H1
    obtain rfl:=Option.some.inj H
    go_enter Try.func44,Try.ntmps44
    go_wp2_with (first|((with_reducible refine gate_dst (N:=1) rfl ?_);refine box_event ?hg (N:=1) ?hd (cs:=#[.int .i64 a0_0,.int .i64 a0_1,.int .i64 a0_2,.int .i64 a0_3]) (t:=70) ?hr ?_;(case hd=>rfl);(case hg=>rfl);(case hr=>first|(go_simp;done)|(go_simp;rfl));intro gb157 hg w15 hbox hb;have n0_:=Aside0.mk (below_step (by repeat (first|(with_reducible first|exact HB.out|apply below_alloc|apply pw_below_drewN|apply below_drew1)|exact HB.out)) hb);have n1_:=Aside0.mk (hbox);have n2_:=Aside0.mk ((by rw [hg];exact (below_size (by repeat (first|(with_reducible first|exact HB.out|apply below_alloc|apply pw_below_drewN|apply below_drew1)|exact HB.out))):w.heap.size≤gb157));have n3_:=Aside0.mk ((by rw [hg];exact (below_size (by repeat (first|(with_reducible first|exact HB.out|apply below_alloc|apply pw_below_drewN|apply below_drew1)|exact HB.out))):w.heap.size≤gb157));clear HB;have HB:=n0_;have BK157:=n1_;have GW157:=n2_;have GE157:=n3_;clear n0_ n1_ n2_ n3_;clear hb hbox hg;have hcz16_0:w15.cell? ⟨gb157,0,none⟩=some (.int .i64 a0_0):=(blk_cell BK157.out 0).trans rfl;have hcz16_1:w15.cell? ⟨gb157,1,none⟩=some (.int .i64 a0_1):=(blk_cell BK157.out 1).trans rfl;have hcz16_2:w15.cell? ⟨gb157,2,none⟩=some (.int .i64 a0_2):=(blk_cell BK157.out 2).trans rfl;have hcz16_3:w15.cell? ⟨gb157,3,none⟩=some (.int .i64 a0_3):=(blk_cell BK157.out 3).trans rfl;have hfz16_0:=blk_frozen BK157.out 0;have hfz16_1:=blk_frozen BK157.out 1;have hfz16_2:=blk_frozen BK157.out 2;have hfz16_3:=blk_frozen BK157.out 3)|((with_reducible refine gate_callee (f:=68) rfl ?_);refine goesL_ (some 5) rfl rfl Try.func68 (by kernel_rfl) rfl #[.int .i64 a0_0] rfl (by (try simp only [List.map_toArray,List.map_cons,List.map_nil]);first|done|rfl|(simp only [List.length_drop,List.length_take];rfl)) ?_;(with_reducible refine (gimbalref25_Client.calls a0_0 false _ A2.out).mono ?_);rintro e w' ⟨rfl,⟨nd,rfl⟩⟩;refine ⟨_,rfl,?_⟩))
    go_ret
    exact ⟨by first|rfl|(simp [errW_none,errW_some]<;>rfl)|(simp [*,errW_none,errW_some]<;>rfl),by repeat (first|(with_reducible first|exact HB.out|apply below_alloc|apply pw_below_drewN|apply below_drew1|refine below_set ?_ GE157.out)|exact HB.out)⟩
def gimbalref0_EqNumbers.l0:Nat→List Int→List Int→Int→Option (Bool)
  | 0,_,_,_=>none
  | k+1,x0,x1,x5=>if x5<(x0.length:Int) then (if 0≤x5 then (if x5<(x1.length:Int) then (if (rd x0 x5)=(rd x1 x5) then (gimbalref0_EqNumbers.l0 k x0 x1 (wrap64 (x5+1))) else (some false)) else (none)) else (none)) else (some true)
def gimbalref0_EqNumbers.f (k:Nat) (l0:List Int) (l1:List Int):Option (Bool):=if (l0.length:Int)=(l1.length:Int) then (gimbalref0_EqNumbers.l0 k l0 l1 0) else (some false)
set_option maxHeartbeats 8000000 in
set_option maxRecDepth 100000 in
theorem gimbalref0_EqNumbers.calls (k:Nat) (A0:Option Addr) (c0:Nat) (l0:List Int) (A1:Option Addr) (c1:Nat) (l1:List Int) (r:Bool) (w:World) (hr0:Kd.C (Kd.int .i64) w A0 l0.length l0) (hc0:l0.length≤c0) (hr1:Kd.C (Kd.int .i64) w A1 l1.length l1) (hc1:l1.length≤c1) (h:gimbalref0_EqNumbers.f k l0 l1=some r) :
    Calls Try.prog 17 #[.slice A0 l0.length c0,.slice A1 l1.length c1] w fun e w'=>e = .returned (.bool r)∧Drawn0 w w':=by
  have HR0:=Aside0.mk hr0
  have HC0:=Aside0.mk hc0
  clear hr0 hc0
  have HR1:=Aside0.mk hr1
  have HC1:=Aside0.mk hc1
  clear hr1 hc1
  have H:(if (l0.length:Int)=(l1.length:Int) then (gimbalref0_EqNumbers.l0 k l0 l1 0) else (some false))=some r:=h
  clear h
  by_cases c3:(l0.length:Int)=(l1.length:Int)
  · rw [if_pos c3] at H
    have c3b0:((l0.length:Int) == (l1.length:Int))=true:=beq_iff_eq.mpr c3
    have c3b1:((l0.length:Int) != (l1.length:Int))=false:=bne_eq_false_iff_eq.mpr c3
    have c3b2:(l0.length == l1.length)=true:=by first|simpa using c3|(simp at c3 ⊢;omega)
    clear c3
    have H':=Aside0.mk H
    clear H
    go_enter Try.func17,Try.ntmps17
    go_wp2
    repeat (go_quiet (fail);try go_wp2)
    go_loopg [5] k (fun kq v5 w'=>∃ (x5_1:Int),v5 = .int .i64 x5_1∧Aside0 (gimbalref0_EqNumbers.l0 kq l0 l1 x5_1=some r)∧Aside0 (kq≤k)∧Drawn0 w w')
    case atStart=>exact ⟨(0),(by first|rfl|(simp;done)|(simp [*];done)),H',⟨Nat.le_refl _⟩,by repeat (first|exact Drawn0.refl _|apply Drawn0.step)⟩
    case round =>
      clear H'
      try clear c1
      try clear p2
      try clear c3
      try clear c3b0
      try clear c3b1
      try clear c3b2
      obtain ⟨x5_1,rfl,HA,HK1,⟨m1,rfl⟩⟩:=hrel
      cases gk with
      | zero=>exact absurd HA.out (by simp [gimbalref0_EqNumbers.l0])
      | succ k1 =>
        have H:=HA.out
        clear HA
        simp only [gimbalref0_EqNumbers.l0] at H
        by_cases c4:x5_1<(l0.length:Int)
        · rw [if_pos c4] at H
          have c4b0:decide (x5_1<(l0.length:Int))=true:=decide_eq_true c4
          clear c4
          by_cases c5:0≤x5_1
          · rw [if_pos c5] at H
            have c5b0:decide (0≤x5_1)=true:=decide_eq_true c5
            clear c5
            by_cases c6:x5_1<(l1.length:Int)
            · rw [if_pos c6] at H
              have c6b0:decide (x5_1<(l1.length:Int))=true:=decide_eq_true c6
              clear c6
              by_cases c7:(rd l0 x5_1)=(rd l1 x5_1)
              · rw [if_pos c7] at H
                have c7b0:((rd l0 x5_1) == (rd l1 x5_1))=true:=beq_iff_eq.mpr c7
                have c7b1:((rd l0 x5_1) != (rd l1 x5_1))=false:=bne_eq_false_iff_eq.mpr c7
                clear c7
                have H':=Aside0.mk H
                clear H
                have p162:0≤(x5_1:Int):=of_decide_eq_true (by first|(with_reducible assumption)|assumption)
                have q162:x5_1<(l0.length:Int):=of_decide_eq_true (by first|(with_reducible assumption)|assumption)
                obtain ⟨ad162,e162,hx162_0⟩:=Kd.at_int HR0.out x5_1 p162 q162
                cases e162
                replace p162:=eq_true p162
                replace q162:=eq_true q162
                have p163:0≤(x5_1:Int):=of_decide_eq_true (by first|(with_reducible assumption)|assumption)
                have q163:x5_1<(l1.length:Int):=of_decide_eq_true (by first|(with_reducible assumption)|assumption)
                obtain ⟨ad163,e163,hx163_0⟩:=Kd.at_int HR1.out x5_1 p163 q163
                cases e163
                replace p163:=eq_true p163
                replace q163:=eq_true q163
                go_wp2
                repeat (go_quiet (fail);try go_wp2)
                go_roundg k1
                case measure=>have:=HK1.out;omega
                case rel=>exact ⟨(wrap64 (x5_1+1)),(by first|rfl|(simp;done)|(simp [*];done)),H',⟨by have:=HK1.out;omega⟩,by repeat (first|exact Drawn0.refl _|apply Drawn0.step)⟩
              · rw [if_neg c7] at H
                have c7b0:((rd l0 x5_1) == (rd l1 x5_1))=false:=beq_eq_false_iff_ne.mpr c7
                have c7b1:((rd l0 x5_1) != (rd l1 x5_1))=true:=bne_iff_ne.mpr c7
                obtain rfl:=Option.some.inj H
                have p162:0≤(x5_1:Int):=of_decide_eq_true (by first|(with_reducible assumption)|assumption)
                have q162:x5_1<(l0.length:Int):=of_decide_eq_true (by first|(with_reducible assumption)|assumption)
                obtain ⟨ad162,e162,hx162_0⟩:=Kd.at_int HR0.out x5_1 p162 q162
                cases e162
                replace p162:=eq_true p162
                replace q162:=eq_true q162
                have p163:0≤(x5_1:Int):=of_decide_eq_true (by first|(with_reducible assumption)|assumption)
                have q163:x5_1<(l1.length:Int):=of_decide_eq_true (by first|(with_reducible assumption)|assumption)
                obtain ⟨ad163,e163,hx163_0⟩:=Kd.at_int HR1.out x5_1 p163 q163
                cases e163
                replace p163:=eq_true p163
                replace q163:=eq_true q163
                go_wp2
                repeat (go_quiet (fail);try go_wp2)
                go_ret
                exact ⟨by first|rfl|(simp;done)|(simp [*];done),by repeat (first|exact Drawn0.refl _|apply Drawn0.step)⟩
            · rw [if_neg c6] at H
              exact absurd H (by simp)
          · rw [if_neg c5] at H
            exact absurd H (by simp)
        · rw [if_neg c4] at H
          have c4b0:decide (x5_1<(l0.length:Int))=false:=decide_eq_false c4
          clear c4
          obtain rfl:=Option.some.inj H
          go_wp2
          repeat (go_quiet (fail);try go_wp2)
          go_ret
          exact ⟨by first|rfl|(simp;done)|(simp [*];done),by repeat (first|exact Drawn0.refl _|apply Drawn0.step)⟩
  · rw [if_neg c3] at H
    have c3b0:((l0.length:Int) == (l1.length:Int))=false:=beq_eq_false_iff_ne.mpr c3
    have c3b1:((l0.length:Int) != (l1.length:Int))=true:=bne_iff_ne.mpr c3
    have c3b2:(l0.length == l1.length)=false:=by first|simpa using c3|(simp at c3 ⊢;omega)
    obtain rfl:=Option.some.inj H
    go_enter Try.func17,Try.ntmps17
    go_wp2
    repeat (go_quiet (fail);try go_wp2)
    go_ret
    exact ⟨by first|rfl|(simp;done)|(simp [*];done),by repeat (first|exact Drawn0.refl _|apply Drawn0.step)⟩
def gimballaw26_num.f (a0:Int):Option (Int):=some a0
set_option maxHeartbeats 8000000 in
set_option maxRecDepth 100000 in
theorem gimballaw26_num.calls (a0:Int) (r:Int) (w:World) (h:gimballaw26_num.f a0=some r) :
    Calls Try.prog 16 #[.int .i64 a0] w fun e w'=>e = .returned (.int .i64 r)∧Drawn0 w w':=by
  have H:(some a0)=some r:=h
  clear h
  obtain rfl:=Option.some.inj H
  go_enter Try.func16,Try.ntmps16
  go_wp2
  go_ret
  exact ⟨by first|rfl|(simp;done)|(simp [*];done),by repeat (first|exact Drawn0.refl _|apply Drawn0.step)⟩
end Go.Proofs.Ytcgknibjbnijmaa.QPw
end
section
namespace Go.Proofs.Ytcgknibjbnijmaa.QPw
open RowKit YtcgknibjbnijmaaW.PrintWords YtcgknibjbnijmaaW.PrintLast YtcgknibjbnijmaaW.PrintMore
attribute [local go_sem] max2_int min2_int max_two min_two max_three min_three max_four min_four   -- for this text's walks alone
set_option linter.unusedVariables false
set_option linter.unusedSimpArgs false
def gimballaw0_Numbers.l0:Nat→List Int→Int→Option (Unit)
  | 0,_,_=>none
  | k+1,x0,x2=>if x2<(x0.length:Int) then (if 0≤x2 then (gimballaw0_Numbers.l0 k (x0.set (x2:Int).toNat (-99)) (wrap64 (x2+1))) else (none)) else (if x0.length<17592186044416 then (some ()) else (none))
def gimballaw0_Numbers.f (k:Nat) (l0:List Int):Option (Unit):=gimballaw0_Numbers.l0 k l0 0
set_option maxHeartbeats 8000000 in
set_option maxRecDepth 100000 in
theorem gimballaw0_Numbers.calls (k:Nat) (P0_:Nat→Prop) (u9000_:Value) (l0:List Int) (w0 w:World) (hB:Below w0.heap.size w0 w) (ho0:Kd.R (Kd.int .i64) 3 w w0.heap.size P0_ u9000_ l0) (h:gimballaw0_Numbers.f k l0=some ()) :
    Calls Try.prog 41 #[u9000_] w fun e w'=>e = .returned (.tuple #[])∧Below w0.heap.size w0 w'∧Kept w w' (fun k_=>P0_ k_):=by
  have HO0:=Aside0.mk (show Kd.R (Kd.int .i64) 3 w w0.heap.size (fun k_=>(P0_ k_∨w.heap.size≤k_)) u9000_ l0 from Kd.R_mono ho0 (fun k_ hk=>(.inl hk)))
  have HK:=Aside0.mk (Kept.refl w (fun k_=>P0_ k_))
  have HW0:=Aside0.mk hB.size
  have HB:=Aside0.mk hB
  clear hB
  have H:(gimballaw0_Numbers.l0 k l0 0)=some ():=h
  clear h
  have H':=Aside0.mk H
  clear H
  go_enter Try.func41,Try.ntmps41
  go_wp2
  go_loopg [2] k (fun kq v2 w'=>∃ (x0_1:List Int) (x2_1:Int),v2 = .int .i64 x2_1∧Aside0 (gimballaw0_Numbers.l0 kq x0_1 x2_1=some ())∧Aside0 (kq≤k)∧Aside0 (Kd.R (Kd.int .i64) 3 w' w0.heap.size (fun k_=>(P0_ k_∨w.heap.size≤k_)) u9000_ x0_1)∧Aside0 (Kept w w' (fun k_=>P0_ k_))∧Aside0 (Below w0.heap.size w0 w'))
  case atStart=>exact ⟨(l0),(0),(by first|rfl|(simp;done)|(simp [*];done)),H',⟨Nat.le_refl _⟩,⟨by (with_reducible repeat (first|apply Kd.R_alloc|apply Kd.R_drewN|apply Kd.R_drew));exact HO0.out⟩,⟨by repeat (first|(with_reducible first|exact HK.out|apply Kept.alloc|apply Kept.drewN|apply Kept.drew)|exact HK.out)⟩,⟨by repeat (first|(with_reducible first|exact HB.out|apply below_alloc|apply pw_below_drewN|apply below_drew1)|exact HB.out)⟩⟩
  case round =>
    clear H'
    obtain ⟨x0_1,x2_1,rfl,HA,HK1,HO_0,HK,HB⟩:=hrel
    cases gk with
    | zero=>exact absurd HA.out (by simp [gimballaw0_Numbers.l0])
    | succ k1 =>
      have H:=HA.out
      clear HA
      simp only [gimballaw0_Numbers.l0] at H
      by_cases c2:x2_1<(x0_1.length:Int)
      · rw [if_pos c2] at H
        have c2b0:decide (x2_1<(x0_1.length:Int))=true:=decide_eq_true c2
        clear c2
        by_cases c3:0≤x2_1
        · rw [if_pos c3] at H
          have c3b0:decide (0≤x2_1)=true:=decide_eq_true c3
          clear c3
          obtain ⟨y164,hy164⟩:∃ y_:List Int,y_=(x0_1.set (x2_1:Int).toNat (-99)):=⟨_,rfl⟩
          replace H:(gimballaw0_Numbers.l0 k1 y164 (wrap64 (x2_1+1)))=some ():=by first|(rw [hy164];with_reducible exact H)|(have H2_:=(Option.bind_some _ _).symm.trans H;rw [hy164];with_reducible exact H2_)|(have H2_:=(Option.bind_some _ _).symm.trans H;with_reducible exact H2_)|with_reducible exact H|(rw [hy164];exact H)|exact H
          have Ny164:=Aside0.mk hy164
          clear hy164
          have H':=Aside0.mk H
          clear H
          obtain ⟨Ao5,co5,eo5⟩:=Kd.R_slice HO_0.out
          subst eo5
          have p4:0≤(x2_1:Int):=of_decide_eq_true (by first|(with_reducible assumption)|assumption)
          have q4:(x2_1:Int)<((x0_1.length:Int):Int):=of_decide_eq_true (by first|(with_reducible assumption)|assumption)
          obtain ⟨go4,co4,eo4,gb4,gl4,cl4,HG4⟩:=Kd.R_form HO_0.out (by omega)
          (first|cases eo4|(injection eo4 with ea_ en_ ec_;(first|subst ea_|(injection ea_ with ea_;subst ea_));subst ec_;clear en_))
          have GB4:=Aside0.mk gb4
          have GG4:=Aside0.mk HG4
          clear gb4 gl4 HG4
          have HMgo4:=Aside0.mk (show (P0_ go4∨w.heap.size≤go4) from (HO_0.out.1 _ rfl))
          obtain ⟨hx4_0,hf4_0⟩:=Kd.R_celln 0 HO_0.out (x2_1:Int) p4 q4
          replace p4:=eq_true p4
          replace q4:=eq_true q4
          have HP6:=Kd.R_putg HO_0.out (x2_1:Int) (-99)
          go_wp2_with (first|((with_reducible refine gate_store (t:=3) (p:=11) rfl ?_);refine store_event (t:=3) (p:=11) (v:=?vo_w7) (w1:=(wr.setCell ⟨go4,(x2_1:Int).toNat,none⟩ (.int .i64 (-99)))) ?hg ?ho ?hn ?hr ?_;(case ho=>rfl);(case hg=>rfl);(case hn=>rfl);(case hr=>first|(go_simp;done)|(go_simp;rfl));intro w7 hw;have hg:wr.grownBy w7 (some go4):=(by rw [hw];exact HP6.2);have hp_:Kd.R (Kd.int .i64) 3 w7 w0.heap.size (fun k_=>(P0_ k_∨w.heap.size≤k_)) (.slice (some ⟨go4,0,none⟩) x0_1.length co5) y164:=(by rw [hw,Ny164.out];exact HP6.1);clear HP6;have n0_:=Aside0.mk (hp_);have n1_:=Aside0.mk ((by rw [hw];exact below_set (HB.out) GB4.out:Below w0.heap.size w0 w7));have n2_:=Aside0.mk (Kept.of_grown (S:=(fun k_=>P0_ k_)) hg (by repeat (first|(with_reducible first|exact HK.out|apply Kept.alloc|apply Kept.drewN|apply Kept.drew)|exact HK.out)) (fun k_ e_=>(HO_0.out.1 k_ e_)));clear HO_0;clear HB;clear HK;have HO_0:=n0_;have HB:=n1_;have HK:=n2_;clear n0_ n1_ n2_;clear hg hw hp_))
          go_roundg k1
          case measure=>have:=HK1.out;omega
          case rel=>exact ⟨(y164),(wrap64 (x2_1+1)),(by first|rfl|(simp;done)|(simp [*];done)),H',⟨by have:=HK1.out;omega⟩,⟨by (with_reducible repeat (first|apply Kd.R_alloc|apply Kd.R_drewN|apply Kd.R_drew));exact HO_0.out⟩,⟨by repeat (first|(with_reducible first|exact HK.out|apply Kept.alloc|apply Kept.drewN|apply Kept.drew)|exact HK.out)⟩,⟨by repeat (first|(with_reducible first|exact HB.out|apply below_alloc|apply pw_below_drewN|apply below_drew1)|exact HB.out)⟩⟩
        · rw [if_neg c3] at H
          exact absurd H (by simp)
      · rw [if_neg c2] at H
        have c2b0:decide (x2_1<(x0_1.length:Int))=false:=decide_eq_false c2
        clear c2
        by_cases c8:x0_1.length<17592186044416
        · rw [if_pos c8] at H
          have LMc8:=Aside0.mk c8
          clear c8
          obtain ⟨y165,hy165⟩:∃ y_:List Int,y_=(x0_1++[5]):=⟨_,rfl⟩
          replace H:(some ())=some ():=by first|(rw [hy165];with_reducible exact H)|(have H2_:=(Option.bind_some _ _).symm.trans H;rw [hy165];with_reducible exact H2_)|(have H2_:=(Option.bind_some _ _).symm.trans H;with_reducible exact H2_)|with_reducible exact H|(rw [hy165];exact H)|exact H
          have Ny165:=Aside0.mk hy165
          clear hy165
          obtain ⟨Ao9,co9,eo9⟩:=Kd.R_slice HO_0.out
          subst eo9
          go_wp2_with (first|((with_reducible refine gate_builtin (b := .append) (xs:=#[.tmp 12,.tmp 13]) rfl ?_);at_builtin;refine Kd.R_append (Kd.int .i64) (w0:=w0) w0.heap.size rfl (.tmp 12) (.tmp 13) 22 3 (.int .i64 0) 8 rfl Try.underlying22 info3 rfl (by decide) (by omega) (.slice Ao9 x0_1.length co9) x0_1 5 [.int .i64 5] (fun k_=>(P0_ k_∨w.heap.size≤k_)) (fun _=>False) rfl rfl ?aP (fun _ hk=>hk.elim) ?aF ?aO ?aB ?aS ?aL ?_;(case aP=>exact rfl);(case aB=>exact (by repeat (first|(with_reducible first|exact HB.out|apply below_alloc|apply pw_below_drewN|apply below_drew1)|exact HB.out)));(case aF=>exact (fun k_ hk=>(.inr (Nat.le_trans (by first|exact HK.out.1|exact (show Kept w _ (fun k_=>P0_ k_) from by repeat (first|(with_reducible first|exact HK.out|apply Kept.alloc|apply Kept.drewN|apply Kept.drew)|exact HK.out)).1) hk))));(case aO=>exact (by (with_reducible repeat (first|apply Kd.R_alloc|apply Kd.R_drewN|apply Kd.R_drew));exact HO_0.out));(case aS=>exact (below_size (by repeat (first|(with_reducible first|exact HB.out|apply below_alloc|apply pw_below_drewN|apply below_drew1)|exact HB.out))));(case aL=>have:=LMc8.out;omega);intro v166 w10 ho hb hg hat;rw [← Ny165.out] at ho;have n0_:=Aside0.mk (hb);have n1_:=Aside0.mk (Kept.of_grown (S:=(fun k_=>P0_ k_)) hg (by repeat (first|(with_reducible first|exact HK.out|apply Kept.alloc|apply Kept.drewN|apply Kept.drew)|exact HK.out)) (fun k_ e_=>(HO_0.out.1 k_ e_)));have n2_:=Aside0.mk (ho);clear HB;clear HK;clear HO_0;have HB:=n0_;have HK:=n1_;have HO167:=n2_;clear n0_ n1_ n2_;clear ho hb hg hat))
          first|go_end0|((try simp only [Exit.inBlock,Exit.then]);refine bodyPost_ret (results_none rfl _ _ _) rfl ?_)
          exact ⟨by first|rfl|(simp [errW_none,errW_some]<;>rfl)|(simp [*,errW_none,errW_some]<;>rfl),by repeat (first|(with_reducible first|exact HB.out|apply below_alloc|apply pw_below_drewN|apply below_drew1)|exact HB.out),by repeat (first|(with_reducible first|exact HK.out|apply Kept.alloc|apply Kept.drewN|apply Kept.drew)|exact HK.out)⟩
        · rw [if_neg c8] at H
          exact absurd H (by simp)
def gimbalref0_CopySubs.l0:Nat→List (S70)→List (S70)→Int→Option ((List (S70)))
  | 0,_,_,_=>none
  | k+1,x0,x3,x4=>if x4<(x0.length:Int) then (if 0≤x4 then (if x3.length<4398046511104 then (gimbalref0_CopySubs.l0 k x0 (x3++[(⟨(rd_T70 x0 x4).f0,(rd_T70 x0 x4).f1,(rd_T70 x0 x4).f2,(rd_T70 x0 x4).f3⟩:S70)]) (wrap64 (x4+1))) else (none)) else (none)) else (some x3)
def gimbalref0_CopySubs.f (k:Nat) (l0:List (S70)):Option ((List (S70))):=gimbalref0_CopySubs.l0 k l0 ([]:List (S70)) 0
set_option maxHeartbeats 8000000 in
set_option maxRecDepth 100000 in
theorem gimbalref0_CopySubs.calls (k:Nat) (A0:Option Addr) (c0:Nat) (l0:List (S70)) (r:List (S70)) (w:World) (hr0:Kd.C k70 w A0 l0.length l0) (hc0:l0.length≤c0) (h:gimbalref0_CopySubs.f k l0=some r) :
    Calls Try.prog 39 #[.slice A0 l0.length c0] w fun e w'=>∃ v0_:Value,e = .returned (v0_)∧Kd.R k70 70 w' w.heap.size (fun _=>True) v0_ r∧Below w.heap.size w w':=by
  have hu70:=Try.underlying70
  have HR0:=Aside0.mk hr0
  have HC0:=Aside0.mk hc0
  clear hr0 hc0
  have HB:=Aside0.mk (Below.refl w.heap.size w)
  have H:(gimbalref0_CopySubs.l0 k l0 ([]:List (S70)) 0)=some r:=h
  clear h
  have H':=Aside0.mk H
  clear H
  go_enter Try.func39,Try.ntmps39
  go_wp2
  go_loopg [3,4] k (fun kq v3 v4 w'=>∃ (x3_1:List (S70)) (x4_1:Int),v4 = .int .i64 x4_1∧Aside0 (gimbalref0_CopySubs.l0 kq l0 x3_1 x4_1=some r)∧Aside0 (kq≤k)∧Aside0 (Kd.R k70 70 w' w.heap.size (fun _=>True) v3 x3_1)∧Aside0 (Below w.heap.size w w'))
  case atStart=>exact ⟨(([]:List (S70))),(0),(by first|rfl|(simp;done)|(simp [*];done)),H',⟨Nat.le_refl _⟩,⟨by first|exact Kd.R_nil _ _ _ _ _|exact Kd.N_nil _ _ _ _ _|exact Kd.V_nil _ _ _ _ _|exact Kd.Q_nil _ _ _ _ _|exact Kd.S_nil _ _ _ _ _⟩,⟨by repeat (first|(with_reducible first|exact HB.out|apply below_alloc|apply pw_below_drewN|apply below_drew1)|exact HB.out)⟩⟩
  case round =>
    clear H'
    obtain ⟨x3_1,x4_1,rfl,HA,HK1,HO_3,HB⟩:=hrel
    cases gk with
    | zero=>exact absurd HA.out (by simp [gimbalref0_CopySubs.l0])
    | succ k1 =>
      have H:=HA.out
      clear HA
      simp only [gimbalref0_CopySubs.l0] at H
      by_cases c2:x4_1<(l0.length:Int)
      · rw [if_pos c2] at H
        have c2b0:decide (x4_1<(l0.length:Int))=true:=decide_eq_true c2
        clear c2
        by_cases c3:0≤x4_1
        · rw [if_pos c3] at H
          have c3b0:decide (0≤x4_1)=true:=decide_eq_true c3
          clear c3
          by_cases c4:x3_1.length<4398046511104
          · rw [if_pos c4] at H
            have LMc4:=Aside0.mk c4
            clear c4
            obtain ⟨y169,hy169⟩:∃ y_:List (S70),y_=(x3_1++[(⟨(rd_T70 l0 x4_1).f0,(rd_T70 l0 x4_1).f1,(rd_T70 l0 x4_1).f2,(rd_T70 l0 x4_1).f3⟩:S70)]):=⟨_,rfl⟩
            replace H:(gimbalref0_CopySubs.l0 k1 l0 y169 (wrap64 (x4_1+1)))=some r:=by first|(rw [hy169];with_reducible exact H)|(have H2_:=(Option.bind_some _ _).symm.trans H;rw [hy169];with_reducible exact H2_)|(have H2_:=(Option.bind_some _ _).symm.trans H;with_reducible exact H2_)|with_reducible exact H|(rw [hy169];exact H)|exact H
            have Ny169:=Aside0.mk hy169
            clear hy169
            have H':=Aside0.mk H
            clear H
            have p168:0≤(x4_1:Int):=of_decide_eq_true (by first|(with_reducible assumption)|assumption)
            have q168:x4_1<(l0.length:Int):=of_decide_eq_true (by first|(with_reducible assumption)|assumption)
            obtain ⟨ad168,e168,hx168_0,hx168_1,hx168_2,hx168_3⟩:=at_T70 HR0.out x4_1 p168 q168
            cases e168
            replace hx168_0:=(HB.out.cell (World.block_lt_of_cell? w _ hx168_0)).trans hx168_0
            replace hx168_1:=(HB.out.cell (World.block_lt_of_cell? w _ hx168_1)).trans hx168_1
            replace hx168_2:=(HB.out.cell (World.block_lt_of_cell? w _ hx168_2)).trans hx168_2
            replace hx168_3:=(HB.out.cell (World.block_lt_of_cell? w _ hx168_3)).trans hx168_3
            replace p168:=eq_true p168
            replace q168:=eq_true q168
            go_wp2_with (first|((with_reducible refine gate_builtin (b := .append) (xs:=#[.tmp 11,.tmp 16]) rfl ?_);at_builtin;refine Kd.R_append k70 (w0:=w) w.heap.size rfl (.tmp 11) (.tmp 16) 62 70 (.agg #[(.int .i64 0),(.int .i64 0),(.int .i64 0),(.int .i64 0)]) 32 rfl Try.underlying62 info70 rfl (by decide) (by omega) u3 x3_1 (⟨(rd_T70 l0 x4_1).f0,(rd_T70 l0 x4_1).f1,(rd_T70 l0 x4_1).f2,(rd_T70 l0 x4_1).f3⟩:S70) [.int .i64 ((rd_T70 l0 x4_1).f0),.int .i64 ((rd_T70 l0 x4_1).f1),.int .i64 ((rd_T70 l0 x4_1).f2),.int .i64 ((rd_T70 l0 x4_1).f3)] (fun _=>True) (fun _=>False) rfl rfl ?aP (fun _ hk=>hk.elim) ?aF ?aO ?aB ?aS ?aL ?_;(case aP=>exact k70_mkM _ _ _ (⟨(rd_T70 l0 x4_1).f0,(rd_T70 l0 x4_1).f1,(rd_T70 l0 x4_1).f2,(rd_T70 l0 x4_1).f3⟩:S70));(case aB=>exact (by repeat (first|(with_reducible first|exact HB.out|apply below_alloc|apply pw_below_drewN|apply below_drew1)|exact HB.out)));(case aF=>exact (fun _ _=>trivial));(case aO=>exact (by (with_reducible repeat (first|apply Kd.R_alloc|apply Kd.R_drewN|apply Kd.R_drew));exact HO_3.out));(case aS=>exact (below_size (by repeat (first|(with_reducible first|exact HB.out|apply below_alloc|apply pw_below_drewN|apply below_drew1)|exact HB.out))));(case aL=>have:=LMc4.out;omega);intro v170 w5 ho hb hg hat;rw [← Ny169.out] at ho;have n0_:=Aside0.mk (hb);have n1_:=Aside0.mk (ho);clear HB;clear HO_3;have HB:=n0_;have HO171:=n1_;clear n0_ n1_;clear ho hb hg hat))
            go_roundg k1
            case measure=>have:=HK1.out;omega
            case rel=>exact ⟨(y169),(wrap64 (x4_1+1)),(by first|rfl|(simp;done)|(simp [*];done)),H',⟨by have:=HK1.out;omega⟩,⟨by (with_reducible repeat (first|apply Kd.R_alloc|apply Kd.R_drewN|apply Kd.R_drew));exact HO171.out⟩,⟨by repeat (first|(with_reducible first|exact HB.out|apply below_alloc|apply pw_below_drewN|apply below_drew1)|exact HB.out)⟩⟩
          · rw [if_neg c4] at H
            exact absurd H (by simp)
        · rw [if_neg c3] at H
          exact absurd H (by simp)
      · rw [if_neg c2] at H
        have c2b0:decide (x4_1<(l0.length:Int))=false:=decide_eq_false c2
        clear c2
        obtain rfl:=Option.some.inj H
        go_wp2
        go_ret
        exact ⟨_,by first|rfl|(simp [errW_none,errW_some]<;>rfl)|(simp [*,errW_none,errW_some]<;>rfl),by (with_reducible repeat (first|apply Kd.R_alloc|apply Kd.R_drewN|apply Kd.R_drew));exact HO_3.out,by repeat (first|(with_reducible first|exact HB.out|apply below_alloc|apply pw_below_drewN|apply below_drew1)|exact HB.out)⟩
def gimbalref26_MaySubs.l0:Nat→List (S70)→Int→Option (Bool)
  | 0,_,_=>none
  | k+1,x0,x3=>if x3<(x0.length:Int) then (if 0≤x3 then ((gimbalref25_MaySub.f ((rd_T70 x0 x3).f0) ((rd_T70 x0 x3).f1) ((rd_T70 x0 x3).f2) ((rd_T70 x0 x3).f3)).bind fun t173=>(if t173=true then (gimbalref26_MaySubs.l0 k x0 (wrap64 (x3+1))) else (some false))) else (none)) else (some true)
def gimbalref26_MaySubs.f (k:Nat) (l0:List (S70)):Option (Bool):=gimbalref26_MaySubs.l0 k l0 0
set_option maxHeartbeats 8000000 in
set_option maxRecDepth 100000 in
theorem gimbalref26_MaySubs.calls (k:Nat) (A0:Option Addr) (c0:Nat) (l0:List (S70)) (r:Bool) (w:World) (hr0:Kd.C k70 w A0 l0.length l0) (hc0:l0.length≤c0) (h:gimbalref26_MaySubs.f k l0=some r) :
    Calls Try.prog 36 #[.slice A0 l0.length c0] w fun e w'=>e = .returned (.bool r)∧Below w.heap.size w w':=by
  have hu70:=Try.underlying70
  have HR0:=Aside0.mk hr0
  have HC0:=Aside0.mk hc0
  clear hr0 hc0
  have HB:=Aside0.mk (Below.refl w.heap.size w)
  have H:(gimbalref26_MaySubs.l0 k l0 0)=some r:=h
  clear h
  have H':=Aside0.mk H
  clear H
  go_enter Try.func36,Try.ntmps36
  go_wp2
  go_loopg [3] k (fun kq v3 w'=>∃ (x3_1:Int),v3 = .int .i64 x3_1∧Aside0 (gimbalref26_MaySubs.l0 kq l0 x3_1=some r)∧Aside0 (kq≤k)∧Aside0 (Below w.heap.size w w'))
  case atStart=>exact ⟨(0),(by first|rfl|(simp;done)|(simp [*];done)),H',⟨Nat.le_refl _⟩,⟨by repeat (first|(with_reducible first|exact HB.out|apply below_alloc|apply pw_below_drewN|apply below_drew1)|exact HB.out)⟩⟩
  case round =>
    clear H'
    obtain ⟨x3_1,rfl,HA,HK1,HB⟩:=hrel
    cases gk with
    | zero=>exact absurd HA.out (by simp [gimbalref26_MaySubs.l0])
    | succ k1 =>
      have H:=HA.out
      clear HA
      simp only [gimbalref26_MaySubs.l0] at H
      by_cases c2:x3_1<(l0.length:Int)
      · rw [if_pos c2] at H
        have c2b0:decide (x3_1<(l0.length:Int))=true:=decide_eq_true c2
        clear c2
        by_cases c3:0≤x3_1
        · rw [if_pos c3] at H
          have c3b0:decide (0≤x3_1)=true:=decide_eq_true c3
          clear c3
          replace H:=Option.bind_eq_some_iff.mp H
          obtain ⟨t173,A40,H⟩:=H
          replace H:(if t173=true then (gimbalref26_MaySubs.l0 k1 l0 (wrap64 (x3_1+1))) else (some false))=some r:=H
          have A4:=Aside0.mk A40
          clear A40
          by_cases c5:t173=true
          · subst c5
            have H1:(gimbalref26_MaySubs.l0 k1 l0 (wrap64 (x3_1+1)))=some r:=by rw [if_pos rfl] at H;exact H
            clear H
            have H:=H1
            clear H1
            have H':=Aside0.mk H
            clear H
            have p172:0≤(x3_1:Int):=of_decide_eq_true (by first|(with_reducible assumption)|assumption)
            have q172:x3_1<(l0.length:Int):=of_decide_eq_true (by first|(with_reducible assumption)|assumption)
            obtain ⟨ad172,e172,hx172_0,hx172_1,hx172_2,hx172_3⟩:=at_T70 HR0.out x3_1 p172 q172
            cases e172
            replace hx172_0:=(HB.out.cell (World.block_lt_of_cell? w _ hx172_0)).trans hx172_0
            replace hx172_1:=(HB.out.cell (World.block_lt_of_cell? w _ hx172_1)).trans hx172_1
            replace hx172_2:=(HB.out.cell (World.block_lt_of_cell? w _ hx172_2)).trans hx172_2
            replace hx172_3:=(HB.out.cell (World.block_lt_of_cell? w _ hx172_3)).trans hx172_3
            replace p172:=eq_true p172
            replace q172:=eq_true q172
            go_wp2_with (first|((with_reducible refine gate_callee (f:=44) rfl ?_);refine goesL_ (some 14) rfl rfl Try.func44 (by kernel_rfl) rfl #[.agg #[.int .i64 ((rd_T70 l0 x3_1).f0),.int .i64 ((rd_T70 l0 x3_1).f1),.int .i64 ((rd_T70 l0 x3_1).f2),.int .i64 ((rd_T70 l0 x3_1).f3)]] rfl (by (try simp only [List.map_toArray,List.map_cons,List.map_nil]);first|done|rfl|(simp only [List.length_drop,List.length_take];rfl)) ?_;(with_reducible refine (gimbalref25_MaySub.calls ((rd_T70 l0 x3_1).f0) ((rd_T70 l0 x3_1).f1) ((rd_T70 l0 x3_1).f2) ((rd_T70 l0 x3_1).f3) true _ A4.out).mono ?_);rintro e w6 ⟨rfl,hb⟩;refine ⟨_,rfl,?_⟩;have n0_:=Aside0.mk (below_step (by repeat (first|(with_reducible first|exact HB.out|apply below_alloc|apply pw_below_drewN|apply below_drew1)|exact HB.out)) hb);clear HB;have HB:=n0_;clear n0_;(try clear hb);(try clear hb2);(try clear hk);(try clear hi)))
            go_roundg k1
            case measure=>have:=HK1.out;omega
            case rel=>exact ⟨(wrap64 (x3_1+1)),(by first|rfl|(simp;done)|(simp [*];done)),H',⟨by have:=HK1.out;omega⟩,⟨by repeat (first|(with_reducible first|exact HB.out|apply below_alloc|apply pw_below_drewN|apply below_drew1)|exact HB.out)⟩⟩
          · replace c5:=Bool.eq_false_iff.mpr c5
            subst c5
            have H1:(some false)=some r:=by rw [if_neg (show ¬ (false=true) by decide)] at H;exact H
            clear H
            have H:=H1
            clear H1
            obtain rfl:=Option.some.inj H
            have p172:0≤(x3_1:Int):=of_decide_eq_true (by first|(with_reducible assumption)|assumption)
            have q172:x3_1<(l0.length:Int):=of_decide_eq_true (by first|(with_reducible assumption)|assumption)
            obtain ⟨ad172,e172,hx172_0,hx172_1,hx172_2,hx172_3⟩:=at_T70 HR0.out x3_1 p172 q172
            cases e172
            replace hx172_0:=(HB.out.cell (World.block_lt_of_cell? w _ hx172_0)).trans hx172_0
            replace hx172_1:=(HB.out.cell (World.block_lt_of_cell? w _ hx172_1)).trans hx172_1
            replace hx172_2:=(HB.out.cell (World.block_lt_of_cell? w _ hx172_2)).trans hx172_2
            replace hx172_3:=(HB.out.cell (World.block_lt_of_cell? w _ hx172_3)).trans hx172_3
            replace p172:=eq_true p172
            replace q172:=eq_true q172
            go_wp2_with (first|((with_reducible refine gate_callee (f:=44) rfl ?_);refine goesL_ (some 14) rfl rfl Try.func44 (by kernel_rfl) rfl #[.agg #[.int .i64 ((rd_T70 l0 x3_1).f0),.int .i64 ((rd_T70 l0 x3_1).f1),.int .i64 ((rd_T70 l0 x3_1).f2),.int .i64 ((rd_T70 l0 x3_1).f3)]] rfl (by (try simp only [List.map_toArray,List.map_cons,List.map_nil]);first|done|rfl|(simp only [List.length_drop,List.length_take];rfl)) ?_;(with_reducible refine (gimbalref25_MaySub.calls ((rd_T70 l0 x3_1).f0) ((rd_T70 l0 x3_1).f1) ((rd_T70 l0 x3_1).f2) ((rd_T70 l0 x3_1).f3) false _ A4.out).mono ?_);rintro e w7 ⟨rfl,hb⟩;refine ⟨_,rfl,?_⟩;have n0_:=Aside0.mk (below_step (by repeat (first|(with_reducible first|exact HB.out|apply below_alloc|apply pw_below_drewN|apply below_drew1)|exact HB.out)) hb);clear HB;have HB:=n0_;clear n0_;(try clear hb);(try clear hb2);(try clear hk);(try clear hi)))
            go_ret
            exact ⟨by first|rfl|(simp [errW_none,errW_some]<;>rfl)|(simp [*,errW_none,errW_some]<;>rfl),by repeat (first|(with_reducible first|exact HB.out|apply below_alloc|apply pw_below_drewN|apply below_drew1)|exact HB.out)⟩
        · rw [if_neg c3] at H
          exact absurd H (by simp)
      · rw [if_neg c2] at H
        have c2b0:decide (x3_1<(l0.length:Int))=false:=decide_eq_false c2
        clear c2
        obtain rfl:=Option.some.inj H
        go_wp2
        go_ret
        exact ⟨by first|rfl|(simp [errW_none,errW_some]<;>rfl)|(simp [*,errW_none,errW_some]<;>rfl),by repeat (first|(with_reducible first|exact HB.out|apply below_alloc|apply pw_below_drewN|apply below_drew1)|exact HB.out)⟩
def gimballaw26_wakes.f (k:Nat) :Option (Bool):=(power_Needs.f k 14).bind fun bt174=>((gimballaw26_num.f bt174.2).bind fun t178=>(if t178=0 then ((gimbalref0_EqNumbers.f k bt174.1 (([1,2]:List Int))).bind fun t182=>(some t182)) else (some false)))
set_option maxHeartbeats 8000000 in
set_option maxRecDepth 100000 in
theorem gimballaw26_wakes.calls (k:Nat)  (r:Bool) (w:World) (h:gimballaw26_wakes.f k =some r) :
    Calls Try.prog 19 #[] w fun e w'=>e = .returned (.bool r)∧Below w.heap.size w w':=by
  have HB:=Aside0.mk (Below.refl w.heap.size w)
  have H:((power_Needs.f k 14).bind fun bt174=>((gimballaw26_num.f bt174.2).bind fun t178=>(if t178=0 then ((gimbalref0_EqNumbers.f k bt174.1 (([1,2]:List Int))).bind fun t182=>(some t182)) else (some false))))=some r:=h
  clear h
  replace H:=Option.bind_eq_some_iff.mp H
  obtain ⟨⟨t174,t175⟩,A10,H⟩:=H
  replace H:((gimballaw26_num.f t175).bind fun t178=>(if t178=0 then ((gimbalref0_EqNumbers.f k t174 (([1,2]:List Int))).bind fun t182=>(some t182)) else (some false)))=some r:=H
  have A1:=Aside0.mk A10
  clear A10
  replace H:=Option.bind_eq_some_iff.mp H
  obtain ⟨t178,A20,H⟩:=H
  replace H:(if t178=0 then ((gimbalref0_EqNumbers.f k t174 (([1,2]:List Int))).bind fun t182=>(some t182)) else (some false))=some r:=H
  have A2:=Aside0.mk A20
  clear A20
  by_cases c3:t178=0
  · rw [if_pos c3] at H
    have c3b0:(t178 == 0)=true:=beq_iff_eq.mpr c3
    have c3b1:(t178 != 0)=false:=bne_eq_false_iff_eq.mpr c3
    clear c3
    obtain ⟨y179,hy179⟩:∃ y_:List Int,y_=(([1,2]:List Int)):=⟨_,rfl⟩
    replace H:((gimbalref0_EqNumbers.f k t174 y179).bind fun t182=>(some t182))=some r:=by first|(rw [hy179];with_reducible exact H)|(have H2_:=(Option.bind_some _ _).symm.trans H;rw [hy179];with_reducible exact H2_)|(have H2_:=(Option.bind_some _ _).symm.trans H;with_reducible exact H2_)|with_reducible exact H|(rw [hy179];exact H)|exact H
    have Ny179:=Aside0.mk hy179
    clear hy179
    replace H:=Option.bind_eq_some_iff.mp H
    obtain ⟨t182,A40,H⟩:=H
    replace H:(some t182)=some r:=H
    have A4:=Aside0.mk A40
    clear A40
    obtain rfl:=Option.some.inj H
    go_enter Try.func19,Try.ntmps19
    go_wp2_with (first|((with_reducible refine gate_callee (f:=15) rfl ?_);refine goesL_ (some 4) rfl rfl Try.func15 (by kernel_rfl) rfl #[.int .i64 14] rfl (by (try simp only [List.map_toArray,List.map_cons,List.map_nil]);first|done|rfl|(simp only [List.length_drop,List.length_take];rfl)) ?_;(with_reducible refine (power_Needs.calls k 14 t174 t175 _ A1.out).mono ?_);rintro e w5 ⟨v176,rfl,ho0,hb⟩;refine ⟨_,rfl,?_⟩;have n0_:=Aside0.mk (Kd.R_lower ho0 (below_size (by repeat (first|(with_reducible first|exact HB.out|apply below_alloc|apply pw_below_drewN|apply below_drew1)|exact HB.out))));have n1_:=Aside0.mk (below_step (by repeat (first|(with_reducible first|exact HB.out|apply below_alloc|apply pw_below_drewN|apply below_drew1)|exact HB.out)) hb);clear HB;have HO177:=n0_;have HB:=n1_;clear n0_ n1_;(try clear hb);(try clear hb2);(try clear hk);(try clear hi);(try clear ho0))|((with_reducible refine gate_callee (f:=16) rfl ?_);refine goesL_ (some 8) rfl rfl Try.func16 (by kernel_rfl) rfl #[.int .i64 t175] rfl (by (try simp only [List.map_toArray,List.map_cons,List.map_nil]);first|done|rfl|(simp only [List.length_drop,List.length_take];rfl)) ?_;(with_reducible refine (gimballaw26_num.calls t175 t178 _ A2.out).mono ?_);rintro e w' ⟨rfl,⟨nd,rfl⟩⟩;refine ⟨_,rfl,?_⟩)|((with_reducible refine gate_dst (N:=12) rfl ?_);(try (refine gate_guard (by rfl) ?_;dsimp only));refine Kd.R_lit (Kd.int .i64) _ 3 ?hg (N:=12) ?hd (xs:=([1,2]:List Int)) (inner:=[.int .i64 1,.int .i64 2]) (ok:=fun _=>True) (okp:=fun _=>True) ?hr ?hp (fun _ hk=>hk) trivial (Below.refl _ _) (Nat.le_refl _) (by simp) ?_;(case hd=>rfl);(case hg=>rfl);(case hr=>first|(go_simp;done)|(go_simp;rfl));(case hp=>exact (Reps.one (show Kd.M (Kd.int .i64) _ _ _ 1 [.int .i64 1] from rfl) (Reps.one (show Kd.M (Kd.int .i64) _ _ _ 2 [.int .i64 2] from rfl) (Reps.none _ _))));intro v180 w6 ho7 hb hg_ hnew_;clear hg_ hnew_;(first|rw [← Ny179.out] at ho7|(simp only [Int.reduceToNat] at ho7;rw [← Ny179.out] at ho7));have n0_:=Aside0.mk (Kd.R_elder' (by (with_reducible repeat (first|apply Kd.R_alloc|apply Kd.R_drewN|apply Kd.R_drew));exact HO177.out) (Kd.R_base ho7) hb);have n1_:=Aside0.mk (Kd.R_lower (Kd.R_new' ho7 (Kd.R_lt (by (with_reducible repeat (first|apply Kd.R_alloc|apply Kd.R_drewN|apply Kd.R_drew));exact HO177.out))) (below_size (by repeat (first|(with_reducible first|exact HB.out|apply below_alloc|apply pw_below_drewN|apply below_drew1)|exact HB.out))));have n2_:=Aside0.mk (below_step (by repeat (first|(with_reducible first|exact HB.out|apply below_alloc|apply pw_below_drewN|apply below_drew1)|exact HB.out)) hb);clear HO177;clear HB;have HO177:=n0_;have HO181:=n1_;have HB:=n2_;clear n0_ n1_ n2_;clear hb ho7;obtain ⟨Ao8,co8,eo8⟩:=Kd.R_slice HO177.out;subst eo8;obtain ⟨Ao9,co9,eo9⟩:=Kd.R_slice HO181.out;subst eo9)|(go_at_call 17;(with_reducible refine (gimbalref0_EqNumbers.calls k _ _ t174 _ _ y179 t182 _ ?side1 ?side2 ?side3 ?side4 A4.out).mono ?_);(case side1=>repeat (first|exact (Kd.R_reads' HO177.out).2.2|(with_reducible refine Kd.C_alloc ?_ _)|(with_reducible refine Kd.C_drewN ?_ _)|(with_reducible refine Kd.C_drew ?_)));(case side2=>exact (Kd.R_reads' HO177.out).2.1);(case side3=>repeat (first|exact (Kd.R_reads' HO181.out).2.2|(with_reducible refine Kd.C_alloc ?_ _)|(with_reducible refine Kd.C_drewN ?_ _)|(with_reducible refine Kd.C_drew ?_)));(case side4=>exact (Kd.R_reads' HO181.out).2.1);rintro e w' ⟨rfl,⟨nd,rfl⟩⟩))
    go_ret
    exact ⟨by first|rfl|(simp [errW_none,errW_some]<;>rfl)|(simp [*,errW_none,errW_some]<;>rfl),by repeat (first|(with_reducible first|exact HB.out|apply below_alloc|apply pw_below_drewN|apply below_drew1)|exact HB.out)⟩
  · rw [if_neg c3] at H
    have c3b0:(t178 == 0)=false:=beq_eq_false_iff_ne.mpr c3
    have c3b1:(t178 != 0)=true:=bne_iff_ne.mpr c3
    obtain rfl:=Option.some.inj H
    go_enter Try.func19,Try.ntmps19
    go_wp2_with (first|((with_reducible refine gate_callee (f:=15) rfl ?_);refine goesL_ (some 4) rfl rfl Try.func15 (by kernel_rfl) rfl #[.int .i64 14] rfl (by (try simp only [List.map_toArray,List.map_cons,List.map_nil]);first|done|rfl|(simp only [List.length_drop,List.length_take];rfl)) ?_;(with_reducible refine (power_Needs.calls k 14 t174 t175 _ A1.out).mono ?_);rintro e w10 ⟨v176,rfl,ho0,hb⟩;refine ⟨_,rfl,?_⟩;have n0_:=Aside0.mk (Kd.R_lower ho0 (below_size (by repeat (first|(with_reducible first|exact HB.out|apply below_alloc|apply pw_below_drewN|apply below_drew1)|exact HB.out))));have n1_:=Aside0.mk (below_step (by repeat (first|(with_reducible first|exact HB.out|apply below_alloc|apply pw_below_drewN|apply below_drew1)|exact HB.out)) hb);clear HB;have HO177:=n0_;have HB:=n1_;clear n0_ n1_;(try clear hb);(try clear hb2);(try clear hk);(try clear hi);(try clear ho0))|((with_reducible refine gate_callee (f:=16) rfl ?_);refine goesL_ (some 8) rfl rfl Try.func16 (by kernel_rfl) rfl #[.int .i64 t175] rfl (by (try simp only [List.map_toArray,List.map_cons,List.map_nil]);first|done|rfl|(simp only [List.length_drop,List.length_take];rfl)) ?_;(with_reducible refine (gimballaw26_num.calls t175 t178 _ A2.out).mono ?_);rintro e w' ⟨rfl,⟨nd,rfl⟩⟩;refine ⟨_,rfl,?_⟩))
    go_ret
    exact ⟨by first|rfl|(simp [errW_none,errW_some]<;>rfl)|(simp [*,errW_none,errW_some]<;>rfl),by repeat (first|(with_reducible first|exact HB.out|apply below_alloc|apply pw_below_drewN|apply below_drew1)|exact HB.out)⟩
end Go.Proofs.Ytcgknibjbnijmaa.QPw
end
section
namespace Go.Proofs.Ytcgknibjbnijmaa.QPw
open RowKit YtcgknibjbnijmaaW.PrintWords YtcgknibjbnijmaaW.PrintLast YtcgknibjbnijmaaW.PrintMore
attribute [local go_sem] max2_int min2_int max_two min_two max_three min_three max_four min_four   -- for this text's walks alone
set_option linter.unusedVariables false
set_option linter.unusedSimpArgs false
def gimbalref0_In.l0:Nat→List Int→Int→Int→Option (Bool)
  | 0,_,_,_=>none
  | k+1,x0,x1,x5=>if x5<(x0.length:Int) then (if 0≤x5 then (if (rd x0 x5)=x1 then (some true) else (gimbalref0_In.l0 k x0 x1 (wrap64 (x5+1)))) else (none)) else (some false)
def gimbalref0_In.f (k:Nat) (l0:List Int) (a1:Int):Option (Bool):=gimbalref0_In.l0 k l0 a1 0
theorem gimbalref0_In.mono_l:∀ k,(∀ y0 y1 y2,LeO (gimbalref0_In.l0 k y0 y1 y2) (gimbalref0_In.l0 (k+1) y0 y1 y2))
  | 0=>fun _ _ _ r h=>by simp [gimbalref0_In.l0] at h
  | k + 1 => by
    have ih0:=gimbalref0_In.mono_l k
    · intro y0 y1 y2
      unfold gimbalref0_In.l0
      repeat' first
      | (with_reducible exact ih0 _ _ _)
      | (with_reducible exact LeO.refl _)
      | (with_reducible exact LeO.none _)
      | (with_reducible refine LeO.ite ?_ ?_)
      | (with_reducible refine LeO.bind ?_ (fun _=>?_))
      | exact ih0 _ _ _
      | exact LeO.none _
      | refine LeO.ite ?_ ?_
      | refine LeO.bind ?_ (fun _=>?_)
set_option maxHeartbeats 8000000 in
set_option maxRecDepth 100000 in
theorem gimbalref0_In.calls (k:Nat) (A0:Option Addr) (c0:Nat) (l0:List Int) (a1:Int) (r:Bool) (w:World) (hr0:Kd.C (Kd.int .i64) w A0 l0.length l0) (hc0:l0.length≤c0) (h:gimbalref0_In.f k l0 a1=some r) :
    Calls Try.prog 43 #[.slice A0 l0.length c0,.int .i64 a1] w fun e w'=>e = .returned (.bool r)∧Drawn0 w w':=by
  have HR0:=Aside0.mk hr0
  have HC0:=Aside0.mk hc0
  clear hr0 hc0
  have H:(gimbalref0_In.l0 k l0 a1 0)=some r:=h
  clear h
  have H':=Aside0.mk H
  clear H
  go_enter Try.func43,Try.ntmps43
  go_wp2
  go_loopg [5] k (fun kq v5 w'=>∃ (x5_1:Int),v5 = .int .i64 x5_1∧Aside0 (gimbalref0_In.l0 kq l0 a1 x5_1=some r)∧Aside0 (kq≤k)∧Drawn0 w w')
  case atStart=>exact ⟨(0),(by first|rfl|(simp;done)|(simp [*];done)),H',⟨Nat.le_refl _⟩,by repeat (first|exact Drawn0.refl _|apply Drawn0.step)⟩
  case round =>
    clear H'
    try clear p2
    obtain ⟨x5_1,rfl,HA,HK1,⟨m1,rfl⟩⟩:=hrel
    cases gk with
    | zero=>exact absurd HA.out (by simp [gimbalref0_In.l0])
    | succ k1 =>
      have H:=HA.out
      clear HA
      simp only [gimbalref0_In.l0] at H
      by_cases c3:x5_1<(l0.length:Int)
      · rw [if_pos c3] at H
        have c3b0:decide (x5_1<(l0.length:Int))=true:=decide_eq_true c3
        clear c3
        by_cases c4:0≤x5_1
        · rw [if_pos c4] at H
          have c4b0:decide (0≤x5_1)=true:=decide_eq_true c4
          clear c4
          by_cases c5:(rd l0 x5_1)=a1
          · rw [if_pos c5] at H
            have c5b0:((rd l0 x5_1) == a1)=true:=beq_iff_eq.mpr c5
            have c5b1:((rd l0 x5_1) != a1)=false:=bne_eq_false_iff_eq.mpr c5
            clear c5
            obtain rfl:=Option.some.inj H
            have p183:0≤(x5_1:Int):=of_decide_eq_true (by first|(with_reducible assumption)|assumption)
            have q183:x5_1<(l0.length:Int):=of_decide_eq_true (by first|(with_reducible assumption)|assumption)
            obtain ⟨ad183,e183,hx183_0⟩:=Kd.at_int HR0.out x5_1 p183 q183
            cases e183
            replace p183:=eq_true p183
            replace q183:=eq_true q183
            go_wp2
            go_ret
            exact ⟨by first|rfl|(simp;done)|(simp [*];done),by repeat (first|exact Drawn0.refl _|apply Drawn0.step)⟩
          · rw [if_neg c5] at H
            have c5b0:((rd l0 x5_1) == a1)=false:=beq_eq_false_iff_ne.mpr c5
            have c5b1:((rd l0 x5_1) != a1)=true:=bne_iff_ne.mpr c5
            have H':=Aside0.mk H
            clear H
            have p183:0≤(x5_1:Int):=of_decide_eq_true (by first|(with_reducible assumption)|assumption)
            have q183:x5_1<(l0.length:Int):=of_decide_eq_true (by first|(with_reducible assumption)|assumption)
            obtain ⟨ad183,e183,hx183_0⟩:=Kd.at_int HR0.out x5_1 p183 q183
            cases e183
            replace p183:=eq_true p183
            replace q183:=eq_true q183
            go_wp2
            go_roundg k1
            case measure=>have:=HK1.out;omega
            case rel=>exact ⟨(wrap64 (x5_1+1)),(by first|rfl|(simp;done)|(simp [*];done)),H',⟨by have:=HK1.out;omega⟩,by repeat (first|exact Drawn0.refl _|apply Drawn0.step)⟩
        · rw [if_neg c4] at H
          exact absurd H (by simp)
      · rw [if_neg c3] at H
        have c3b0:decide (x5_1<(l0.length:Int))=false:=decide_eq_false c3
        clear c3
        obtain rfl:=Option.some.inj H
        go_wp2
        go_ret
        exact ⟨by first|rfl|(simp;done)|(simp [*];done),by repeat (first|exact Drawn0.refl _|apply Drawn0.step)⟩
def gimbalref0_Rising.l0:Nat→List Int→Int→Int→Int→Option (Bool)
  | 0,_,_,_,_=>none
  | k+1,x0,x1,x2,x7=>if x7<(x0.length:Int) then (if 0≤x7 then (if (rd x0 x7)<x1 then (some false) else (if (rd x0 x7)≥x2 then (some false) else (if x7>0 then (if 0≤(wrap64 (x7-1)) then (if (wrap64 (x7-1))<(x0.length:Int) then (if (rd x0 x7)≤(rd x0 (wrap64 (x7-1))) then (some false) else (gimbalref0_Rising.l0 k x0 x1 x2 (wrap64 (x7+1)))) else (none)) else (none)) else (gimbalref0_Rising.l0 k x0 x1 x2 (wrap64 (x7+1)))))) else (none)) else (some true)
def gimbalref0_Rising.f (k:Nat) (l0:List Int) (a1:Int) (a2:Int):Option (Bool):=gimbalref0_Rising.l0 k l0 a1 a2 0
theorem gimbalref0_Rising.mono_l:∀ k,(∀ y0 y1 y2 y3,LeO (gimbalref0_Rising.l0 k y0 y1 y2 y3) (gimbalref0_Rising.l0 (k+1) y0 y1 y2 y3))
  | 0=>fun _ _ _ _ r h=>by simp [gimbalref0_Rising.l0] at h
  | k + 1 => by
    have ih0:=gimbalref0_Rising.mono_l k
    · intro y0 y1 y2 y3
      unfold gimbalref0_Rising.l0
      repeat' first
      | (with_reducible exact ih0 _ _ _ _)
      | (with_reducible exact LeO.refl _)
      | (with_reducible exact LeO.none _)
      | (with_reducible refine LeO.ite ?_ ?_)
      | (with_reducible refine LeO.bind ?_ (fun _=>?_))
      | exact ih0 _ _ _ _
      | exact LeO.none _
      | refine LeO.ite ?_ ?_
      | refine LeO.bind ?_ (fun _=>?_)
theorem gimbalref0_Rising.mono:∀ a0 a1 a2 k,LeO (gimbalref0_Rising.f k a0 a1 a2) (gimbalref0_Rising.f (k+1) a0 a1 a2):=by
  intro a0 a1 a2 k
  have ih0:=gimbalref0_Rising.mono_l k
  unfold gimbalref0_Rising.f
  repeat' first
      | (with_reducible exact ih0 _ _ _ _)
      | (with_reducible exact LeO.refl _)
      | (with_reducible exact LeO.none _)
      | (with_reducible refine LeO.ite ?_ ?_)
      | (with_reducible refine LeO.bind ?_ (fun _=>?_))
      | exact ih0 _ _ _ _
      | exact LeO.none _
      | refine LeO.ite ?_ ?_
      | refine LeO.bind ?_ (fun _=>?_)
set_option maxHeartbeats 8000000 in
set_option maxRecDepth 100000 in
theorem gimbalref0_Rising.calls (k:Nat) (A0:Option Addr) (c0:Nat) (l0:List Int) (a1:Int) (a2:Int) (r:Bool) (w:World) (hr0:Kd.C (Kd.int .i64) w A0 l0.length l0) (hc0:l0.length≤c0) (h:gimbalref0_Rising.f k l0 a1 a2=some r) :
    Calls Try.prog 42 #[.slice A0 l0.length c0,.int .i64 a1,.int .i64 a2] w fun e w'=>e = .returned (.bool r)∧Drawn0 w w':=by
  have HR0:=Aside0.mk hr0
  have HC0:=Aside0.mk hc0
  clear hr0 hc0
  have H:(gimbalref0_Rising.l0 k l0 a1 a2 0)=some r:=h
  clear h
  have H':=Aside0.mk H
  clear H
  go_enter Try.func42,Try.ntmps42
  go_wp2
  repeat (go_quiet (fail);try go_wp2)
  go_loopg [7] k (fun kq v7 w'=>∃ (x7_1:Int),v7 = .int .i64 x7_1∧Aside0 (gimbalref0_Rising.l0 kq l0 a1 a2 x7_1=some r)∧Aside0 (kq≤k)∧Drawn0 w w')
  case atStart=>exact ⟨(0),(by first|rfl|(simp;done)|(simp [*];done)),H',⟨Nat.le_refl _⟩,by repeat (first|exact Drawn0.refl _|apply Drawn0.step)⟩
  case round =>
    clear H'
    try clear p2
    obtain ⟨x7_1,rfl,HA,HK1,⟨m1,rfl⟩⟩:=hrel
    cases gk with
    | zero=>exact absurd HA.out (by simp [gimbalref0_Rising.l0])
    | succ k1 =>
      have H:=HA.out
      clear HA
      simp only [gimbalref0_Rising.l0] at H
      by_cases c4:x7_1<(l0.length:Int)
      · rw [if_pos c4] at H
        have c4b0:decide (x7_1<(l0.length:Int))=true:=decide_eq_true c4
        clear c4
        by_cases c5:0≤x7_1
        · rw [if_pos c5] at H
          have c5b0:decide (0≤x7_1)=true:=decide_eq_true c5
          clear c5
          by_cases c6:(rd l0 x7_1)<a1
          · rw [if_pos c6] at H
            have c6b0:decide ((rd l0 x7_1)<a1)=true:=decide_eq_true c6
            clear c6
            obtain rfl:=Option.some.inj H
            have p184:0≤(x7_1:Int):=of_decide_eq_true (by first|(with_reducible assumption)|assumption)
            have q184:x7_1<(l0.length:Int):=of_decide_eq_true (by first|(with_reducible assumption)|assumption)
            obtain ⟨ad184,e184,hx184_0⟩:=Kd.at_int HR0.out x7_1 p184 q184
            cases e184
            replace p184:=eq_true p184
            replace q184:=eq_true q184
            go_wp2
            repeat (go_quiet (fail);try go_wp2)
            go_ret
            exact ⟨by first|rfl|(simp;done)|(simp [*];done),by repeat (first|exact Drawn0.refl _|apply Drawn0.step)⟩
          · rw [if_neg c6] at H
            have c6b0:decide ((rd l0 x7_1)<a1)=false:=decide_eq_false c6
            clear c6
            by_cases c7:(rd l0 x7_1)≥a2
            · rw [if_pos c7] at H
              have c7b0:decide (a2≤(rd l0 x7_1))=true:=decide_eq_true c7
              clear c7
              obtain rfl:=Option.some.inj H
              have p184:0≤(x7_1:Int):=of_decide_eq_true (by first|(with_reducible assumption)|assumption)
              have q184:x7_1<(l0.length:Int):=of_decide_eq_true (by first|(with_reducible assumption)|assumption)
              obtain ⟨ad184,e184,hx184_0⟩:=Kd.at_int HR0.out x7_1 p184 q184
              cases e184
              replace p184:=eq_true p184
              replace q184:=eq_true q184
              have p185:0≤(x7_1:Int):=of_decide_eq_true (by first|(with_reducible assumption)|assumption)
              have q185:x7_1<(l0.length:Int):=of_decide_eq_true (by first|(with_reducible assumption)|assumption)
              obtain ⟨ad185,e185,hx185_0⟩:=Kd.at_int HR0.out x7_1 p185 q185
              obtain rfl:ad184=ad185:=(by injection e185)
              replace p185:=eq_true p185
              replace q185:=eq_true q185
              go_wp2
              repeat (go_quiet (fail);try go_wp2)
              go_ret
              exact ⟨by first|rfl|(simp;done)|(simp [*];done),by repeat (first|exact Drawn0.refl _|apply Drawn0.step)⟩
            · rw [if_neg c7] at H
              have c7b0:decide (a2≤(rd l0 x7_1))=false:=decide_eq_false c7
              clear c7
              by_cases c8:x7_1>0
              · rw [if_pos c8] at H
                have c8b0:decide (0<x7_1)=true:=decide_eq_true c8
                clear c8
                obtain ⟨ji9,hji9⟩:∃ j_:Int,(wrap64 (x7_1-1))=j_:=⟨_,rfl⟩
                replace H:(if 0≤(ji9) then (if (ji9)<(l0.length:Int) then (if (rd l0 x7_1)≤(rd l0 (ji9)) then (some false) else (gimbalref0_Rising.l0 k1 l0 a1 a2 (wrap64 (x7_1+1)))) else (none)) else (none))=some r:=by first|(rw [hji9] at H;exact H)|(simp only [hji9] at H ⊢;exact H)
                have hji9w:(IntKind.i64.wrap (x7_1-1))=ji9:=(i64_w _).trans hji9
                by_cases c10:0≤(ji9)
                · rw [if_pos c10] at H
                  have c10b0:decide (0≤(ji9))=true:=decide_eq_true c10
                  clear c10
                  by_cases c11:(ji9)<(l0.length:Int)
                  · rw [if_pos c11] at H
                    have c11b0:decide ((ji9)<(l0.length:Int))=true:=decide_eq_true c11
                    clear c11
                    by_cases c12:(rd l0 x7_1)≤(rd l0 (ji9))
                    · rw [if_pos c12] at H
                      have c12b0:decide ((rd l0 x7_1)≤(rd l0 (ji9)))=true:=decide_eq_true c12
                      clear c12
                      obtain rfl:=Option.some.inj H
                      have p184:0≤(x7_1:Int):=of_decide_eq_true (by first|(with_reducible assumption)|assumption)
                      have q184:x7_1<(l0.length:Int):=of_decide_eq_true (by first|(with_reducible assumption)|assumption)
                      obtain ⟨ad184,e184,hx184_0⟩:=Kd.at_int HR0.out x7_1 p184 q184
                      cases e184
                      replace p184:=eq_true p184
                      replace q184:=eq_true q184
                      have p185:0≤(x7_1:Int):=of_decide_eq_true (by first|(with_reducible assumption)|assumption)
                      have q185:x7_1<(l0.length:Int):=of_decide_eq_true (by first|(with_reducible assumption)|assumption)
                      obtain ⟨ad185,e185,hx185_0⟩:=Kd.at_int HR0.out x7_1 p185 q185
                      obtain rfl:ad184=ad185:=(by injection e185)
                      replace p185:=eq_true p185
                      replace q185:=eq_true q185
                      have p186:0≤(x7_1:Int):=of_decide_eq_true (by first|(with_reducible assumption)|assumption)
                      have q186:x7_1<(l0.length:Int):=of_decide_eq_true (by first|(with_reducible assumption)|assumption)
                      obtain ⟨ad186,e186,hx186_0⟩:=Kd.at_int HR0.out x7_1 p186 q186
                      obtain rfl:ad184=ad186:=(by injection e186)
                      replace p186:=eq_true p186
                      replace q186:=eq_true q186
                      have p187:0≤((ji9):Int):=of_decide_eq_true (by first|(with_reducible assumption)|assumption)
                      have q187:(ji9)<(l0.length:Int):=of_decide_eq_true (by first|(with_reducible assumption)|assumption)
                      obtain ⟨ad187,e187,hx187_0⟩:=Kd.at_int HR0.out (ji9) p187 q187
                      obtain rfl:ad184=ad187:=(by injection e187)
                      replace p187:=eq_true p187
                      replace q187:=eq_true q187
                      go_wp2
                      repeat (go_quiet (fail);try go_wp2)
                      go_ret
                      exact ⟨by first|rfl|(simp;done)|(simp only [← hji9]<;>(first|rfl|simp))|(simp [*];done),by repeat (first|exact Drawn0.refl _|apply Drawn0.step)⟩
                    · rw [if_neg c12] at H
                      have c12b0:decide ((rd l0 x7_1)≤(rd l0 (ji9)))=false:=decide_eq_false c12
                      clear c12
                      have H':=Aside0.mk H
                      clear H
                      have p184:0≤(x7_1:Int):=of_decide_eq_true (by first|(with_reducible assumption)|assumption)
                      have q184:x7_1<(l0.length:Int):=of_decide_eq_true (by first|(with_reducible assumption)|assumption)
                      obtain ⟨ad184,e184,hx184_0⟩:=Kd.at_int HR0.out x7_1 p184 q184
                      cases e184
                      replace p184:=eq_true p184
                      replace q184:=eq_true q184
                      have p185:0≤(x7_1:Int):=of_decide_eq_true (by first|(with_reducible assumption)|assumption)
                      have q185:x7_1<(l0.length:Int):=of_decide_eq_true (by first|(with_reducible assumption)|assumption)
                      obtain ⟨ad185,e185,hx185_0⟩:=Kd.at_int HR0.out x7_1 p185 q185
                      obtain rfl:ad184=ad185:=(by injection e185)
                      replace p185:=eq_true p185
                      replace q185:=eq_true q185
                      have p186:0≤(x7_1:Int):=of_decide_eq_true (by first|(with_reducible assumption)|assumption)
                      have q186:x7_1<(l0.length:Int):=of_decide_eq_true (by first|(with_reducible assumption)|assumption)
                      obtain ⟨ad186,e186,hx186_0⟩:=Kd.at_int HR0.out x7_1 p186 q186
                      obtain rfl:ad184=ad186:=(by injection e186)
                      replace p186:=eq_true p186
                      replace q186:=eq_true q186
                      have p187:0≤((ji9):Int):=of_decide_eq_true (by first|(with_reducible assumption)|assumption)
                      have q187:(ji9)<(l0.length:Int):=of_decide_eq_true (by first|(with_reducible assumption)|assumption)
                      obtain ⟨ad187,e187,hx187_0⟩:=Kd.at_int HR0.out (ji9) p187 q187
                      obtain rfl:ad184=ad187:=(by injection e187)
                      replace p187:=eq_true p187
                      replace q187:=eq_true q187
                      go_wp2
                      repeat (go_quiet (fail);try go_wp2)
                      go_roundg k1
                      case measure=>have:=HK1.out;omega
                      case rel=>exact ⟨(wrap64 (x7_1+1)),(by first|rfl|(simp;done)|(simp [*];done)),H',⟨by have:=HK1.out;omega⟩,by repeat (first|exact Drawn0.refl _|apply Drawn0.step)⟩
                  · rw [if_neg c11] at H
                    exact absurd H (by simp)
                · rw [if_neg c10] at H
                  exact absurd H (by simp)
              · rw [if_neg c8] at H
                have c8b0:decide (0<x7_1)=false:=decide_eq_false c8
                clear c8
                have H':=Aside0.mk H
                clear H
                have p184:0≤(x7_1:Int):=of_decide_eq_true (by first|(with_reducible assumption)|assumption)
                have q184:x7_1<(l0.length:Int):=of_decide_eq_true (by first|(with_reducible assumption)|assumption)
                obtain ⟨ad184,e184,hx184_0⟩:=Kd.at_int HR0.out x7_1 p184 q184
                cases e184
                replace p184:=eq_true p184
                replace q184:=eq_true q184
                have p185:0≤(x7_1:Int):=of_decide_eq_true (by first|(with_reducible assumption)|assumption)
                have q185:x7_1<(l0.length:Int):=of_decide_eq_true (by first|(with_reducible assumption)|assumption)
                obtain ⟨ad185,e185,hx185_0⟩:=Kd.at_int HR0.out x7_1 p185 q185
                obtain rfl:ad184=ad185:=(by injection e185)
                replace p185:=eq_true p185
                replace q185:=eq_true q185
                go_wp2
                repeat (go_quiet (fail);try go_wp2)
                go_roundg k1
                case measure=>have:=HK1.out;omega
                case rel=>exact ⟨(wrap64 (x7_1+1)),(by first|rfl|(simp;done)|(simp [*];done)),H',⟨by have:=HK1.out;omega⟩,by repeat (first|exact Drawn0.refl _|apply Drawn0.step)⟩
        · rw [if_neg c5] at H
          exact absurd H (by simp)
      · rw [if_neg c4] at H
        have c4b0:decide (x7_1<(l0.length:Int))=false:=decide_eq_false c4
        clear c4
        obtain rfl:=Option.some.inj H
        go_wp2
        repeat (go_quiet (fail);try go_wp2)
        go_ret
        exact ⟨by first|rfl|(simp;done)|(simp [*];done),by repeat (first|exact Drawn0.refl _|apply Drawn0.step)⟩
end Go.Proofs.Ytcgknibjbnijmaa.QPw
end
section
set_option linter.unusedVariables false
set_option linter.unusedSimpArgs false
namespace Go.Proofs.Ytcgknibjbnijmaa.PPw
open Go RowKit Ytcgknibjbnijmaa.QPw YtcgknibjbnijmaaW.PrintWords YtcgknibjbnijmaaW.PrintLast YtcgknibjbnijmaaW.PrintMore YtcgknibjbnijmaaW.Aid YtcgknibjbnijmaaW.Big YtcgknibjbnijmaaW.Sy Go.Proofs
theorem follows:Try.prog.follows .mixedOrders=true:=by kernel_rfl
theorem drawn_below {w w':World} (h:Drawn0 w w'):Below w.heap.size w w':=by
  obtain ⟨n,rfl⟩:=h
  exact ⟨rfl,rfl,rfl,Nat.le_refl _,fun _ _=>rfl⟩
theorem fresh_own {α:Type} {d:Kd α} {e:Nat} {w w':World} {v:Value} {l:List α} (h:d.R e w' w.heap.size (fun _=>True) v l):d.R e w' 0 (fun k=>w.heap.size≤k∧k<w'.heap.size) v l :=
  Kd.R_lower (Kd.R_mono (Kd.R_bound h) (fun k hk=>⟨hk.2.1,hk.2.2.1⟩)) (Nat.zero_le _)
theorem news_one {w w':World} {v:Value} {x:D} (h:x.own (fun k=>w.heap.size≤k∧k<w'.heap.size) w' v):News w w' (fun _=>v) (fun _ k=>w.heap.size≤k∧k<w'.heap.size) [(0,x)] :=
  ⟨fun p hp=>by rw [List.mem_singleton.1 hp];exact h,fun p hp k hk=>hk,fun p hp q hq k _ _=>by rw [List.mem_singleton.1 hp,List.mem_singleton.1 hq]⟩
theorem told_two {w w':World} {v u:Value} {x:D} (h:x.own (fun k=>w.heap.size≤k∧k<w'.heap.size) w' v):(CR.parts true [(false,[.o x]),(false,[.t (.v u)])]).told w w' (.tuple #[v,u]) :=
  ⟨_,_,news_one h,[v,u],rfl,.cons ⟨_,rfl,rfl⟩ (.cons ⟨_,rfl,rfl⟩ .nil)⟩
def ndL:List (List Int):=[[1],[2],[3],[4],[5],[1,2,3],[1,2],[1,2],[1,2,3],[4],[1],[1],[1],[1,2],[1]]
def nd (s:Int):List Int:=ndL.getD (s.toNat-1) []
def sOk (s:Int):Bool:=decide (1≤s)&&decide (s≤15)
def ndR (s:Int):List Int × Int:=if sOk s=true then (nd s,0) else ([],1)
theorem in_cases (s:Int) (h:1≤s) (h':s≤15):s=1∨s=2∨s=3∨s=4∨s=5∨s=6∨s=7∨s=8∨s=9∨s=10∨s=11∨s=12∨s=13∨s=14∨s=15:=by omega
theorem sOk_iff {s:Int}:sOk s=true↔1≤s∧s≤15:=by unfold sOk;simp
theorem needs_ev (s:Int):Ev (fun k=>power_Needs.f k s) (ndR s):=by
  by_cases h:sOk s=true
  · have hn:ndR s=(nd s,0):=if_pos h
    rw [hn]
    obtain ⟨h1,h2⟩:=sOk_iff.1 h
    have e:power_Needs.f 40 s=some (nd s,0):=by
      rcases in_cases s h1 h2 with r|r|r|r|r|r|r|r|r|r|r|r|r|r|r<;>subst r<;>decide +kernel
    exact Ev.of (power_Needs.mono s) e
  · have hn:ndR s=([],1):=if_neg h
    rw [hn]
    refine Ev.pure fun k=>?_
    have h':s<1∨s>15:=by
      have:¬ (1≤s∧s≤15):=fun hh=>h (sOk_iff.2 hh)
      omega
    unfold power_Needs.f cmd_Sensor.f
    rcases h' with h|h
    · rw [if_neg (by omega)];rfl
    · rw [if_pos (by omega),decide_eq_false (by omega)];rfl
def subOk (c s p t:Int):Bool:=decide ((0≤c∧c≤7)∧(1≤s∧s≤15)∧(1≤p∧p≤1000)∧(0≤t∧t≤60000))
theorem cmdSub_f (c s p t:Int):cmd_Sub.f c s p t=some (subOk c s p t):=by
  unfold cmd_Sub.f cmd_Client.f cmd_Sensor.f subOk
  by_cases h1:0≤c<;>by_cases h2:c<8<;>by_cases h3:1≤s<;>by_cases h4:s≤15<;>by_cases h5:1≤p<;>by_cases h6:p≤1000<;>by_cases h7:0≤t<;>simp [h1,h2,h3,h4,h5,h6,h7]<;>omega
theorem maySub_f (c s p t:Int):gimbalref25_MaySub.f c s p t=some (subOk c s p t):=by
  unfold gimbalref25_MaySub.f gimbalref25_Client.f gimbalref25_Sensor.f gimbalref25_in.f subOk
  by_cases h1:0≤c<;>by_cases h2:c≤7<;>by_cases h3:1≤s<;>by_cases h4:s≤15<;>by_cases h5:1≤p<;>by_cases h6:p≤1000<;>by_cases h7:0≤t<;>simp [h1,h2,h3,h4,h5,h6,h7]<;>omega
end Go.Proofs.Ytcgknibjbnijmaa.PPw
end
section
set_option linter.unusedVariables false
set_option linter.unusedSimpArgs false
namespace Go.Proofs.Ytcgknibjbnijmaa.PPw
open Go RowKit Ytcgknibjbnijmaa.QPw YtcgknibjbnijmaaW.PrintWords YtcgknibjbnijmaaW.PrintLast YtcgknibjbnijmaaW.PrintMore YtcgknibjbnijmaaW.Aid YtcgknibjbnijmaaW.Big YtcgknibjbnijmaaW.Sy Go.Proofs
theorem eqN_l0 {a b:List Int} (hl:a.length=b.length) (hb:a.length≤1000000):∀ (m:Nat) (i:Nat),a.length-i=m→i≤a.length→Ev (fun k=>gimbalref0_EqNumbers.l0 k a b i) (decide (a.drop i=b.drop i)):=by
  intro m
  induction m with
  | zero =>
    intro i hm hi
    refine Ev.shift (Ev.pure fun k=>?_)
    simp only [gimbalref0_EqNumbers.l0]
    rw [if_neg (by omega),List.drop_of_length_le (by omega),List.drop_of_length_le (by omega)]
    simp
  | succ m ih =>
    intro i hm hi
    have hia:i<a.length:=by omega
    have hib:i<b.length:=by omega
    have e1:rd a (i:Int)=a[i]:=by obtain ⟨h1,h2⟩:=rd_at (l:=a) (i:=(i:Int)) (by omega) (by omega);simpa using h2
    have e2:rd b (i:Int)=b[i]:=by obtain ⟨h1,h2⟩:=rd_at (l:=b) (i:=(i:Int)) (by omega) (by omega);simpa using h2
    refine Ev.shift ?_
    simp only [gimbalref0_EqNumbers.l0]
    rw [List.drop_eq_getElem_cons hia,List.drop_eq_getElem_cons hib]
    by_cases h:a[i]=b[i]
    · have:=ih (i+1) (by omega) (by omega)
      refine Ev.congr (fun k=>?_) (Ev.to this (by rw [h];simp only [List.cons.injEq,true_and]))
      rw [if_pos (by omega),if_pos (by omega),if_pos (by omega),if_pos (by rw [e1,e2,h]),wrap64_id (by omega) (by omega)]
      rfl
    · refine Ev.pure fun k=>?_
      rw [if_pos (by omega),if_pos (by omega),if_pos (by omega),if_neg (by rw [e1,e2];exact h)]
      exact congrArg some (decide_eq_false (fun e=>h (List.cons.inj e).1)).symm
theorem eqN_ev {a b:List Int} (ha:a.length≤1000000):Ev (fun k=>gimbalref0_EqNumbers.f k a b) (decide (a=b)):=by
  unfold gimbalref0_EqNumbers.f
  by_cases hl:a.length=b.length
  · refine Ev.congr (fun k=>if_pos (by omega)) ?_
    have:=eqN_l0 hl ha _ 0 rfl (Nat.zero_le _)
    simpa using this
  · refine Ev.pure fun k=>?_
    rw [if_neg (by omega)]
    have:a≠b:=fun e=>hl (by rw [e])
    simp [this]
theorem numb_l0:∀ (m:Nat) (l:List Int) (i:Nat),l.length≤1000000→l.length-i=m→i≤l.length→Ev (fun k=>gimballaw0_Numbers.l0 k l i) ():=by
  intro m
  induction m with
  | zero =>
    intro l i hb hm hi
    refine Ev.shift (Ev.pure fun k=>?_)
    simp only [gimballaw0_Numbers.l0]
    rw [if_neg (by omega),if_pos (by omega)]
  | succ m ih =>
    intro l i hb hm hi
    refine Ev.shift ?_
    simp only [gimballaw0_Numbers.l0]
    refine Ev.congr (fun k=>?_) (ih (l.set i (-99)) (i+1) (by simp;omega) (by simp;omega) (by simp;omega))
    rw [if_pos (by omega),if_pos (by omega),wrap64_id (by omega) (by omega)]
    rfl
theorem in_l0 {l:List Int} {d:Int} (hb:l.length≤1000000):∀ (m:Nat) (i:Nat),l.length-i=m→i≤l.length→Ev (fun k=>gimbalref0_In.l0 k l d i) (decide (d∈l.drop i)):=by
  intro m
  induction m with
  | zero =>
    intro i hm hi
    refine Ev.shift (Ev.pure fun k=>?_)
    simp only [gimbalref0_In.l0]
    rw [if_neg (by omega),List.drop_of_length_le (by omega)]
    simp
  | succ m ih =>
    intro i hm hi
    have hia:i<l.length:=by omega
    have e1:rd l (i:Int)=l[i]:=by obtain ⟨h1,h2⟩:=rd_at (l:=l) (i:=(i:Int)) (by omega) (by omega);simpa using h2
    refine Ev.shift ?_
    simp only [gimbalref0_In.l0]
    rw [List.drop_eq_getElem_cons hia]
    by_cases h:l[i]=d
    · refine Ev.pure fun k=>?_
      rw [if_pos (by omega),if_pos (by omega),if_pos (by rw [e1,h])]
      simp [h]
    · have:=ih (i+1) (by omega) (by omega)
      refine Ev.congr (fun k=>?_) (Ev.to this (by
        have:d≠l[i]:=fun e=>h e.symm
        exact decide_eq_decide.2 (by rw [List.mem_cons];exact ⟨.inr,fun h=>h.resolve_left this⟩)))
      rw [if_pos (by omega),if_pos (by omega),if_neg (by rw [e1];exact h),wrap64_id (by omega) (by omega)]
      rfl
theorem in_ev {l:List Int} {d:Int} (hb:l.length≤1000000):Ev (fun k=>gimbalref0_In.f k l d) (decide (d∈l)):=by
  have:=in_l0 (d:=d) hb _ 0 rfl (Nat.zero_le _)
  simpa [gimbalref0_In.f] using this
theorem rising_ev {s:Int} (h:sOk s=true):Ev (fun k=>gimbalref0_Rising.f k (nd s) 1 6) true:=by
  obtain ⟨h1,h2⟩:=sOk_iff.1 h
  have e:gimbalref0_Rising.f 40 (nd s) 1 6=some true:=by
    rcases in_cases s h1 h2 with r|r|r|r|r|r|r|r|r|r|r|r|r|r|r<;>subst r<;>decide +kernel
  exact Ev.of (gimbalref0_Rising.mono (nd s) 1 6) e
def rowS (x:List Int):S70:=⟨x.getD 0 0,x.getD 1 0,x.getD 2 0,x.getD 3 0⟩
def rOk (x:List Int):Bool:=subOk (x.getD 0 0) (x.getD 1 0) (x.getD 2 0) (x.getD 3 0)
theorem rowS_cells {x:List Int} (h:x.length=4):x.map (Value.int .i64)=[.int .i64 (rowS x).f0,.int .i64 (rowS x).f1,.int .i64 (rowS x).f2,.int .i64 (rowS x).f3]:=by
  match x,h with
  | [a,b,c,d],_=>rfl
theorem k70_mk {w:World} {x:S70}:k70.K w x [.int .i64 x.f0,.int .i64 x.f1,.int .i64 x.f2,.int .i64 x.f3]:=⟨[_],_,rfl,rfl,[_],_,rfl,rfl,[_],_,rfl,rfl,rfl⟩
theorem C_rowS {w:World} {A:Option Addr} {n:Nat} {l:List (List Int)} (h:(kFlat 4).C w A n l):k70.C w A n (l.map rowS):=by
  refine ⟨by rw [List.length_map];exact h.1,h.2.1,fun h0=>?_⟩
  obtain ⟨ad,e,hc⟩:=h.2.2 h0
  refine ⟨ad,e,fun j p hj=>?_⟩
  rw [List.getElem?_map] at hj
  obtain ⟨x,hx,rfl⟩:=Option.map_eq_some_iff.1 hj
  obtain ⟨cs,h1,⟨h2,h3⟩,h4⟩:=hc j x hx
  exact ⟨cs,h1,by rw [h2,rowS_cells h3];exact k70_mk,h4⟩
theorem mayS_l0 {l:List (List Int)} (hb:l.length≤1000000):∀ (m:Nat) (i:Nat),l.length-i=m→i≤l.length→Ev (fun k=>gimbalref26_MaySubs.l0 k (l.map rowS) i) ((l.drop i).all rOk):=by
  intro m
  induction m with
  | zero =>
    intro i hm hi
    refine Ev.shift (Ev.pure fun k=>?_)
    simp only [gimbalref26_MaySubs.l0]
    rw [if_neg (by simp;omega),List.drop_of_length_le (by omega)]
    rfl
  | succ m ih =>
    intro i hm hi
    have hil:i<l.length:=by omega
    refine Ev.shift ?_
    simp only [gimbalref26_MaySubs.l0]
    have e1:rd_T70 (l.map rowS) (i:Int)=rowS l[i]:=by
      unfold rd_T70
      rw [List.getD_eq_getElem?_getD,show ((i:Int)).toNat=i by omega,List.getElem?_map,List.getElem?_eq_getElem hil];rfl
    rw [List.drop_eq_getElem_cons hil,List.all_cons]
    have e2:∀ k,(if (i:Int)<((l.map rowS).length:Int) then (if 0≤(i:Int) then ((gimbalref25_MaySub.f ((rd_T70 (l.map rowS) i).f0) ((rd_T70 (l.map rowS) i).f1) ((rd_T70 (l.map rowS) i).f2) ((rd_T70 (l.map rowS) i).f3)).bind fun t173=>(if t173=true then (gimbalref26_MaySubs.l0 k (l.map rowS) (wrap64 ((i:Int)+1))) else (some false))) else (none)) else (some true))=if rOk l[i]=true then gimbalref26_MaySubs.l0 k (l.map rowS) ((i+1:Nat):Int) else some false:=fun k=>by
      rw [if_pos (by simp;omega),if_pos (by omega),e1,maySub_f,wrap64_id (by omega) (by omega)]
      rfl
    refine Ev.congr e2 ?_
    by_cases h:rOk l[i]=true
    · refine Ev.congr (fun k=>if_pos h) ?_
      rw [h,Bool.true_and]
      exact ih (i+1) (by omega) (by omega)
    · refine Ev.congr (fun k=>if_neg h) ?_
      have hf:rOk l[i]=false:=by simpa using h
      rw [hf,Bool.false_and]
      exact Ev.pure fun _=>rfl
theorem mayS_ev {l:List (List Int)} (hb:l.length≤1000000):Ev (fun k=>gimbalref26_MaySubs.f k (l.map rowS)) (l.all rOk):=by
  have:=mayS_l0 hb _ 0 rfl (Nat.zero_le _)
  simpa [gimbalref26_MaySubs.f] using this
end Go.Proofs.Ytcgknibjbnijmaa.PPw
end
section
set_option linter.unusedVariables false
set_option linter.unusedSimpArgs false
namespace Go.Proofs.Ytcgknibjbnijmaa.PPw
open Go RowKit Ytcgknibjbnijmaa.QPw YtcgknibjbnijmaaW.PrintWords YtcgknibjbnijmaaW.PrintLast YtcgknibjbnijmaaW.PrintMore YtcgknibjbnijmaaW.Aid YtcgknibjbnijmaaW.Big YtcgknibjbnijmaaW.Sy Go.Proofs
def numL:A0→Option (List Int)
  | .sl .i64 l=>some l
  | .v (.slice none 0 0)=>some []
  | _=>none
theorem numL_reads {β:Pl} {w:World} {c:A0} {l:List Int} {u:Value} (hc:numL c=some l) (h:c.reads β w u):∃ A c,u = .slice A l.length c∧l.length≤c∧Kd.C (Kd.int .i64) w A l.length l:=by
  unfold numL at hc
  split at hc
  · cases hc
    obtain ⟨A,c,e,h1,h2⟩:=(show ∀ w1,Ag β.O w w1→rdSl w1 .i64 _ u from h) w (Ag.refl _ _)
    exact ⟨A,c,e,h1,h2⟩
  · cases hc
    rw [show u=_ from h]
    exact ⟨none,0,rfl,Nat.le_refl _,Kd.C_nil _ _⟩
  · cases hc
def subL:A0→Option (List (List Int))
  | .op (.flat _ 4 l)=>some l
  | .v (.slice none 0 0)=>some []
  | _=>none
theorem subL_reads {β:Pl} {w:World} {c:A0} {l:List (List Int)} {u:Value} (hc:subL c=some l) (h:c.reads β w u):∃ A c,u = .slice A l.length c∧l.length≤c∧Kd.C (kFlat 4) w A l.length l:=by
  unfold subL at hc
  split at hc
  · rename_i e l'
    cases hc
    exact (show ∀ w1,Ag β.O w w1→(D.flat e 4 l).rd w1 u from h) w (Ag.refl _ _)
  · cases hc
    rw [show u=_ from h]
    exact ⟨none,0,rfl,Nat.le_refl _,Kd.C_nil _ _⟩
  · cases hc
def cNum:Con Try.prog where
  f:=16
  sem:=fun xs=>match xs with
    | [.sc (.v (.int .i64 n))]=>some (True,.tv (tI n))
    | _=>none
  ok:=by
    intro xs p r h hp
    refine ⟨⟨_,Try.func16,by kernel_rfl,rfl⟩,fun us w ha=>?_⟩
    split at h
    · rename_i n
      cases h
      obtain ⟨u,rfl,hu⟩:=all2_1 ha
      rw [show u=_ from hu]
      exact Ret.val ((gimballaw26_num.calls n n w rfl).mono fun e w' h=>⟨h.1,drawn_below h.2⟩)
    · cases h
def cSub:Con Try.prog where
  f:=66
  sem:=fun xs=>match xs with
    | [.agg [.v (.int .i64 c),.v (.int .i64 s),.v (.int .i64 p),.v (.int .i64 t)]]=>some (True,.tv (tB (subOk c s p t)))
    | _=>none
  ok:=by
    intro xs q r h hp
    refine ⟨⟨_,Try.func66,by kernel_rfl,rfl⟩,fun us w ha=>?_⟩
    split at h
    · rename_i c s p t
      cases h
      obtain ⟨u,rfl,us',rfl,hu⟩:=all2_1 ha
      cases hu with|cons k1 hu=>cases hu with|cons k2 hu=>cases hu with|cons k3 hu=>cases hu with|cons k4 hu =>
      cases hu
      rename_i a1 a2 a3 a4
      rw [show a1=_ from k1,show a2=_ from k2,show a3=_ from k3,show a4=_ from k4]
      exact Ret.val (cmd_Sub.calls c s p t _ w (cmdSub_f c s p t))
    · cases h
def cNeeds:Con Try.prog where
  f:=15
  sem:=fun xs=>match xs with
    | [.sc (.v (.int .i64 n))]=>some (True,.parts true [(false,[.o (.ints .i64 3 (ndR n).1)]),(false,[.t (i64 (ndR n).2)])])
    | _=>none
  ok:=by
    intro xs p r h hp
    refine ⟨⟨_,Try.func15,by kernel_rfl,rfl⟩,fun us w ha=>?_⟩
    split at h
    · rename_i n
      cases h
      obtain ⟨u,rfl,hu⟩:=all2_1 ha
      rw [show u=_ from hu]
      obtain ⟨k,hk⟩:=Ev.rounds (needs_ev n)
      exact (power_Needs.calls k n _ _ w hk).mono fun e w' ⟨v,he,hR,hB⟩=>⟨_,he,told_two (x := .ints .i64 3 (ndR n).1) (fresh_own hR),hB⟩
    · cases h
def cEqN:Con Try.prog where
  f:=17
  sem := fun xs => match xs with
    | [.sc a,.sc b]=>match numL a,numL b with
      | some l,some m=>some (l.length≤1000000,.tv (tB (decide (l=m))))
      | _,_=>none
    | _=>none
  ok := by
    intro xs p r h hp
    refine ⟨⟨_,Try.func17,by kernel_rfl,rfl⟩,fun us w ha=>?_⟩
    split at h
    · rename_i a b
      split at h
      · rename_i l m hl hm
        cases h
        obtain ⟨u,v,rfl,hu,hv⟩:=all2_2 ha
        obtain ⟨A,c,rfl,h1,h2⟩:=numL_reads hl hu
        obtain ⟨A',c',rfl,h3,h4⟩:=numL_reads hm hv
        obtain ⟨k,hk⟩:=Ev.rounds (eqN_ev (a:=l) (b:=m) hp)
        exact Ret.val ((gimbalref0_EqNumbers.calls k A c l A' c' m _ w h2 h1 h4 h3 hk).mono fun e w' h=>⟨h.1,drawn_below h.2⟩)
      · cases h
    · cases h
def cIn : Con Try.prog where
  f:=43
  sem := fun xs => match xs with
    | [.sc a,.sc (.v (.int .i64 d))]=>match numL a with
      | some l=>some (l.length≤1000000,.tv (tB (decide (d∈l))))
      | _=>none
    | _=>none
  ok := by
    intro xs p r h hp
    refine ⟨⟨_,Try.func43,by kernel_rfl,rfl⟩,fun us w ha=>?_⟩
    split at h
    · rename_i a d
      split at h
      · rename_i l hl
        cases h
        obtain ⟨u,v,rfl,hu,hv⟩:=all2_2 ha
        obtain ⟨A,c,rfl,h1,h2⟩:=numL_reads hl hu
        rw [show v=_ from hv]
        obtain ⟨k,hk⟩:=Ev.rounds (in_ev (l:=l) (d:=d) hp)
        exact Ret.val ((gimbalref0_In.calls k A c l d _ w h2 h1 hk).mono fun e w' h=>⟨h.1,drawn_below h.2⟩)
      · cases h
    · cases h
def cRising:Con Try.prog where
  f:=42
  sem := fun xs => match xs with
    | [.sc a,.sc (.v (.int .i64 lo)),.sc (.v (.int .i64 hi))]=>match numL a with
      | some l=>some (lo=1∧hi=6∧∃ s,sOk s=true∧l=nd s,.tv (tB true))
      | _=>none
    | _=>none
  ok := by
    intro xs p r h hp
    refine ⟨⟨_,Try.func42,by kernel_rfl,rfl⟩,fun us w ha=>?_⟩
    split at h
    · rename_i a lo hi
      split at h
      · rename_i l hl
        cases h
        obtain ⟨rfl,rfl,s,hs,rfl⟩:=hp
        obtain ⟨u,v,t,rfl,hu,hv,ht⟩:=all2_3 ha
        obtain ⟨A,c,rfl,h1,h2⟩:=numL_reads hl hu
        rw [show v=_ from hv,show t=_ from ht]
        obtain ⟨k,hk⟩:=Ev.rounds (rising_ev hs)
        exact Ret.val ((gimbalref0_Rising.calls k A c (nd s) 1 6 _ w h2 h1 hk).mono fun e w' h=>⟨h.1,drawn_below h.2⟩)
      · cases h
    · cases h
def cMaySubs:Con Try.prog where
  f:=36
  sem := fun xs => match xs with
    | [.sc a]=>match subL a with
      | some l=>some (l.length≤1000000,.tv (tB (l.all rOk)))
      | _=>none
    | _=>none
  ok := by
    intro xs p r h hp
    refine ⟨⟨_,Try.func36,by kernel_rfl,rfl⟩,fun us w ha=>?_⟩
    split at h
    · rename_i a
      split at h
      · rename_i l hl
        cases h
        obtain ⟨u,rfl,hu⟩:=all2_1 ha
        obtain ⟨A,c,rfl,h1,h2⟩:=subL_reads hl hu
        obtain ⟨k,hk⟩:=Ev.rounds (mayS_ev (l:=l) hp)
        have:=gimbalref26_MaySubs.calls k A c (l.map rowS) _ w (by rw [List.length_map];exact C_rowS h2) (by rw [List.length_map];exact h1) hk
        rw [List.length_map] at this
        exact Ret.val this
      · cases h
    · cases h
theorem wk_f:gimballaw26_wakes.f 60=some true:=by decide +kernel
def cWakes:Con Try.prog where
  f:=19
  sem:=fun xs=>match xs with
    | []=>some (True,.tv (tB true))
    | _=>none
  ok:=by
    intro xs q r h hp
    refine ⟨⟨_,Try.func19,by kernel_rfl,rfl⟩,fun us w ha=>?_⟩
    split at h
    · cases h
      cases ha
      exact Ret.val (gimballaw26_wakes.calls 60 true w wk_f)
    · cases h
end Go.Proofs.Ytcgknibjbnijmaa.PPw
end
section
set_option linter.unusedVariables false
set_option linter.unusedSimpArgs false
namespace Go.Proofs.Ytcgknibjbnijmaa.PPw
open Go RowKit Ytcgknibjbnijmaa.QPw YtcgknibjbnijmaaW.PrintWords YtcgknibjbnijmaaW.PrintMore YtcgknibjbnijmaaW.Aid YtcgknibjbnijmaaW.Big YtcgknibjbnijmaaW.Sy Go.Proofs
abbrev V5:=Int × Int × Int × Int × Int
abbrev c5 (x:V5):List A0:=[i64 x.1,i64 x.2.1,i64 x.2.2.1,i64 x.2.2.2.1,i64 x.2.2.2.2]
def st (a p:Int):Int:=bif (bif (a == 0) then true else decide (p<a)) then (if 250<p then 250 else p) else a
theorem st_t {a p:Int} (h:(bif (a == 0) then true else decide (p<a))=true):st a p=if 250<p then 250 else p:=by unfold st;rw [h];rfl
theorem st_f {a p:Int} (h:(bif (a == 0) then true else decide (p<a))=false):st a p=a:=by unfold st;rw [h];rfl
def up5 (x:V5) (d p:Int):V5 :=
  if d=1 then (st x.1 p,x.2) else if d=2 then (x.1,st x.2.1 p,x.2.2) else if d=3 then (x.1,x.2.1,st x.2.2.1 p,x.2.2.2) else if d=4 then (x.1,x.2.1,x.2.2.1,st x.2.2.2.1 p,x.2.2.2.2) else (x.1,x.2.1,x.2.2.1,x.2.2.2.1,st x.2.2.2.2 p)
def fold5 (x:V5) (ds:List Int) (p:Int):V5:=ds.foldl (fun x d=>up5 x d p) x
abbrev rowC (r:List Int):List A0:=[i64 (r.getD 0 0),i64 (r.getD 1 0),i64 (r.getD 2 0),i64 (r.getD 3 0)]
def rowW (x:V5) (r:List Int):V5:=fold5 x (ndR (r.getD 1 0)).1 (r.getD 2 0)
def wV (l:List (List Int)):V5:=l.foldl rowW (0,0,0,0,0)
theorem wid {n:Int} (h0 : -9223372036854775808≤n) (h1:n≤9223372036854775807):IntKind.i64.wrap n=n:=by
  have e:wrap64 n=n:=wrap64_id h0 h1
  rw [IntKind.wrap_i64];unfold wrap64 at e;exact e
theorem bfF {b:Bool} (h:b=false):(b == false)=true:=by rw [h];rfl
theorem fold5_step {x:V5} {ds:List Int} {p v:Int} (h0:0≤v) (h1:v<(ds.length:Int)):up5 (fold5 x (ds.take v.toNat) p) (rd ds v) p=fold5 x (ds.take (v+1).toNat) p:=by
  have hl:v.toNat<ds.length:=by omega
  obtain ⟨_,e⟩:=rd_at h0 h1
  rw [show (v+1).toNat=v.toNat+1 by omega,List.take_succ_eq_append_getElem hl,e]
  unfold fold5
  rw [List.foldl_append];rfl
section
set_option maxRecDepth 100000
set_option maxHeartbeats 8000000
theorem el (l:List (List Int)) (i:Int) (r:List Int) (ds:List Int) (x:V5) (v d:Int) (hd:1≤d∧d≤5) {c:Code} (hc:bodyAt Try.f38 [true,false,true,true,true,true,true,false,true,true,true,true,true,true,true,true,true,false,true,true]=some c) (w0:World) (R:V5 × Int):SpecC Try.prog Try.f38.ntmps (fun _=>False) w0 c (fun s=>leG s [(0,.sc (.op (.flat 70 4 l))),(2,.ptr 2 0),(3,tI 0),(11,.sc (.op (.flat 70 4 l))),(12,tI l.length),(13,tI i),(5,.ptr 5 0),(27,.sc (.ref 2500000)),(28,tI ds.length),(29,tI v)]∧leB s [(2,63,c5 (up5 x d (r.getD 2 0))),(5,70,rowC r),(2500000,obT,[.obs (.ints .i64 3 ds)])]) (fun _ _=>False) (fun s=>resCR (cxOf Try.prog [] [cSub,cNeeds] [] []) Try.f38.results.toList s=some (.tv (.tup [(true,c5 R.1),(false,[i64 R.2])]))) (stB [(0,.sc (.op (.flat 70 4 l))),(2,.ptr 2 0),(3,tI 0),(11,.sc (.op (.flat 70 4 l))),(12,tI l.length),(13,tI i),(5,.ptr 5 0),(27,.sc (.ref 2500000)),(28,tI ds.length),(29,tI v),(9,tI d)] [(2,63,c5 x),(5,70,rowC r),(2500000,obT,[.obs (.ints .i64 3 ds)])]):=by
  refine spec_of hc rfl ?_
  have hdd:d=1∨d=2∨d=3∨d=4∨d=5:=by omega
  rcases hdd with rfl|rfl|rfl|rfl|rfl
  · refine spec_vc (cxOk Try.prog [] [cSub,cNeeds] [] []) follows 60 ?_
    repeat' first
      | exact trivial
      | (refine And.intro (show regChk _ _ _ _ _=true from by kernel_rfl) (And.intro ?_ ?_))
      | (refine And.intro (fun _=>?_) (fun h=>absurd (show true=false from h) (by decide)))
      | (refine And.intro (fun h=>absurd (show false=true from h) (by decide)) (fun _=>?_))
      | (refine And.intro (fun hb=>?_) (fun hb'=>?_))
      | refine And.intro ?_ ?_
      | intro _
    all_goals first
      | (show some (A0.v _)=some (A0.v _);first|rfl|exact congrArg (fun z=>some (A0.v (.int .i64 z))) (st_t (by assumption)).symm|exact congrArg (fun z=>some (A0.v (.int .i64 z))) (st_f (by assumption)).symm)
      | (show (0:Int)≤_;decide)
      | (show (_:Int)<_;decide)
      | exact bfF (by assumption)
      | (show (_:Option TV)=_;rfl)
      | (show (_:Option A0)=_;rfl)
      | (show (_:Option TypeId)=_;rfl)
      | (show True;trivial)
      | (show (_:Option CR)=_;rfl)
      | (show (_:Nat)=(_:Nat);rfl)
      | (show (_:Int)=(_:Int);rfl)
      | (show (_:Bool)=(_:Bool);first|assumption|rfl)
      | (show _=_;rfl)
  · refine spec_vc (cxOk Try.prog [] [cSub,cNeeds] [] []) follows 60 ?_
    repeat' first
      | exact trivial
      | (refine And.intro (show regChk _ _ _ _ _=true from by kernel_rfl) (And.intro ?_ ?_))
      | (refine And.intro (fun _=>?_) (fun h=>absurd (show true=false from h) (by decide)))
      | (refine And.intro (fun h=>absurd (show false=true from h) (by decide)) (fun _=>?_))
      | (refine And.intro (fun hb=>?_) (fun hb'=>?_))
      | refine And.intro ?_ ?_
      | intro _
    all_goals first
      | (show some (A0.v _)=some (A0.v _);first|rfl|exact congrArg (fun z=>some (A0.v (.int .i64 z))) (st_t (by assumption)).symm|exact congrArg (fun z=>some (A0.v (.int .i64 z))) (st_f (by assumption)).symm)
      | (show (0:Int)≤_;decide)
      | (show (_:Int)<_;decide)
      | exact bfF (by assumption)
      | (show (_:Option TV)=_;rfl)
      | (show (_:Option A0)=_;rfl)
      | (show (_:Option TypeId)=_;rfl)
      | (show True;trivial)
      | (show (_:Option CR)=_;rfl)
      | (show (_:Nat)=(_:Nat);rfl)
      | (show (_:Int)=(_:Int);rfl)
      | (show (_:Bool)=(_:Bool);first|assumption|rfl)
      | (show _=_;rfl)
  · refine spec_vc (cxOk Try.prog [] [cSub,cNeeds] [] []) follows 60 ?_
    repeat' first
      | exact trivial
      | (refine And.intro (show regChk _ _ _ _ _=true from by kernel_rfl) (And.intro ?_ ?_))
      | (refine And.intro (fun _=>?_) (fun h=>absurd (show true=false from h) (by decide)))
      | (refine And.intro (fun h=>absurd (show false=true from h) (by decide)) (fun _=>?_))
      | (refine And.intro (fun hb=>?_) (fun hb'=>?_))
      | refine And.intro ?_ ?_
      | intro _
    all_goals first
      | (show some (A0.v _)=some (A0.v _);first|rfl|exact congrArg (fun z=>some (A0.v (.int .i64 z))) (st_t (by assumption)).symm|exact congrArg (fun z=>some (A0.v (.int .i64 z))) (st_f (by assumption)).symm)
      | (show (0:Int)≤_;decide)
      | (show (_:Int)<_;decide)
      | exact bfF (by assumption)
      | (show (_:Option TV)=_;rfl)
      | (show (_:Option A0)=_;rfl)
      | (show (_:Option TypeId)=_;rfl)
      | (show True;trivial)
      | (show (_:Option CR)=_;rfl)
      | (show (_:Nat)=(_:Nat);rfl)
      | (show (_:Int)=(_:Int);rfl)
      | (show (_:Bool)=(_:Bool);first|assumption|rfl)
      | (show _=_;rfl)
  · refine spec_vc (cxOk Try.prog [] [cSub,cNeeds] [] []) follows 60 ?_
    repeat' first
      | exact trivial
      | (refine And.intro (show regChk _ _ _ _ _=true from by kernel_rfl) (And.intro ?_ ?_))
      | (refine And.intro (fun _=>?_) (fun h=>absurd (show true=false from h) (by decide)))
      | (refine And.intro (fun h=>absurd (show false=true from h) (by decide)) (fun _=>?_))
      | (refine And.intro (fun hb=>?_) (fun hb'=>?_))
      | refine And.intro ?_ ?_
      | intro _
    all_goals first
      | (show some (A0.v _)=some (A0.v _);first|rfl|exact congrArg (fun z=>some (A0.v (.int .i64 z))) (st_t (by assumption)).symm|exact congrArg (fun z=>some (A0.v (.int .i64 z))) (st_f (by assumption)).symm)
      | (show (0:Int)≤_;decide)
      | (show (_:Int)<_;decide)
      | exact bfF (by assumption)
      | (show (_:Option TV)=_;rfl)
      | (show (_:Option A0)=_;rfl)
      | (show (_:Option TypeId)=_;rfl)
      | (show True;trivial)
      | (show (_:Option CR)=_;rfl)
      | (show (_:Nat)=(_:Nat);rfl)
      | (show (_:Int)=(_:Int);rfl)
      | (show (_:Bool)=(_:Bool);first|assumption|rfl)
      | (show _=_;rfl)
  · refine spec_vc (cxOk Try.prog [] [cSub,cNeeds] [] []) follows 60 ?_
    repeat' first
      | exact trivial
      | (refine And.intro (show regChk _ _ _ _ _=true from by kernel_rfl) (And.intro ?_ ?_))
      | (refine And.intro (fun _=>?_) (fun h=>absurd (show true=false from h) (by decide)))
      | (refine And.intro (fun h=>absurd (show false=true from h) (by decide)) (fun _=>?_))
      | (refine And.intro (fun hb=>?_) (fun hb'=>?_))
      | refine And.intro ?_ ?_
      | intro _
    all_goals first
      | (show some (A0.v _)=some (A0.v _);first|rfl|exact congrArg (fun z=>some (A0.v (.int .i64 z))) (st_t (by assumption)).symm|exact congrArg (fun z=>some (A0.v (.int .i64 z))) (st_f (by assumption)).symm)
      | (show (0:Int)≤_;decide)
      | (show (_:Int)<_;decide)
      | exact bfF (by assumption)
      | (show (_:Option TV)=_;rfl)
      | (show (_:Option A0)=_;rfl)
      | (show (_:Option TypeId)=_;rfl)
      | (show True;trivial)
      | (show (_:Option CR)=_;rfl)
      | (show (_:Nat)=(_:Nat);rfl)
      | (show (_:Int)=(_:Int);rfl)
      | (show (_:Bool)=(_:Bool);first|assumption|rfl)
      | (show _=_;rfl)
def LN (l:List (List Int)) (i:Int) (r ds:List Int) (x:V5):LI Int where
  gs:=fun v=>[(0,.sc (.op (.flat 70 4 l))),(2,.ptr 2 0),(3,tI 0),(11,.sc (.op (.flat 70 4 l))),(12,tI l.length),(13,tI i),(5,.ptr 5 0),(27,.sc (.ref 2500000)),(28,tI ds.length),(29,tI v)]
  bs:=fun v=>[(2,63,c5 (fold5 x (ds.take v.toNat) (r.getD 2 0))),(5,70,rowC r),(2500000,obT,[.obs (.ints .i64 3 ds)])]
  I:=fun v=>0≤v∧v≤(ds.length:Int)
  μ:=fun v=>((ds.length:Int)-v).toNat
theorem inner (l:List (List Int)) (i:Int) (r ds:List Int) (hds:∀ d∈ds,1≤d∧d≤5) (hlen:ds.length≤1000) (x:V5) {c:Code} (hc:bodyAt Try.f38 [true,false,true,true,true,true,true,false,true,true,true,true,true,true]=some c) (w0:World) (R:V5 × Int):SpecC Try.prog Try.f38.ntmps (fun _=>False) w0 c (fun _=>False) (fun id s=>id=2∧leG s [(0,.sc (.op (.flat 70 4 l))),(2,.ptr 2 0),(3,tI 0),(11,.sc (.op (.flat 70 4 l))),(12,tI l.length),(13,tI i)]∧leB s [(2,63,c5 (fold5 x ds (r.getD 2 0)))]) (fun s=>resCR (cxOf Try.prog [] [cSub,cNeeds] [] []) Try.f38.results.toList s=some (.tv (.tup [(true,c5 R.1),(false,[i64 R.2])]))) (stB [(0,.sc (.op (.flat 70 4 l))),(2,.ptr 2 0),(3,tI 0),(11,.sc (.op (.flat 70 4 l))),(12,tI l.length),(13,tI i),(5,.ptr 5 0),(27,.sc (.ref 2500000)),(28,tI ds.length),(29,tI 0)] [(2,63,c5 x),(5,70,rowC r),(2500000,obT,[.obs (.ints .i64 3 ds)])]):=by
  refine spec_of hc rfl ?_
  refine spec_loopI (LN l i r ds x) ⟨0,⟨Int.le_refl _,Int.natCast_nonneg _⟩,⟨rfl,rfl,rfl,rfl,rfl,rfl,rfl,rfl,rfl,rfl,trivial⟩,⟨rfl,⟨rfl,rfl,rfl,rfl,rfl,trivial⟩,rfl,⟨rfl,rfl,rfl,rfl,trivial⟩,rfl,⟨rfl,trivial⟩,trivial⟩⟩ (fun v hv=>⟨rfl,?_⟩)
  obtain ⟨hv0,hv1⟩:=hv
  refine spec_vch (kx:=fun s=>v<(ds.length:Int)∧leG s [(0,.sc (.op (.flat 70 4 l))),(2,.ptr 2 0),(3,tI 0),(11,.sc (.op (.flat 70 4 l))),(12,tI l.length),(13,tI i),(5,.ptr 5 0),(27,.sc (.ref 2500000)),(28,tI ds.length),(29,tI v)]∧leB s [(2,63,c5 (fold5 x (ds.take v.toNat) (r.getD 2 0))),(5,70,rowC r),(2500000,obT,[.obs (.ints .i64 3 ds)])]) (cxOk Try.prog [] [cSub,cNeeds] [] []) follows 60 2 _ _ ?_ (fun s' hk=>?_)
  · skip
    repeat' first
      | exact trivial
      | (refine And.intro (show regChk _ _ _ _ _=true from by kernel_rfl) (And.intro ?_ ?_))
      | (refine And.intro (fun _=>?_) (fun h=>absurd (show true=false from h) (by decide)))
      | (refine And.intro (fun h=>absurd (show false=true from h) (by decide)) (fun _=>?_))
      | (refine And.intro (fun hb=>?_) (fun hb'=>?_))
      | refine And.intro ?_ ?_
      | intro _
    all_goals first
      | (show v<(ds.length:Int);exact of_decide_eq_true (by assumption))
      | (show (2:Nat)=2;rfl)
      | (show some (A0.v _)=some (A0.v _);first|rfl|(rw [show ds.take v.toNat=ds from List.take_of_length_le (by have:=of_decide_eq_false (by assumption:decide (v<(ds.length:Int))=false);omega)]))
      | (show (_:Option TV)=_;rfl)
      | (show (_:Option A0)=_;rfl)
      | (show (_:Option TypeId)=_;rfl)
      | (show True;trivial)
      | (show (_:Option CR)=_;rfl)
      | (show (_:Nat)=(_:Nat);rfl)
      | (show (_:Int)=(_:Int);rfl)
      | (show (_:Bool)=(_:Bool);first|assumption|rfl)
      | (show _=_;rfl)
  · obtain ⟨hlt,hg,hb⟩:=hk
    refine spec_le hg hb rfl ?_
    refine spec_seq (kx:=fun s=>leG s [(0,.sc (.op (.flat 70 4 l))),(2,.ptr 2 0),(3,tI 0),(11,.sc (.op (.flat 70 4 l))),(12,tI l.length),(13,tI i),(5,.ptr 5 0),(27,.sc (.ref 2500000)),(28,tI ds.length),(29,tI v)]∧leB s [(2,63,c5 (fold5 x (ds.take (v+1).toNat) (r.getD 2 0))),(5,70,rowC r),(2500000,obT,[.obs (.ints .i64 3 ds)])]) ?_ (fun s' hk=>spec_le hk.1 hk.2 rfl ?_)
    · refine spec_block ?_
      refine spec_vch (kx:=fun s=>leG s [(0,.sc (.op (.flat 70 4 l))),(2,.ptr 2 0),(3,tI 0),(11,.sc (.op (.flat 70 4 l))),(12,tI l.length),(13,tI i),(5,.ptr 5 0),(27,.sc (.ref 2500000)),(28,tI ds.length),(29,tI v),(9,tI (rd ds v))]∧leB s [(2,63,c5 (fold5 x (ds.take v.toNat) (r.getD 2 0))),(5,70,rowC r),(2500000,obT,[.obs (.ints .i64 3 ds)])]) (cxOk Try.prog [] [cSub,cNeeds] [] []) follows 60 1 _ _ ?_ (fun s' hk=>spec_le hk.1 hk.2 rfl ?_)
      · skip
        repeat' first
          | exact trivial
          | (refine And.intro (show regChk _ _ _ _ _=true from by kernel_rfl) (And.intro ?_ ?_))
          | (refine And.intro (fun _=>?_) (fun h=>absurd (show true=false from h) (by decide)))
          | (refine And.intro (fun h=>absurd (show false=true from h) (by decide)) (fun _=>?_))
          | (refine And.intro (fun hb=>?_) (fun hb'=>?_))
          | refine And.intro ?_ ?_
          | intro _
        all_goals first
          | (show (0:Int)≤v;exact hv0)
          | (show v<(ds.length:Int);exact hlt)
          | (show (_:Option TV)=_;rfl)
          | (show (_:Option A0)=_;rfl)
          | (show (_:Option TypeId)=_;rfl)
          | (show True;trivial)
          | (show (_:Option CR)=_;rfl)
          | (show (_:Nat)=(_:Nat);rfl)
          | (show (_:Int)=(_:Int);rfl)
          | (show (_:Bool)=(_:Bool);first|assumption|rfl)
          | (show _=_;rfl)
      · have hm:rd ds v∈ds:=rd_mem hv0 hlt
        rw [← fold5_step hv0 hlt]
        exact spec_mono (el l i r ds (fold5 x (ds.take v.toNat) (r.getD 2 0)) v (rd ds v) (hds _ hm) rfl w0 R) (fun s h=>h) (fun id s h=>h.elim) (fun s h=>h)
    · refine spec_vc (cxOk Try.prog [] [cSub,cNeeds] [] []) follows 60 ?_
      repeat' first
        | exact trivial
        | (refine And.intro (show regChk _ _ _ _ _=true from by kernel_rfl) (And.intro ?_ ?_))
        | (refine And.intro (fun _=>?_) (fun h=>absurd (show true=false from h) (by decide)))
        | (refine And.intro (fun h=>absurd (show false=true from h) (by decide)) (fun _=>?_))
        | (refine And.intro (fun hb=>?_) (fun hb'=>?_))
        | refine And.intro ?_ ?_
        | intro _
      all_goals first
        | (show ∃ v',_;exact ⟨IntKind.i64.wrap (v+1),by rw [wid (by omega) (by omega)];show ((ds.length:Int)-(v+1)).toNat<((ds.length:Int)-v).toNat;omega,by rw [wid (by omega) (by omega)];exact ⟨by omega,by omega⟩,⟨rfl,rfl,rfl,rfl,rfl,rfl,rfl,rfl,rfl,rfl,trivial⟩,by rw [wid (by omega) (by omega)];exact ⟨rfl,⟨rfl,rfl,rfl,rfl,rfl,trivial⟩,rfl,⟨rfl,rfl,rfl,rfl,trivial⟩,rfl,⟨rfl,trivial⟩,trivial⟩⟩)
        | (show (_:Option TV)=_;rfl)
        | (show (_:Option A0)=_;rfl)
        | (show (_:Option TypeId)=_;rfl)
        | (show True;trivial)
        | (show (_:Option CR)=_;rfl)
        | (show (_:Nat)=(_:Nat);rfl)
        | (show (_:Int)=(_:Int);rfl)
        | (show (_:Bool)=(_:Bool);first|assumption|rfl)
        | (show _=_;rfl)
end
end Go.Proofs.Ytcgknibjbnijmaa.PPw
end
section
set_option linter.unusedVariables false
set_option linter.unusedSimpArgs false
namespace Go.Proofs.Ytcgknibjbnijmaa.PPw
open Go RowKit Ytcgknibjbnijmaa.QPw YtcgknibjbnijmaaW.PrintWords YtcgknibjbnijmaaW.PrintMore YtcgknibjbnijmaaW.Aid YtcgknibjbnijmaaW.Big YtcgknibjbnijmaaW.Sy Go.Proofs
def wR (l:List (List Int)):V5 × Int:=if l.all rOk=true then (wV l,0) else ((0,0,0,0,0),1)
theorem wR_ok {l:List (List Int)} (h:l.all rOk=true):wR l=(wV l,0):=by unfold wR;rw [if_pos h]
theorem wR_bad {l:List (List Int)} {i:Int} (h0:0≤i) (h1:i<(l.length:Int)) (h:rOk (l.getD i.toNat [])=false):wR l=((0,0,0,0,0),1):=by
  unfold wR
  rw [if_neg]
  intro ha
  have hl:i.toNat<l.length:=by omega
  rw [List.getD_eq_getElem?_getD,List.getElem?_eq_getElem hl] at h
  have:=List.all_eq_true.1 ha _ (List.getElem_mem hl)
  rw [show rOk l[i.toNat]=false from h] at this;cases this
theorem take_ok {l:List (List Int)} {i:Int} (h0:0≤i) (h1:i<(l.length:Int)) (ha:(l.take i.toNat).all rOk=true) (h:rOk (l.getD i.toNat [])=true):(l.take (i+1).toNat).all rOk=true∧wV (l.take (i+1).toNat)=rowW (wV (l.take i.toNat)) (l.getD i.toNat []):=by
  have hl:i.toNat<l.length:=by omega
  rw [List.getD_eq_getElem?_getD,List.getElem?_eq_getElem hl] at h ⊢
  rw [show (i+1).toNat=i.toNat+1 by omega,List.take_succ_eq_append_getElem hl]
  constructor
  · rw [List.all_append,ha];simpa using h
  · unfold wV;rw [List.foldl_append];rfl
theorem ndR_range (s:Int):∀ d∈(ndR s).1,1≤d∧d≤5:=by
  unfold ndR
  by_cases h:sOk s=true
  · rw [if_pos h]
    obtain ⟨h1,h2⟩:=sOk_iff.1 h
    have hs:s=1∨s=2∨s=3∨s=4∨s=5∨s=6∨s=7∨s=8∨s=9∨s=10∨s=11∨s=12∨s=13∨s=14∨s=15:=by omega
    rcases hs with rfl|rfl|rfl|rfl|rfl|rfl|rfl|rfl|rfl|rfl|rfl|rfl|rfl|rfl|rfl<;>decide
  · rw [if_neg h];intro d hd;cases hd
theorem ndR_len (s:Int):(ndR s).1.length≤1000:=by
  unfold ndR
  by_cases h:sOk s=true
  · rw [if_pos h]
    obtain ⟨h1,h2⟩:=sOk_iff.1 h
    have hs:s=1∨s=2∨s=3∨s=4∨s=5∨s=6∨s=7∨s=8∨s=9∨s=10∨s=11∨s=12∨s=13∨s=14∨s=15:=by omega
    rcases hs with rfl|rfl|rfl|rfl|rfl|rfl|rfl|rfl|rfl|rfl|rfl|rfl|rfl|rfl|rfl<;>decide
  · rw [if_neg h];decide
theorem bfT {a:Bool} (h:(!a)=false):a=true:=by cases a<;>first|rfl|cases h
theorem bfN {a:Bool} (h:(!a)=true):a=false:=by cases a<;>first|rfl|cases h
theorem take_all (l:List (List Int)) (i:Int) (h:decide (i<(l.length:Int))=false):l.take i.toNat=l:=List.take_of_length_le (by have:=of_decide_eq_false h;omega)
section
set_option maxRecDepth 100000
set_option maxHeartbeats 8000000
theorem row (l:List (List Int)) (hl:l.length≤1000000) (i:Int) (h0:0≤i) (h1:i<(l.length:Int)) (ha:(l.take i.toNat).all rOk=true) (r:List Int) (hr:r=l.getD i.toNat []) {c:Code} (hc:bodyAt Try.f38 [true,false,true,true,true,true,true,false,true]=some c) (w0:World):SpecC Try.prog Try.f38.ntmps (fun _=>False) w0 c (fun s=>rOk r=true∧leG s [(0,.sc (.op (.flat 70 4 l))),(2,.ptr 2 0),(3,tI 0),(11,.sc (.op (.flat 70 4 l))),(12,tI l.length),(13,tI i)]∧leB s [(2,63,c5 (wV (l.take (i+1).toNat)))]) (fun id s=>id=1∧rOk r=true∧leG s [(0,.sc (.op (.flat 70 4 l))),(2,.ptr 2 0),(3,tI 0),(11,.sc (.op (.flat 70 4 l))),(12,tI l.length),(13,tI i)]∧leB s [(2,63,c5 (wV (l.take (i+1).toNat)))]) (fun s=>resCR (cxOf Try.prog [] [cSub,cNeeds] [] []) Try.f38.results.toList s=some (.tv (.tup [(true,c5 (wR l).1),(false,[i64 (wR l).2])]))) (stB [(0,.sc (.op (.flat 70 4 l))),(2,.ptr 2 0),(3,tI 0),(11,.sc (.op (.flat 70 4 l))),(12,tI l.length),(13,tI i)] [(2,63,c5 (wV (l.take i.toNat)))]):=by
  subst hr
  refine spec_of hc rfl ?_
  refine spec_vch (kx:=fun s=>rOk (l.getD i.toNat [])=true∧leG s [(0,.sc (.op (.flat 70 4 l))),(2,.ptr 2 0),(3,tI 0),(11,.sc (.op (.flat 70 4 l))),(12,tI l.length),(13,tI i),(5,.ptr 5 0),(27,.sc (.ref 2500000)),(28,tI (ndR ((l.getD i.toNat []).getD 1 0)).1.length),(29,tI 0)]∧leB s [(2,63,c5 (wV (l.take i.toNat))),(5,70,rowC (l.getD i.toNat [])),(2500000,obT,[.obs (.ints .i64 3 (ndR ((l.getD i.toNat []).getD 1 0)).1)])]) (cxOk Try.prog [] [cSub,cNeeds] [] []) follows 60 4 _ _ ?_ (fun s' hk=>?_)
  · skip
    repeat' first
      | exact trivial
      | (refine And.intro (show regChk _ _ _ _ _=true from by kernel_rfl) (And.intro ?_ ?_))
      | (refine And.intro (fun _=>?_) (fun h=>absurd (show true=false from h) (by decide)))
      | (refine And.intro (fun h=>absurd (show false=true from h) (by decide)) (fun _=>?_))
      | (refine And.intro (fun hb=>?_) (fun hb'=>?_))
      | refine And.intro ?_ ?_
      | intro _
    all_goals first
      | (show (0:Int)≤i;exact h0)
      | (show i<(l.length:Int);exact h1)
      | (show rOk (l.getD i.toNat [])=true;exact bfT (by assumption))
      | (show some (A0.v _)=some (A0.v _);first|rfl|rfl)
      | (show (_:Option CR)=_;rw [wR_bad h0 h1 (bfN (by assumption))];show some (CR.tv (.tup _))=some (CR.tv (.tup _));rfl)
      | (show (_:Option TV)=_;rfl)
      | (show (_:Option A0)=_;rfl)
      | (show (_:Option TypeId)=_;rfl)
      | (show True;trivial)
      | (show (_:Option CR)=_;rfl)
      | (show (_:Nat)=(_:Nat);rfl)
      | (show (_:Int)=(_:Int);rfl)
      | (show (_:Bool)=(_:Bool);first|assumption|rfl)
      | (show _=_;rfl)
  · obtain ⟨hk,hg,hb⟩:=hk
    refine spec_le hg hb rfl ?_
    obtain ⟨e1,e2⟩:=take_ok h0 h1 ha hk
    rw [e2]
    refine spec_block ?_
    refine spec_mono (inner l i (l.getD i.toNat []) (ndR ((l.getD i.toNat []).getD 1 0)).1 (ndR_range _) (ndR_len _) (wV (l.take i.toNat)) rfl w0 (wR l)) (fun s h=>h.elim) (fun id s h=>?_) (fun s h=>h)
    obtain ⟨rfl,h⟩:=h
    rw [if_pos rfl];exact ⟨hk,h⟩
def LO (l:List (List Int)):LI Int where
  gs:=fun i=>[(0,.sc (.op (.flat 70 4 l))),(2,.ptr 2 0),(3,tI 0),(11,.sc (.op (.flat 70 4 l))),(12,tI l.length),(13,tI i)]
  bs:=fun i=>[(2,63,c5 (wV (l.take i.toNat)))]
  I:=fun i=>(0≤i∧i≤(l.length:Int))∧(l.take i.toNat).all rOk=true
  μ:=fun i=>((l.length:Int)-i).toNat
theorem outer (l:List (List Int)) (hl:l.length≤1000000) {c:Code} (hc:bodyAt Try.f38 [true,false,true,true]=some c) (w0:World):SpecC Try.prog Try.f38.ntmps (fun _=>False) w0 c (fun _=>False) (fun id s=>id=0∧l.all rOk=true∧leG s [(0,.sc (.op (.flat 70 4 l))),(2,.ptr 2 0),(3,tI 0)]∧leB s [(2,63,c5 (wV l))]) (fun s=>resCR (cxOf Try.prog [] [cSub,cNeeds] [] []) Try.f38.results.toList s=some (.tv (.tup [(true,c5 (wR l).1),(false,[i64 (wR l).2])]))) (stB [(0,.sc (.op (.flat 70 4 l))),(2,.ptr 2 0),(3,tI 0),(11,.sc (.op (.flat 70 4 l))),(12,tI l.length),(13,tI 0)] [(2,63,c5 (0,0,0,0,0))]):=by
  refine spec_of hc rfl ?_
  refine spec_loopI (LO l) ⟨0,⟨⟨Int.le_refl _,Int.natCast_nonneg _⟩,rfl⟩,⟨rfl,rfl,rfl,rfl,rfl,rfl,trivial⟩,⟨rfl,⟨rfl,rfl,rfl,rfl,rfl,trivial⟩,trivial⟩⟩ (fun i hv=>⟨rfl,?_⟩)
  obtain ⟨⟨hv0,hv1⟩,hva⟩:=hv
  refine spec_vch (kx:=fun s=>i<(l.length:Int)∧leG s [(0,.sc (.op (.flat 70 4 l))),(2,.ptr 2 0),(3,tI 0),(11,.sc (.op (.flat 70 4 l))),(12,tI l.length),(13,tI i)]∧leB s [(2,63,c5 (wV (l.take i.toNat)))]) (cxOk Try.prog [] [cSub,cNeeds] [] []) follows 60 2 _ _ ?_ (fun s' hk=>?_)
  · skip
    repeat' first
      | exact trivial
      | (refine And.intro (show regChk _ _ _ _ _=true from by kernel_rfl) (And.intro ?_ ?_))
      | (refine And.intro (fun _=>?_) (fun h=>absurd (show true=false from h) (by decide)))
      | (refine And.intro (fun h=>absurd (show false=true from h) (by decide)) (fun _=>?_))
      | (refine And.intro (fun hb=>?_) (fun hb'=>?_))
      | refine And.intro ?_ ?_
      | intro _
    all_goals first
      | (show i<(l.length:Int);exact of_decide_eq_true (by assumption))
      | (show (0:Nat)=0;rfl)
      | (show l.all rOk=true;rw [← take_all l i (by assumption)];exact hva)
      | (show some (A0.v _)=some (A0.v _);first|rfl|(rw [take_all l i (by assumption)]))
      | (show (_:Option TV)=_;rfl)
      | (show (_:Option A0)=_;rfl)
      | (show (_:Option TypeId)=_;rfl)
      | (show True;trivial)
      | (show (_:Option CR)=_;rfl)
      | (show (_:Nat)=(_:Nat);rfl)
      | (show (_:Int)=(_:Int);rfl)
      | (show (_:Bool)=(_:Bool);first|assumption|rfl)
      | (show _=_;rfl)
  · obtain ⟨hlt,hg,hb⟩:=hk
    refine spec_le hg hb rfl ?_
    refine spec_seq (kx:=fun s=>rOk (l.getD i.toNat [])=true∧leG s [(0,.sc (.op (.flat 70 4 l))),(2,.ptr 2 0),(3,tI 0),(11,.sc (.op (.flat 70 4 l))),(12,tI l.length),(13,tI i)]∧leB s [(2,63,c5 (wV (l.take (i+1).toNat)))]) ?_ (fun s' hk=>spec_le hk.2.1 hk.2.2 rfl ?_)
    · refine spec_block ?_
      exact spec_mono (row l hl i hv0 hlt hva _ rfl rfl w0) (fun s h=>h) (fun id s h=>by obtain ⟨rfl,h⟩:=h;rw [if_pos rfl];exact h) (fun s h=>h)
    · obtain ⟨e1,e2⟩:=take_ok hv0 hlt hva hk.1
      refine spec_vc (cxOk Try.prog [] [cSub,cNeeds] [] []) follows 60 ?_
      repeat' first
        | exact trivial
        | (refine And.intro (show regChk _ _ _ _ _=true from by kernel_rfl) (And.intro ?_ ?_))
        | (refine And.intro (fun _=>?_) (fun h=>absurd (show true=false from h) (by decide)))
        | (refine And.intro (fun h=>absurd (show false=true from h) (by decide)) (fun _=>?_))
        | (refine And.intro (fun hb=>?_) (fun hb'=>?_))
        | refine And.intro ?_ ?_
        | intro _
      all_goals first
        | (show ∃ v',_;exact ⟨IntKind.i64.wrap (i+1),by rw [wid (by omega) (by omega)];show ((l.length:Int)-(i+1)).toNat<((l.length:Int)-i).toNat;omega,by rw [wid (by omega) (by omega)];exact ⟨⟨by omega,by omega⟩,e1⟩,⟨rfl,rfl,rfl,rfl,rfl,rfl,trivial⟩,by rw [wid (by omega) (by omega)];exact ⟨rfl,⟨rfl,rfl,rfl,rfl,rfl,trivial⟩,trivial⟩⟩)
        | (show (_:Option TV)=_;rfl)
        | (show (_:Option A0)=_;rfl)
        | (show (_:Option TypeId)=_;rfl)
        | (show True;trivial)
        | (show (_:Option CR)=_;rfl)
        | (show (_:Nat)=(_:Nat);rfl)
        | (show (_:Int)=(_:Int);rfl)
        | (show (_:Bool)=(_:Bool);first|assumption|rfl)
        | (show _=_;rfl)
theorem wants (l:List (List Int)) (hl:l.length≤1000000) (us:List Value) (w:World) (h:All2 (TV.reads pl0 w) [.sc (.op (.flat 70 4 l))] us):Ret Try.prog 38 us.toArray w (.tv (.tup [(true,c5 (wR l).1),(false,[i64 (wR l).2])])):=by
  refine fns_ret (cxOk Try.prog [] [cSub,cNeeds] [] []) Try.func38 rfl (X:=(cxOf Try.prog [] [cSub,cNeeds] [] [])) _ rfl (by show 1≤56;decide) ?_ h
  refine spec_vch (kx:=fun s=>leG s [(0,.sc (.op (.flat 70 4 l))),(2,.ptr 2 0),(3,tI 0)]∧leB s [(2,63,c5 (0,0,0,0,0))]) (cxOk Try.prog [] [cSub,cNeeds] [] []) follows 60 1 _ _ ?_ (fun s' hk=>spec_le hk.1 hk.2 rfl ?_)
  · skip
    repeat' first
      | exact trivial
      | (refine And.intro (show regChk _ _ _ _ _=true from by kernel_rfl) (And.intro ?_ ?_))
      | (refine And.intro (fun _=>?_) (fun h=>absurd (show true=false from h) (by decide)))
      | (refine And.intro (fun h=>absurd (show false=true from h) (by decide)) (fun _=>?_))
      | (refine And.intro (fun hb=>?_) (fun hb'=>?_))
      | refine And.intro ?_ ?_
      | intro _
    all_goals first
      | (show (_:Option TV)=_;rfl)
      | (show (_:Option A0)=_;rfl)
      | (show (_:Option TypeId)=_;rfl)
      | (show True;trivial)
      | (show (_:Option CR)=_;rfl)
      | (show (_:Nat)=(_:Nat);rfl)
      | (show (_:Int)=(_:Int);rfl)
      | (show (_:Bool)=(_:Bool);first|assumption|rfl)
      | (show _=_;rfl)
  refine spec_seq (kx:=fun s=>l.all rOk=true∧leG s [(0,.sc (.op (.flat 70 4 l))),(2,.ptr 2 0),(3,tI 0)]∧leB s [(2,63,c5 (wV l))]) ?_ (fun s' hk=>spec_le hk.2.1 hk.2.2 rfl ?_)
  · refine spec_vch (kx:=fun s=>leG s [(0,.sc (.op (.flat 70 4 l))),(2,.ptr 2 0),(3,tI 0),(11,.sc (.op (.flat 70 4 l))),(12,tI l.length),(13,tI 0)]∧leB s [(2,63,c5 (0,0,0,0,0))]) (cxOk Try.prog [] [cSub,cNeeds] [] []) follows 60 1 _ _ ?_ (fun s' hk=>spec_le hk.1 hk.2 rfl ?_)
    · skip
      repeat' first
        | exact trivial
        | (refine And.intro (show regChk _ _ _ _ _=true from by kernel_rfl) (And.intro ?_ ?_))
        | (refine And.intro (fun _=>?_) (fun h=>absurd (show true=false from h) (by decide)))
        | (refine And.intro (fun h=>absurd (show false=true from h) (by decide)) (fun _=>?_))
        | (refine And.intro (fun hb=>?_) (fun hb'=>?_))
        | refine And.intro ?_ ?_
        | intro _
      all_goals first
        | (show (_:Option TV)=_;rfl)
        | (show (_:Option A0)=_;rfl)
        | (show (_:Option TypeId)=_;rfl)
        | (show True;trivial)
        | (show (_:Option CR)=_;rfl)
        | (show (_:Nat)=(_:Nat);rfl)
        | (show (_:Int)=(_:Int);rfl)
        | (show (_:Bool)=(_:Bool);first|assumption|rfl)
        | (show _=_;rfl)
    · refine spec_block ?_
      exact spec_mono (outer l hl rfl w) (fun s h=>h.elim) (fun id s h=>by obtain ⟨rfl,h⟩:=h;rw [if_pos rfl];exact h) (fun s h=>h)
  · have hk1:=hk.1
    refine spec_vc (cxOk Try.prog [] [cSub,cNeeds] [] []) follows 60 ?_
    repeat' first
      | exact trivial
      | (refine And.intro (show regChk _ _ _ _ _=true from by kernel_rfl) (And.intro ?_ ?_))
      | (refine And.intro (fun _=>?_) (fun h=>absurd (show true=false from h) (by decide)))
      | (refine And.intro (fun h=>absurd (show false=true from h) (by decide)) (fun _=>?_))
      | (refine And.intro (fun hb=>?_) (fun hb'=>?_))
      | refine And.intro ?_ ?_
      | intro _
    all_goals first
      | (show (_:Option CR)=_;rw [wR_ok hk1];show some (CR.tv (.tup _))=some (CR.tv (.tup _));rfl)
      | (show (_:Option TV)=_;rfl)
      | (show (_:Option A0)=_;rfl)
      | (show (_:Option TypeId)=_;rfl)
      | (show True;trivial)
      | (show (_:Option CR)=_;rfl)
      | (show (_:Nat)=(_:Nat);rfl)
      | (show (_:Int)=(_:Int);rfl)
      | (show (_:Bool)=(_:Bool);first|assumption|rfl)
      | (show _=_;rfl)
end
end Go.Proofs.Ytcgknibjbnijmaa.PPw
end
section
set_option linter.unusedVariables false
set_option linter.unusedSimpArgs false
namespace Go.Proofs.Ytcgknibjbnijmaa.PPw
open Go RowKit Ytcgknibjbnijmaa.QPw YtcgknibjbnijmaaW.PrintWords YtcgknibjbnijmaaW.PrintMore YtcgknibjbnijmaaW.Aid YtcgknibjbnijmaaW.Big YtcgknibjbnijmaaW.Sy Go.Proofs
abbrev cap (p:Int):Int:=if 250<p then 250 else p
def sr (a p:Int):Int:=bif (bif (a == 0) then true else decide (cap p<a)) then cap p else a
def ur5 (x:V5) (d p:Int):V5 :=
  if d=1 then (sr x.1 p,x.2) else if d=2 then (x.1,sr x.2.1 p,x.2.2) else if d=3 then (x.1,x.2.1,sr x.2.2.1 p,x.2.2.2) else if d=4 then (x.1,x.2.1,x.2.2.1,sr x.2.2.2.1 p,x.2.2.2.2) else (x.1,x.2.1,x.2.2.1,x.2.2.2.1,sr x.2.2.2.2 p)
def fr5 (x:V5) (ds:List Int) (p:Int):V5:=ds.foldl (fun x d=>ur5 x d p) x
def rowX (x:V5) (r:List Int):V5:=fr5 x (nd (r.getD 1 0)) (r.getD 2 0)
def wS (l:List (List Int)):V5:=l.foldl rowX (0,0,0,0,0)
theorem wS_step {l:List (List Int)} {i:Int} (h0:0≤i) (h1:i<(l.length:Int)):wS (l.take (i+1).toNat)=rowX (wS (l.take i.toNat)) (l.getD i.toNat []):=by
  have hl:i.toNat<l.length:=by omega
  rw [List.getD_eq_getElem?_getD,List.getElem?_eq_getElem hl,show (i+1).toNat=i.toNat+1 by omega,List.take_succ_eq_append_getElem hl]
  unfold wS;rw [List.foldl_append];rfl
theorem nd_range {s:Int} (h:sOk s=true):∀ d∈nd s,1≤d∧d≤5:=by
  obtain ⟨h1,h2⟩:=sOk_iff.1 h
  have hs:s=1∨s=2∨s=3∨s=4∨s=5∨s=6∨s=7∨s=8∨s=9∨s=10∨s=11∨s=12∨s=13∨s=14∨s=15:=by omega
  rcases hs with rfl|rfl|rfl|rfl|rfl|rfl|rfl|rfl|rfl|rfl|rfl|rfl|rfl|rfl|rfl<;>decide
theorem rOk_sensor {r:List Int} (h:rOk r=true):sOk (r.getD 1 0)=true:=by
  have:=of_decide_eq_true h
  exact sOk_iff.2 this.2.1
theorem at_ok {l:List (List Int)} {i:Int} (ha:l.all rOk=true) (h0:0≤i) (h1:i<(l.length:Int)):rOk (l.getD i.toNat [])=true:=by
  have hl:i.toNat<l.length:=by omega
  rw [List.getD_eq_getElem?_getD,List.getElem?_eq_getElem hl]
  exact List.all_eq_true.1 ha _ (List.getElem_mem hl)
section
set_option maxRecDepth 100000
set_option maxHeartbeats 8000000
end
end Go.Proofs.Ytcgknibjbnijmaa.PPw
end
section
set_option linter.unusedVariables false
set_option linter.unusedSimpArgs false
namespace Go.Proofs.Ytcgknibjbnijmaa.PPw
open Go RowKit Ytcgknibjbnijmaa.QPw YtcgknibjbnijmaaW.PrintWords YtcgknibjbnijmaaW.PrintMore YtcgknibjbnijmaaW.Aid YtcgknibjbnijmaaW.Big YtcgknibjbnijmaaW.Sy Go.Proofs
def subT:TV→Option (List (List Int))
  | .sc a=>subL a
  | .row 1 [.v (.int .i64 c),.v (.int .i64 s),.v (.int .i64 p),.v (.int .i64 t)]=>some [[c,s,p,t]]
  | _=>none
theorem subT_reads {w:World} {x:TV} {l:List (List Int)} {u:Value} (hx:subT x=some l) (h:x.reads pl0 w u):(TV.sc (.op (.flat 70 4 l))).reads pl0 w u:=by
  unfold subT at hx
  split at hx
  · rename_i a
    unfold subL at hx
    split at hx
    · cases hx;exact h
    · cases hx
      rw [show u=_ from h]
      exact fun w1 _=>⟨none,0,rfl,Nat.le_refl _,Kd.C_nil _ _⟩
    · cases hx
  · rename_i c s p t
    cases hx
    obtain ⟨A,n,rfl,hn,h⟩:=h
    obtain ⟨ad,rfl,ho,hc⟩:=h (by decide)
    intro w1 ha
    refine ⟨some ad,n,rfl,hn,rfl,(by show 1≤9223372036854775807;decide),fun _=>⟨ad,rfl,fun j x hj=>?_⟩⟩
    match j,hj with
    | 0,hj =>
      cases hj
      refine ⟨[.int .i64 c,.int .i64 s,.int .i64 p,.int .i64 t],rfl,⟨rfl,rfl⟩,fun i v hv=>?_⟩
      rw [Nat.zero_mul,Nat.zero_add,World.cell?_of_block (w:=w) (by rw [Go.Proofs.YtcgknibjbnijmaaW.Sy.add_block];exact ha.block _ ho.1 ho.2)]
      have key:∀ (i:Nat) (z:Value),([A0.v (.int .i64 c),.v (.int .i64 s),.v (.int .i64 p),.v (.int .i64 t)]:List A0)[i]?=some (A0.v z)→w.cell? (ad.add i)=some z:=fun i z hz=>by
        obtain ⟨x,h1,h2,_⟩:=hc i _ hz
        rw [h1,show x=z from h2]
      have hi:i<4:=(List.getElem?_eq_some_iff.1 hv).1
      match i,hi,hv with
      | 0,_,hv=>cases hv;exact key 0 _ rfl
      | 1,_,hv=>cases hv;exact key 1 _ rfl
      | 2,_,hv=>cases hv;exact key 2 _ rfl
      | 3,_,hv=>cases hv;exact key 3 _ rfl
    | j+1,hj=>cases hj
  · cases hx
def cWants:Con Try.prog where
  f:=38
  sem := fun xs => match xs with
    | [x]=>match subT x with
      | some l=>some (l.length≤1000000,.tv (.tup [(true,c5 (wR l).1),(false,[i64 (wR l).2])]))
      | none=>none
    | _=>none
  ok := by
    intro xs p r h hp
    refine ⟨⟨_,Try.func38,by kernel_rfl,rfl⟩,fun us w ha=>?_⟩
    split at h
    · split at h
      · rename_i x l hl
        cases h
        obtain ⟨u,rfl,hu⟩:=all2_1 ha
        exact wants l hp _ w (.cons (subT_reads hl hu) .nil)
      · cases h
    · cases h
def g5 (x:V5) (d:Int):Int:=if d=1 then x.1 else if d=2 then x.2.1 else if d=3 then x.2.2.1 else if d=4 then x.2.2.2.1 else x.2.2.2.2
theorem ext5 {x y:V5} (h:∀ d,1≤d→d≤5→g5 x d=g5 y d):x=y:=by
  obtain ⟨a,b,c,d,e⟩:=x
  obtain ⟨a',b',c',d',e'⟩:=y
  have h1:a=a':=h 1 (by decide) (by decide)
  have h2:b=b':=h 2 (by decide) (by decide)
  have h3:c=c':=h 3 (by decide) (by decide)
  have h4:d=d':=h 4 (by decide) (by decide)
  have h5:e=e':=h 5 (by decide) (by decide)
  rw [h1,h2,h3,h4,h5]
theorem up_g5 {x:V5} {d e p:Int} (hd:1≤d∧d≤5) (he:1≤e∧e≤5):g5 (up5 x d p) e=if e=d then st (g5 x e) p else g5 x e:=by
  have hdd:d=1∨d=2∨d=3∨d=4∨d=5:=by omega
  have hee:e=1∨e=2∨e=3∨e=4∨e=5:=by omega
  rcases hdd with rfl|rfl|rfl|rfl|rfl<;>rcases hee with rfl|rfl|rfl|rfl|rfl<;>rfl
theorem st_val (a p:Int):st a p=if a=0∨p<a then cap p else a:=by
  unfold st cap
  by_cases h1:a=0
  · simp [h1]
  · have h3:(a == 0)=false:=by simpa using h1
    rw [h3]
    by_cases h2:p<a
    · simp [h2]
    · simp [h1,h2]
def lstep (e:Int) (a:Int) (r:List Int):Int:=if e∈nd (r.getD 1 0)∧(a=0∨r.getD 2 0<a) then r.getD 2 0 else a
def least (l:List (List Int)) (e:Int):Int:=l.foldl (lstep e) 0
theorem nd_once {s:Int} (h:sOk s=true):(nd s).Nodup:=by
  obtain ⟨h1,h2⟩:=sOk_iff.1 h
  have hs:s=1∨s=2∨s=3∨s=4∨s=5∨s=6∨s=7∨s=8∨s=9∨s=10∨s=11∨s=12∨s=13∨s=14∨s=15:=by omega
  rcases hs with rfl|rfl|rfl|rfl|rfl|rfl|rfl|rfl|rfl|rfl|rfl|rfl|rfl|rfl|rfl<;>decide
theorem fold5_g5 {p e:Int} (he:1≤e∧e≤5):∀ (ds:List Int) (x:V5),(∀ d∈ds,1≤d∧d≤5)→ds.Nodup→g5 (fold5 x ds p) e=if e∈ds then st (g5 x e) p else g5 x e
  | [],x,_,_=>by simp [fold5]
  | d :: ds, x, h, hn => by
    have hn':=List.nodup_cons.1 hn
    show g5 (fold5 (up5 x d p) ds p) e=_
    rw [fold5_g5 he ds _ (fun d hd=>h d (List.mem_cons_of_mem _ hd)) hn'.2,up_g5 (h d List.mem_cons_self) he]
    by_cases e1:e=d
    · subst e1;rw [if_pos rfl,if_neg hn'.1,if_pos List.mem_cons_self]
    · rw [if_neg e1]
      by_cases e2:e∈ds
      · rw [if_pos e2,if_pos (List.mem_cons_of_mem _ e2)]
      · rw [if_neg e2,if_neg (fun h=>(List.mem_cons.1 h).elim e1 e2)]
theorem rOk_period {r:List Int} (h:rOk r=true):1≤r.getD 2 0∧r.getD 2 0≤1000:=by
  have:=of_decide_eq_true h
  exact this.2.2.1
theorem lstep_pos {e a:Int} {r:List Int} (hr:rOk r=true) (h:0≤a):0≤lstep e a r:=by
  have:=rOk_period hr
  unfold lstep;split<;>omega
theorem rowW_g5 {e a:Int} {r:List Int} {x:V5} (hr:rOk r=true) (he:1≤e∧e≤5) (h0:0≤a) (hx:g5 x e=cap a):g5 (rowW x r) e=cap (lstep e a r):=by
  have hs:=rOk_sensor hr
  have hp:=rOk_period hr
  unfold rowW
  rw [show (ndR (r.getD 1 0)).1=nd (r.getD 1 0) by unfold ndR;rw [if_pos hs],fold5_g5 he _ _ (nd_range hs) (nd_once hs),hx,st_val]
  unfold lstep cap
  by_cases h1:e∈nd (r.getD 1 0)
  · simp only [h1,if_true,true_and]
    repeat' split
    all_goals omega
  · simp only [h1,if_false,false_and]
theorem fold_g5 {e:Int} (he:1≤e∧e≤5):∀ (l:List (List Int)) (x:V5) (a:Int),l.all rOk=true→0≤a→g5 x e=cap a→g5 (l.foldl rowW x) e=cap (l.foldl (lstep e) a)
  | [],x,a,_,_,hx=>hx
  | r::l,x,a,h,h0,hx=>by
    rw [List.all_cons,Bool.and_eq_true] at h
    exact fold_g5 he l _ _ h.2 (lstep_pos h.1 h0) (rowW_g5 h.1 he h0 hx)
theorem g5_zero {e:Int}:g5 (0,0,0,0,0) e=cap 0:=by
  unfold g5;repeat' split
  all_goals rfl
theorem wV_g5 {l:List (List Int)} {e:Int} (h:l.all rOk=true) (he:1≤e∧e≤5):g5 (wV l) e=cap (least l e):=fold_g5 he l _ 0 h (Int.le_refl _) g5_zero
end Go.Proofs.Ytcgknibjbnijmaa.PPw
end
section
set_option linter.unusedVariables false
namespace Go.Proofs.Ytcgknibjbnijmaa.PPw
open Go RowKit Ytcgknibjbnijmaa.QPw YtcgknibjbnijmaaW.PrintWords YtcgknibjbnijmaaW.PrintMore YtcgknibjbnijmaaW.Aid YtcgknibjbnijmaaW.Big YtcgknibjbnijmaaW.Sy Go.Proofs
abbrev G70 (x:S70):Prop:=(Lit.int .i64 x.f0).wf=true∧(Lit.int .i64 x.f1).wf=true∧(Lit.int .i64 x.f2).wf=true∧(Lit.int .i64 x.f3).wf=true
def ofS (x:S70):List Int:=[x.f0,x.f1,x.f2,x.f3]
theorem C_ofS {w:World} {A:Option Addr} {n:Nat} {l:List S70} (h:k70.C w A n l):(kFlat 4).C w A n (l.map ofS):=by
  refine ⟨by rw [List.length_map];exact h.1,h.2.1,fun h0=>?_⟩
  obtain ⟨ad,e,hc⟩:=h.2.2 h0
  refine ⟨ad,e,fun j p hj=>?_⟩
  rw [List.getElem?_map] at hj
  obtain ⟨x,hx,rfl⟩:=Option.map_eq_some_iff.1 hj
  obtain ⟨cs,h1,h2,h4⟩:=hc j x hx
  exact ⟨cs,h1,⟨by rw [k70_open h2];rfl,rfl⟩,h4⟩
theorem cell_lt {w:World} {ad:Addr} {v:Value} (h:w.cell? ad=some v):ad.block<w.heap.size:=by
  rcases Nat.lt_or_ge ad.block w.heap.size with h1|h1
  · exact h1
  · exfalso
    unfold World.cell? at h
    rw [Array.getElem?_eq_none h1] at h
    simp at h
def rowsL (xs:List (List S70)):List (List (List Int)):=xs.map fun l=>l.map ofS
theorem rows_reads {w:World} {A:Option Addr} {c:Nat} {xs:List (List S70)} (h:Kd.C (Kd.slice 70 k70) w A xs.length xs) (hle:xs.length≤c):(TV.rowF (rowsL xs).length 1 (fun i=>[.op (.flat 70 4 ((rowsL xs).getD i []))])).reads pl0 w (.slice A xs.length c):=by
  have hlen:(rowsL xs).length=xs.length:=List.length_map _
  refine ⟨A,c,by rw [hlen],by rw [hlen];exact hle,fun h0=>?_⟩
  rw [hlen] at h0 ⊢
  obtain ⟨ad,e,hc⟩:=h.2.2 h0
  refine ⟨ad,e,⟨?_,fun h=>h⟩,fun i hi=>?_⟩
  · obtain ⟨cs,h1,h2,h3⟩:=hc 0 _ (List.getElem?_eq_getElem h0)
    obtain ⟨A',c',rfl,_⟩:=h2
    have:=cell_lt (h3 0 _ rfl)
    rw [Go.Proofs.YtcgknibjbnijmaaW.Sy.add_block] at this;exact this
  · obtain ⟨cs,h1,h2,h3⟩:=hc i _ (List.getElem?_eq_getElem hi)
    obtain ⟨A',c',rfl,h4,h5⟩:=h2
    intro j q hj
    match j,hj with
    | 0,hj =>
      cases hj
      have e1:(ad.add (i*1)).add 0=ad.add (i*1+0):=addr_add_add _ _ _
      refine ⟨_,by rw [e1];exact h3 0 _ rfl,fun w1 ha=>?_,rfl⟩
      have e2:(rowsL xs).getD i []=xs[i].map ofS:=by
        rw [List.getD_eq_getElem?_getD,show (rowsL xs)[i]?=some (xs[i].map ofS) by unfold rowsL;rw [List.getElem?_map,List.getElem?_eq_getElem hi];rfl];rfl
      rw [e2]
      refine ⟨A',c',by rw [List.length_map],by rw [List.length_map];exact h4,?_⟩
      rw [List.length_map]
      exact C_ofS (Kd.C_below h5 ha.to_below)
    | j+1,hj=>cases hj
end Go.Proofs.Ytcgknibjbnijmaa.PPw
end
section
set_option linter.unusedVariables false
set_option linter.unusedSimpArgs false
namespace Go.Proofs.Ytcgknibjbnijmaa.PPw
open Go RowKit Ytcgknibjbnijmaa.QPw YtcgknibjbnijmaaW.PrintWords YtcgknibjbnijmaaW.PrintMore YtcgknibjbnijmaaW.Aid YtcgknibjbnijmaaW.Big YtcgknibjbnijmaaW.Sy Go.Proofs
abbrev eq5:EqT Try.prog:=eqA Try.prog 63 .i64 5 (by kernel_rfl)
abbrev rowsA (L:List (List (List Int))):TV := .rowF L.length 1 (fun i=>[.op (.flat 70 4 (L.getD i []))])
theorem bfE {b:Bool} (h:b=true):(b == true)=true:=by rw [h];rfl
theorem neT {a b:Int} (h:(a != b)=true) (e:a=b):False:=by subst e;simp at h
theorem tstT {p q:Prop} [Decidable p] [Decidable q] (h:(bif decide p then decide q else false)=true):p∧q:=by
  by_cases hp:p
  · simp only [hp,decide_true,cond_true] at h;exact ⟨hp,of_decide_eq_true h⟩
  · simp [hp] at h
section
set_option maxRecDepth 100000
set_option maxHeartbeats 8000000
end
end Go.Proofs.Ytcgknibjbnijmaa.PPw
end
section
set_option linter.unusedVariables false
set_option linter.unusedSimpArgs false
namespace Go.Proofs.YtcgknibjbnijmaaW.Sy
open Go RowKit YtcgknibjbnijmaaW.PrintWords YtcgknibjbnijmaaW.PrintMore YtcgknibjbnijmaaW.Aid YtcgknibjbnijmaaW.Big
section
variable {P:Program} {X:Cx} {W:Nat→Prop} {w0:World} {n:Nat} {s s':St} {a:Act} {w:World} {Q:Exit→Act→World→Prop} {ops:List Oper}
theorem spec_cond {w0:World} {c:Operand} {x y:Code} {kn:St→Prop} {ke:Nat→St→Prop} {kr:St→Prop} {b:Bool} (hb:boolOf (getv s.g c)=some b) (h1:b=true→SpecC P n W w0 x kn ke kr s) (h2:b=false→SpecC P n W w0 y kn ke kr s):SpecC P n W w0 (.cond c x y) kn ke kr s:=by
  intro a w Q hS hn he hr
  refine wp_cond (boolOf_eq hS hb) ?_
  cases b with
  | true=>exact h1 rfl a w Q hS hn he hr
  | false=>exact h2 rfl a w Q hS hn he hr
end
end Go.Proofs.YtcgknibjbnijmaaW.Sy
end
section
set_option linter.unusedVariables false
set_option linter.unusedSimpArgs false
namespace Go.Proofs.Ytcgknibjbnijmaa.PPw
open Go RowKit Ytcgknibjbnijmaa.QPw YtcgknibjbnijmaaW.PrintWords YtcgknibjbnijmaaW.PrintMore YtcgknibjbnijmaaW.Aid YtcgknibjbnijmaaW.Big YtcgknibjbnijmaaW.Sy Go.Proofs
theorem nzT {l m:List Int} (h:(!eqI l m)=true) (e:l=m):False:=by rw [eqI_iff.2 e] at h;cases h
abbrev v5 (x:V5):List Int:=[x.1,x.2.1,x.2.2.1,x.2.2.2.1,x.2.2.2.2]
theorem le100 {n:Nat} (h:decide ((n:Int)>100)=false):n≤100:=by have:=of_decide_eq_false h;omega
section
set_option maxRecDepth 100000
set_option maxHeartbeats 8000000
end
end Go.Proofs.Ytcgknibjbnijmaa.PPw
end
section
set_option linter.unusedVariables false
set_option linter.unusedSimpArgs false
namespace Go.Proofs.Ytcgknibjbnijmaa.PPw
open Go RowKit Ytcgknibjbnijmaa.QPw YtcgknibjbnijmaaW.PrintWords YtcgknibjbnijmaaW.PrintMore YtcgknibjbnijmaaW.Aid YtcgknibjbnijmaaW.Big YtcgknibjbnijmaaW.Sy Go.Proofs
def row4 (r:List Int):List Int:=[r.getD 0 0,r.getD 1 0,r.getD 2 0,r.getD 3 0]
def bkL (l:List (List Int)):List (List Int):=l.reverse.map row4
theorem lstep_swap {e a:Int} {r s:List Int} (hr:rOk r=true) (hs:rOk s=true):lstep e (lstep e a r) s=lstep e (lstep e a s) r:=by
  have h1:=rOk_period hr
  have h2:=rOk_period hs
  unfold lstep
  by_cases e1:e∈nd (r.getD 1 0)<;>by_cases e2:e∈nd (s.getD 1 0)<;>simp only [e1,e2,true_and,false_and,if_false]
  repeat' split
  all_goals omega
theorem least_perm {e:Int}:∀ {l m:List (List Int)},l.Perm m→l.all rOk=true→∀ a,l.foldl (lstep e) a=m.foldl (lstep e) a:=by
  intro l m h
  induction h with
  | nil=>intro _ a;rfl
  | cons x _ ih=>intro ha a;rw [List.all_cons,Bool.and_eq_true] at ha;exact ih ha.2 _
  | swap x y l=>intro ha a;rw [List.all_cons,List.all_cons,Bool.and_eq_true,Bool.and_eq_true] at ha;rw [List.foldl_cons,List.foldl_cons,List.foldl_cons,List.foldl_cons,lstep_swap ha.1 ha.2.1]
  | trans h1 _ ih1 ih2=>intro ha a;rw [ih1 ha a];exact ih2 (by rw [List.all_eq_true] at ha ⊢;exact fun x hx=>ha x (h1.mem_iff.2 hx)) a
theorem least_back {e:Int} {l:List (List Int)} (h:l.all rOk=true):least (bkL l) e=least l e:=by
  unfold least bkL
  rw [List.foldl_map]
  show l.reverse.foldl (fun a r=>lstep e a r) 0=_
  exact least_perm (List.reverse_perm l) (by rw [List.all_reverse];exact h) 0
theorem back_ok {l:List (List Int)} (h:l.all rOk=true):(bkL l).all rOk=true:=by
  unfold bkL
  rw [List.all_map,List.all_reverse]
  exact h
theorem wR_back {l:List (List Int)} (h:l.all rOk=true):wR (bkL l)=wR l:=by
  rw [wR_ok h,wR_ok (back_ok h)]
  rw [show wV (bkL l)=wV l from ext5 fun d h1 h2=>by rw [wV_g5 (back_ok h) ⟨h1,h2⟩,wV_g5 h ⟨h1,h2⟩,least_back h]]
theorem fold_less {e:Int}:∀ (l:List (List Int)) (x y:Int),l.all rOk=true→0≤x→0≤y→(0<x→0<y∧y≤x)→(0<l.foldl (lstep e) x→0<l.foldl (lstep e) y∧l.foldl (lstep e) y≤l.foldl (lstep e) x)
  | [],x,y,_,_,_,h=>h
  | r :: l, x, y, ha, hx, hy, h => by
    rw [List.all_cons,Bool.and_eq_true] at ha
    refine fold_less l _ _ ha.2 (lstep_pos ha.1 hx) (lstep_pos ha.1 hy) ?_
    have hp:=rOk_period ha.1
    unfold lstep
    by_cases e1:e∈nd (r.getD 1 0)<;>simp only [e1,true_and,false_and,if_false]
    · repeat' split
      all_goals omega
    · exact h
theorem least_pos {e:Int}:∀ (l:List (List Int)) (x:Int),l.all rOk=true→0≤x→0≤l.foldl (lstep e) x
  | [],x,_,h=>h
  | r::l,x,ha,h=>by
    rw [List.all_cons,Bool.and_eq_true] at ha
    exact least_pos l _ ha.2 (lstep_pos ha.1 h)
theorem less_g5 {l:List (List Int)} {e:Int} (h:l.all rOk=true) (h1:1≤e) (h2:e≤5):0<g5 (wR (l.drop 1)).1 e→0<g5 (wR l).1 e∧g5 (wR l).1 e≤g5 (wR (l.drop 1)).1 e:=by
  have hd:(l.drop 1).all rOk=true:=by
    rw [List.all_eq_true] at h ⊢
    exact fun x hx=>h x (List.mem_of_mem_drop hx)
  rw [wR_ok h,wR_ok hd,wV_g5 h ⟨h1,h2⟩,wV_g5 hd ⟨h1,h2⟩]
  match l,h with
  | [],h=>intro h;exact absurd (show (0:Int)<cap 0 from h) (by decide)
  | r :: l, h =>
    rw [List.all_cons,Bool.and_eq_true] at h
    intro h0
    have h0':0<cap (l.foldl (lstep e) 0):=h0
    have k1:=least_pos (e:=e) l 0 h.2 (Int.le_refl _)
    have k:=fold_less (e:=e) l 0 (lstep e 0 r) h.2 (Int.le_refl _) (lstep_pos h.1 (Int.le_refl _)) (fun h=>absurd h (by decide))
    show 0<cap (l.foldl (lstep e) (lstep e 0 r))∧cap (l.foldl (lstep e) (lstep e 0 r))≤cap (l.foldl (lstep e) 0)
    generalize l.foldl (lstep e) 0=u at *
    generalize l.foldl (lstep e) (lstep e 0 r)=v at *
    have k2:0<u:=by
      have:u≠0:=by intro e;subst e;exact absurd h0' (by decide)
      omega
    have k3:=k k2
    unfold cap
    repeat' split
    all_goals omega
theorem ndR_nd {s:Int} (h:sOk s=true):(ndR s).1=nd s:=by unfold ndR;rw [if_pos h]
theorem ls_t {e a:Int} {r:List Int} (hr:rOk r=true) (h:(bif decide (e∈(ndR (r.getD 1 0)).1) then (bif a == 0 then true else decide (r.getD 2 0<a)) else false)=true):lstep e a r=r.getD 2 0:=by
  rw [ndR_nd (rOk_sensor hr)] at h
  unfold lstep
  by_cases h1:e∈nd (r.getD 1 0)
  · rw [decide_eq_true h1] at h
    by_cases h2:a=0
    · rw [if_pos ⟨h1,.inl h2⟩]
    · rw [show (a == 0)=false by simpa using h2] at h
      rw [if_pos ⟨h1,.inr (of_decide_eq_true h)⟩]
  · rw [decide_eq_false h1] at h;cases h
theorem ls_f {e a:Int} {r:List Int} (hr:rOk r=true) (h:(bif decide (e∈(ndR (r.getD 1 0)).1) then (bif a == 0 then true else decide (r.getD 2 0<a)) else false)=false):lstep e a r=a:=by
  rw [ndR_nd (rOk_sensor hr)] at h
  unfold lstep
  rw [if_neg]
  rintro ⟨h1,h2⟩
  rw [decide_eq_true h1] at h
  rcases h2 with h2|h2
  · rw [show (a == 0)=true by simpa using h2] at h;cases h
  · rw [show decide (r.getD 2 0<a)=true from decide_eq_true h2] at h
    cases h3:(a == 0)<;>rw [h3] at h<;>cases h
theorem least_step {l:List (List Int)} {k e:Int} (h0:0≤k) (h1:k<(l.length:Int)):least (l.take (k+1).toNat) e=lstep e (least (l.take k.toNat) e) (l.getD k.toNat []):=by
  have hl:k.toNat<l.length:=by omega
  rw [List.getD_eq_getElem?_getD,List.getElem?_eq_getElem hl,show (k+1).toNat=k.toNat+1 by omega,List.take_succ_eq_append_getElem hl]
  unfold least;rw [List.foldl_append];rfl
theorem bk_step {l:List (List Int)} {v:Int} (h0:0≤v) (h1:v<(l.length:Int)):bkL (l.drop (v-1+1).toNat)=bkL (l.drop (v+1).toNat)++[row4 (l.getD v.toNat [])]:=by
  have hl:v.toNat<l.length:=by omega
  unfold bkL
  rw [List.getD_eq_getElem?_getD,List.getElem?_eq_getElem hl,show (v-1+1).toNat=v.toNat by omega,show (v+1).toNat=v.toNat+1 by omega,List.drop_eq_getElem_cons hl,List.reverse_cons,List.map_append]
  rfl
def bk (m:List (List Int)):TV:=match m with
  | [] => .sc (.v (.slice none 0 0))
  | _::_ => .sc (.ref 59)
def bkB (m:List (List Int)):List (Nat × TypeId × List A0):=match m with
  | []=>[]
  | x::r=>[(59,obT,[.obs (.flat 70 4 (x::r))])]
end Go.Proofs.Ytcgknibjbnijmaa.PPw
end
section
set_option linter.unusedVariables false
set_option linter.unusedSimpArgs false
namespace Go.Proofs.Ytcgknibjbnijmaa.PPw
open Go RowKit Ytcgknibjbnijmaa.QPw YtcgknibjbnijmaaW.PrintWords YtcgknibjbnijmaaW.PrintMore YtcgknibjbnijmaaW.Aid YtcgknibjbnijmaaW.Big YtcgknibjbnijmaaW.Sy Go.Proofs
theorem clA {n:Nat} {b:Bool} (h:(bif decide ((n:Int)>100) then true else !b)=false):n≤100∧b=true:=by
  cases h1:decide ((n:Int)>100) with
  | true=>rw [h1] at h;cases h
  | false=>rw [h1] at h;exact ⟨le100 h1,bfT h⟩
theorem le100' {n:Nat} (h:(decide ((n:Int)>100) == false)=true):n≤1000000:=by
  have:=of_decide_eq_false (eq_of_beq h);omega
theorem clB {l:List (List Int)} (h:l.all rOk=true) (hb:(bif (bif (wR l).2 != 0 then true else (wR (bkL l)).2 != 0) then true else !eqI (v5 (wR (bkL l)).1) (v5 (wR l).1))=true):False:=by
  rw [wR_back h,wR_ok h] at hb
  exact nzT (l:=v5 (wV l)) (m:=v5 (wV l)) hb rfl
theorem clC {s:Int} (h:sOk s=true) (hb:(bif (ndR s).2 != 0 then true else !true)=true):False:=by
  rw [show (ndR s).2=0 by unfold ndR;rw [if_pos h]] at hb;cases hb
theorem clD {l:List (List Int)} {d:Int} (h:l.all rOk=true) (h1:1≤d) (h2:d≤5) {y:Int} (hy:y=g5 (wR l).1 d) (hb:(y != (if 250<least l d then 250 else least l d))=true):False:=by
  refine neT hb ?_
  rw [hy,wR_ok h,wV_g5 h ⟨h1,h2⟩]
theorem clE {x y e:Int} (he:e=0) (H:0<y→0<x∧x≤y) (hb:(bif e != 0 then true else (bif decide (y>0) then (bif x == 0 then true else decide (x>y)) else false))=true):False:=by
  subst he
  have hb:(bif decide (y>0) then (bif x == 0 then true else decide (x>y)) else false)=true:=hb
  by_cases h:y>0
  · obtain ⟨h1,h2⟩:=H h
    rw [decide_eq_true h,show (x == 0)=false by simpa using (by omega:x≠0)] at hb
    have:=of_decide_eq_true (show decide (x>y)=true from hb)
    omega
  · rw [decide_eq_false h] at hb;cases hb
theorem lt0 {v:Int} (h:decide (v≥0)=false):v<0:=by have:=of_decide_eq_false h;omega
theorem wf_bk {gs:List (Nat × TV)} (x:V5) (m:List (List Int)) (h0:gs.all (fun p=>p.2.refs.all fun b=>decide (b=5))=true):wfB ((7,bk m)::gs) ((5,63,c5 x)::bkB m)=true:=by
  unfold wfB
  rw [Bool.and_eq_true]
  constructor
  · rw [List.all_cons,Bool.and_eq_true]
    constructor
    · cases m<;>rfl
    · rw [List.all_eq_true] at h0 ⊢
      intro p hp
      have:=h0 p hp
      rw [List.all_eq_true] at this ⊢
      intro b hb
      have e:=of_decide_eq_true (this b hb)
      subst e;rfl
  · cases m<;>rfl
section
set_option maxRecDepth 100000
set_option maxHeartbeats 8000000
def LB (L:List (List (List Int))) (i:Int) (l:List (List Int)):LI Int where
  gs:=fun v=>((7,bk (bkL (l.drop (v+1).toNat)))::[(0,rowsA L),(3,tI i),(4,.sc (.op (.flat 70 4 l))),(5,.ptr 5 0),(6,tI (wR l).2),(8,tI v)])
  bs:=fun v=>((5,63,c5 (wR l).1)::bkB (bkL (l.drop (v+1).toNat)))
  I:=fun v => -1≤v∧v<(l.length:Int)
  μ:=fun v=>(v+1).toNat
theorem backL (L:List (List (List Int))) (i:Int) (l:List (List Int)) (hl:l.length≤100) {c:Code} (hc:bodyAt Try.f9 [true,false,true,true,true,true,false,true,true,true,true,true,false,true,true]=some c) (w0:World):SpecC Try.prog Try.f9.ntmps (fun _=>False) w0 c (fun _=>False) (fun id s=>id=2∧leG s ((7,bk (bkL l))::[(0,rowsA L),(3,tI i),(4,.sc (.op (.flat 70 4 l))),(5,.ptr 5 0),(6,tI (wR l).2)])∧leB s ((5,63,c5 (wR l).1)::bkB (bkL l))) (fun s=>resCR (cxOf Try.prog [eq5] [cNum,cMaySubs,cWants,cNeeds,cIn,cRising,cWakes] [] []) Try.f9.results.toList s=some (.tv (tB true))) (stB ((7,bk [])::[(0,rowsA L),(3,tI i),(4,.sc (.op (.flat 70 4 l))),(5,.ptr 5 0),(6,tI (wR l).2),(8,tI ((l.length:Int)-1))]) ((5,63,c5 (wR l).1)::bkB [])):=by
  refine spec_of hc rfl ?_
  have hnil:bkL (l.drop ((l.length:Int)-1+1).toNat)=[]:=by
    rw [show ((l.length:Int)-1+1).toNat=l.length by omega,List.drop_length];rfl
  refine spec_loopI (LB L i l) ⟨(l.length:Int)-1,⟨by omega,by omega⟩,?_,?_⟩ (fun v hv=>⟨wf_bk _ _ rfl,?_⟩)
  · show leG _ ((7,bk (bkL (l.drop ((l.length:Int)-1+1).toNat)))::_)
    rw [hnil];exact ⟨rfl,rfl,rfl,rfl,rfl,rfl,rfl,trivial⟩
  · show leB _ (_::bkB (bkL (l.drop ((l.length:Int)-1+1).toNat)))
    rw [hnil];exact ⟨rfl,⟨rfl,rfl,rfl,rfl,rfl,trivial⟩,trivial⟩
  obtain ⟨hv0,hv1⟩:=hv
  have hq:(bkL (l.drop (v+1).toNat)).length≤100:=by unfold bkL;rw [List.length_map,List.length_reverse,List.length_drop];omega
  have hx:v<0→bkL l=bkL (l.drop (v+1).toNat):=fun h=>by rw [show (v+1).toNat=0 by omega];rfl
  have hst:0≤v→bkL (l.drop (IntKind.i64.wrap (v-1)+1).toNat)=bkL (l.drop (v+1).toNat)++[row4 (l.getD v.toNat [])]:=fun h=>by rw [wid (by omega) (by omega)];exact bk_step h hv1
  show SpecC _ _ _ _ _ _ _ _ (stB ((7,bk (bkL (l.drop (v+1).toNat)))::[(0,rowsA L),(3,tI i),(4,.sc (.op (.flat 70 4 l))),(5,.ptr 5 0),(6,tI (wR l).2),(8,tI v)]) ((5,63,c5 (wR l).1)::bkB (bkL (l.drop (v+1).toNat))))
  revert hq hx hst
  generalize bkL (l.drop (v+1).toNat)=m
  intro hq hx hst
  have hv':0≤v→IntKind.i64.wrap (v-1)=v-1:=fun h=>wid (by omega) (by omega)
  cases m
  · simp only [List.nil_append,List.cons_append] at hst
    refine spec_vc (cxOk Try.prog [eq5] [cNum,cMaySubs,cWants,cNeeds,cIn,cRising,cWakes] [] []) follows 60 ?_
    repeat' first
      | exact trivial
      | (refine And.intro (show regChk _ _ _ _ _=true from by kernel_rfl) (And.intro ?_ ?_))
      | (refine And.intro (fun _=>?_) (fun h=>absurd (show true=false from h) (by decide)))
      | (refine And.intro (fun h=>absurd (show false=true from h) (by decide)) (fun _=>?_))
      | (refine And.intro (fun _=>?_) (fun h=>absurd (show false=true from h) (by decide)))
      | (refine And.intro (fun h=>absurd (show true=false from h) (by decide)) (fun _=>?_))
      | (refine And.intro (fun hb=>?_) (fun hb'=>?_))
      | refine And.intro ?_ ?_
      | intro _
    all_goals first
      | (show (0:Int)≤v;exact of_decide_eq_true (by assumption))
      | (show v<(l.length:Int);exact hv1)
      | (show _*_≤140737488355328;show 1*32≤140737488355328;decide)
      | (show (2:Nat)=2;rfl)
      | (show some _=some (bk (bkL l));exact congrArg (fun z=>some (bk z)) (hx (lt0 (by assumption))).symm)
      | (show leB _ (bkB (bkL l));rw [hx (lt0 (by assumption))];first|exact trivial|exact ⟨rfl,⟨rfl,trivial⟩,trivial⟩)
      | (show ∃ v',_;have h9:0≤v:=of_decide_eq_true (by assumption);refine ⟨IntKind.i64.wrap (v-1),by rw [hv' h9];show (v-1+1).toNat<(v+1).toNat;omega,by rw [hv' h9];exact ⟨by omega,by omega⟩,?_,?_⟩;(show leG _ ((7,bk (bkL (l.drop (IntKind.i64.wrap (v-1)+1).toNat)))::_);rw [hst h9];exact ⟨rfl,rfl,rfl,rfl,rfl,rfl,rfl,trivial⟩);(show leB _ (_::bkB (bkL (l.drop (IntKind.i64.wrap (v-1)+1).toNat)));rw [hst h9];exact ⟨rfl,⟨rfl,rfl,rfl,rfl,rfl,trivial⟩,rfl,⟨rfl,trivial⟩,trivial⟩))
      | exact bfF (by assumption)
      | exact bfE (by assumption)
      | (show (_:Option TV)=_;rfl)
      | (show (_:Option A0)=_;rfl)
      | (show (_:Option TypeId)=_;rfl)
      | (show True;trivial)
      | (show (_:Option CR)=_;rfl)
      | (show (_:Nat)=(_:Nat);rfl)
      | (show (_:Int)=(_:Int);rfl)
      | (show (_:Bool)=(_:Bool);first|assumption|rfl)
      | (show _=_;rfl)
  · rename_i x q
    simp only [List.cons_append,List.length_cons] at hst hq
    refine spec_vc (cxOk Try.prog [eq5] [cNum,cMaySubs,cWants,cNeeds,cIn,cRising,cWakes] [] []) follows 60 ?_
    repeat' first
      | exact trivial
      | (refine And.intro (show regChk _ _ _ _ _=true from by kernel_rfl) (And.intro ?_ ?_))
      | (refine And.intro (fun _=>?_) (fun h=>absurd (show true=false from h) (by decide)))
      | (refine And.intro (fun h=>absurd (show false=true from h) (by decide)) (fun _=>?_))
      | (refine And.intro (fun _=>?_) (fun h=>absurd (show false=true from h) (by decide)))
      | (refine And.intro (fun h=>absurd (show true=false from h) (by decide)) (fun _=>?_))
      | (refine And.intro (fun hb=>?_) (fun hb'=>?_))
      | refine And.intro ?_ ?_
      | intro _
    all_goals first
      | (show (0:Int)≤v;exact of_decide_eq_true (by assumption))
      | (show v<(l.length:Int);exact hv1)
      | (show (_+_)*_≤140737488355328;show (q.length+1+1)*32≤140737488355328;omega)
      | (show (2:Nat)=2;rfl)
      | (show some _=some (bk (bkL l));exact congrArg (fun z=>some (bk z)) (hx (lt0 (by assumption))).symm)
      | (show leB _ (bkB (bkL l));rw [hx (lt0 (by assumption))];first|exact trivial|exact ⟨rfl,⟨rfl,trivial⟩,trivial⟩)
      | (show ∃ v',_;have h9:0≤v:=of_decide_eq_true (by assumption);refine ⟨IntKind.i64.wrap (v-1),by rw [hv' h9];show (v-1+1).toNat<(v+1).toNat;omega,by rw [hv' h9];exact ⟨by omega,by omega⟩,?_,?_⟩;(show leG _ ((7,bk (bkL (l.drop (IntKind.i64.wrap (v-1)+1).toNat)))::_);rw [hst h9];exact ⟨rfl,rfl,rfl,rfl,rfl,rfl,rfl,trivial⟩);(show leB _ (_::bkB (bkL (l.drop (IntKind.i64.wrap (v-1)+1).toNat)));rw [hst h9];exact ⟨rfl,⟨rfl,rfl,rfl,rfl,rfl,trivial⟩,rfl,⟨rfl,trivial⟩,trivial⟩))
      | exact bfF (by assumption)
      | exact bfE (by assumption)
      | (show (_:Option TV)=_;rfl)
      | (show (_:Option A0)=_;rfl)
      | (show (_:Option TypeId)=_;rfl)
      | (show True;trivial)
      | (show (_:Option CR)=_;rfl)
      | (show (_:Nat)=(_:Nat);rfl)
      | (show (_:Int)=(_:Int);rfl)
      | (show (_:Bool)=(_:Bool);first|assumption|rfl)
      | (show _=_;rfl)
end
end Go.Proofs.Ytcgknibjbnijmaa.PPw
end
