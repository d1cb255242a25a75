/- Part of a proof: texts of this session, one behind the other, and words that print.sh printed for this seat, of these only those that the proof leans on (wip/tools/pack.py). -/
import Derived.Test.YtmnkaldemjdcoaaGreatZT230b
import Derived.Test.YtmnkaldemjdcoaaGreatProg
import Derived.Below
import Derived.Deep.Draws
import Derived.Deep.AppendLies
import Derived.Maps.AppendAt
import Derived.OwnWalk
import Derived.Laws.BytesArg
import Derived.Laws.MakeOwn
import Derived.Laws.OwnMore
import Derived.Deep.OwnRows
import Derived.Tactics
import Derived.Lib.ConvBytes
import Derived.Laws.Slices
import Derived.WalkKit
import Derived.KernelRfl
import Derived.RowKit3
import Derived.Deep.LoopGhost
import Derived.Deep.QuietTactic
import Derived.BigQuiet
import Derived.WideLaws
import Derived.Deep.DeepCutAuto
import Derived.Deep.CutBlock
import Derived.Deep.RegionHeld3
import Derived.Laws.Rows
import Derived.Lib.AppendStr
import Derived.ArgAppend
import Derived.Laws.IdiomCopy
import Derived.OrdersHeld
import Derived.Laws.BitsLemmas
import Derived.RowKit
import Derived.Laws.StructEq
import Derived.Deep.WholeRow
import Derived.Outline
import Derived.Lib.SliceRun
import Derived.Laws.Externs
import Derived.Shelf.Small.Bits
import Derived.Lib.ItoaNum
import Derived.BigRegion
section
namespace Go.Proofs.YtmnkaldemjdcoaaGreat.QN90
open RowKit YtmnkaldemjdcoaaGreatW.PrintWords YtmnkaldemjdcoaaGreatW.PrintLast YtmnkaldemjdcoaaGreatW.PrintMore
attribute [local go_sem] max2_int min2_int max_two min_two max_three min_three max_four min_four   -- for this text's walks alone
set_option linter.unusedVariables false
set_option linter.unusedSimpArgs false
mutual
def gimbalref90_NTimes.l0:Nat→List Int→List Int→List Int→Int→Option (List Int)
  | 0,_,_,_,_=>none
  | k+1,x5,x6,x7,x8=>if x8<(x5.length:Int) then (gimbalref90_NTimes.l1 k x5 x6 x7 x8 0 0) else ((gimbalref90_cut.f k x7).bind fun t290=>((gimbalref90_whole.f k t290).bind fun t293=>(some t293)))
def gimbalref90_NTimes.l1:Nat→List Int→List Int→List Int→Int→Int→Int→Option (List Int)
  | 0,_,_,_,_,_,_=>none
  | k+1,x5,x6,x7,x8,x9,x10=>if x10<(x6.length:Int) then (if 0≤(wrap64 (x8+x10)) then (if (wrap64 (x8+x10))<(x7.length:Int) then (if 0≤x8 then (if x8<(x5.length:Int) then (if 0≤x10 then (gimbalref90_NTimes.l1 k x5 x6 (x7.set ((wrap64 (x8+x10)):Int).toNat ((IntKind.u64.wrap ((IntKind.u64.wrap (x9+(IntKind.u64.wrap (rd x7 (wrap64 (x8+x10))))))+(IntKind.u64.wrap ((IntKind.u64.wrap (rd x5 x8))*(IntKind.u64.wrap (rd x6 x10))))))%4294967296)) x8 ((IntKind.u64.wrap ((IntKind.u64.wrap (x9+(IntKind.u64.wrap (rd x7 (wrap64 (x8+x10))))))+(IntKind.u64.wrap ((IntKind.u64.wrap (rd x5 x8))*(IntKind.u64.wrap (rd x6 x10))))))/4294967296) (wrap64 (x10+1))) else (none)) else (none)) else (none)) else (none)) else (none)) else (if 0≤(wrap64 (x8+(x6.length:Int))) then (if (wrap64 (x8+(x6.length:Int)))<(x7.length:Int) then (gimbalref90_NTimes.l0 k x5 x6 (x7.set ((wrap64 (x8+(x6.length:Int))):Int).toNat ((x9)%4294967296)) (wrap64 (x8+1))) else (none)) else (none))
end
def gimbalref90_NTimes.f (k:Nat) (l0:List Int) (l1:List Int):Option (List Int):=(gimbalref90_halves.f k l0).bind fun t281=>((gimbalref90_halves.f k l1).bind fun t284=>(if 0≤(wrap64 ((t281.length:Int)+(t284.length:Int))) then (if (wrap64 ((t281.length:Int)+(t284.length:Int)):Int).toNat≤70368744177664 then (gimbalref90_NTimes.l0 k t281 t284 (List.replicate (wrap64 ((t281.length:Int)+(t284.length:Int)):Int).toNat 0) 0) else (none)) else (none)))
theorem gimbalref90_NTimes.mono_l:∀ k,(∀ y0 y1 y2 y3,LeO (gimbalref90_NTimes.l0 k y0 y1 y2 y3) (gimbalref90_NTimes.l0 (k+1) y0 y1 y2 y3))∧(∀ y0 y1 y2 y3 y4 y5,LeO (gimbalref90_NTimes.l1 k y0 y1 y2 y3 y4 y5) (gimbalref90_NTimes.l1 (k+1) y0 y1 y2 y3 y4 y5))
  | 0=>⟨fun _ _ _ _ r h=>by simp [gimbalref90_NTimes.l0] at h,fun _ _ _ _ _ _ r h=>by simp [gimbalref90_NTimes.l1] at h⟩
  | k + 1 => by
    obtain ⟨ih0,ih1⟩:=gimbalref90_NTimes.mono_l k
    refine ⟨?_,?_⟩
    · intro y0 y1 y2 y3
      unfold gimbalref90_NTimes.l0
      repeat' first
      | (with_reducible exact ih0 _ _ _ _)
      | (with_reducible exact ih1 _ _ _ _ _ _)
      | (with_reducible exact gimbalref90_cut.mono _ _)
      | (with_reducible exact gimbalref90_halves.mono _ _)
      | (with_reducible exact gimbalref90_whole.mono _ _)
      | (with_reducible exact LeO.refl _)
      | (with_reducible exact LeO.none _)
      | (with_reducible refine LeO.ite ?_ ?_)
      | (with_reducible refine LeO.bind ?_ (fun _=>?_))
      | exact ih0 _ _ _ _
      | exact ih1 _ _ _ _ _ _
      | exact gimbalref90_cut.mono _ _
      | exact gimbalref90_halves.mono _ _
      | exact gimbalref90_whole.mono _ _
      | exact LeO.none _
      | refine LeO.ite ?_ ?_
      | refine LeO.bind ?_ (fun _=>?_)
    · intro y0 y1 y2 y3 y4 y5
      unfold gimbalref90_NTimes.l1
      repeat' first
      | (with_reducible exact ih0 _ _ _ _)
      | (with_reducible exact ih1 _ _ _ _ _ _)
      | (with_reducible exact gimbalref90_cut.mono _ _)
      | (with_reducible exact gimbalref90_halves.mono _ _)
      | (with_reducible exact gimbalref90_whole.mono _ _)
      | (with_reducible exact LeO.refl _)
      | (with_reducible exact LeO.none _)
      | (with_reducible refine LeO.ite ?_ ?_)
      | (with_reducible refine LeO.bind ?_ (fun _=>?_))
      | exact ih0 _ _ _ _
      | exact ih1 _ _ _ _ _ _
      | exact gimbalref90_cut.mono _ _
      | exact gimbalref90_halves.mono _ _
      | exact gimbalref90_whole.mono _ _
      | exact LeO.none _
      | refine LeO.ite ?_ ?_
      | refine LeO.bind ?_ (fun _=>?_)
theorem gimbalref90_NTimes.mono:∀ a0 a1 k,LeO (gimbalref90_NTimes.f k a0 a1) (gimbalref90_NTimes.f (k+1) a0 a1):=by
  intro a0 a1 k
  obtain ⟨ih0,ih1⟩:=gimbalref90_NTimes.mono_l k
  unfold gimbalref90_NTimes.f
  repeat' first
      | (with_reducible exact ih0 _ _ _ _)
      | (with_reducible exact ih1 _ _ _ _ _ _)
      | (with_reducible exact gimbalref90_cut.mono _ _)
      | (with_reducible exact gimbalref90_halves.mono _ _)
      | (with_reducible exact gimbalref90_whole.mono _ _)
      | (with_reducible exact LeO.refl _)
      | (with_reducible exact LeO.none _)
      | (with_reducible refine LeO.ite ?_ ?_)
      | (with_reducible refine LeO.bind ?_ (fun _=>?_))
      | exact ih0 _ _ _ _
      | exact ih1 _ _ _ _ _ _
      | exact gimbalref90_cut.mono _ _
      | exact gimbalref90_halves.mono _ _
      | exact gimbalref90_whole.mono _ _
      | exact LeO.none _
      | refine LeO.ite ?_ ?_
      | refine LeO.bind ?_ (fun _=>?_)
set_option maxHeartbeats 8000000 in
set_option maxRecDepth 100000 in
theorem gimbalref90_NTimes.calls (k:Nat) (A0:Option Addr) (c0:Nat) (l0:List Int) (A1:Option Addr) (c1:Nat) (l1:List Int) (r:List Int) (w:World) (hr0:Kd.C (Kd.int .u64) w A0 l0.length l0) (hc0:l0.length≤c0) (hr1:Kd.C (Kd.int .u64) w A1 l1.length l1) (hc1:l1.length≤c1) (h:gimbalref90_NTimes.f k l0 l1=some r) :
    Calls Tryz.prog 104 #[.slice A0 l0.length c0,.slice A1 l1.length c1] w fun e w'=>∃ v0_:Value,e = .returned (v0_)∧Kd.R (Kd.int .u64) 94 w' w.heap.size (fun _=>True) v0_ r∧Below w.heap.size w w':=by
  have HR0:=Aside0.mk hr0
  have HC0:=Aside0.mk hc0
  clear hr0 hc0
  have HR1:=Aside0.mk hr1
  have HC1:=Aside0.mk hc1
  clear hr1 hc1
  have HB:=Aside0.mk (Below.refl w.heap.size w)
  have H:((gimbalref90_halves.f k l0).bind fun t281=>((gimbalref90_halves.f k l1).bind fun t284=>(if 0≤(wrap64 ((t281.length:Int)+(t284.length:Int))) then (if (wrap64 ((t281.length:Int)+(t284.length:Int)):Int).toNat≤70368744177664 then (gimbalref90_NTimes.l0 k t281 t284 (List.replicate (wrap64 ((t281.length:Int)+(t284.length:Int)):Int).toNat 0) 0) else (none)) else (none))))=some r:=h
  clear h
  replace H:=Option.bind_eq_some_iff.mp H
  obtain ⟨t281,A30,H⟩:=H
  replace H:((gimbalref90_halves.f k l1).bind fun t284=>(if 0≤(wrap64 ((t281.length:Int)+(t284.length:Int))) then (if (wrap64 ((t281.length:Int)+(t284.length:Int)):Int).toNat≤70368744177664 then (gimbalref90_NTimes.l0 k t281 t284 (List.replicate (wrap64 ((t281.length:Int)+(t284.length:Int)):Int).toNat 0) 0) else (none)) else (none)))=some r:=H
  have A3:=Aside0.mk A30
  clear A30
  replace H:=Option.bind_eq_some_iff.mp H
  obtain ⟨t284,A40,H⟩:=H
  replace H:(if 0≤(wrap64 ((t281.length:Int)+(t284.length:Int))) then (if (wrap64 ((t281.length:Int)+(t284.length:Int)):Int).toNat≤70368744177664 then (gimbalref90_NTimes.l0 k t281 t284 (List.replicate (wrap64 ((t281.length:Int)+(t284.length:Int)):Int).toNat 0) 0) else (none)) else (none))=some r:=H
  have A4:=Aside0.mk A40
  clear A40
  obtain ⟨ji5,hji5⟩:∃ j_:Int,(wrap64 ((t281.length:Int)+(t284.length:Int)))=j_:=⟨_,rfl⟩
  replace H:(if 0≤(ji5) then (if (ji5:Int).toNat≤70368744177664 then (gimbalref90_NTimes.l0 k t281 t284 (List.replicate (ji5:Int).toNat 0) 0) else (none)) else (none))=some r:=by first|(rw [hji5] at H;exact H)|(simp only [hji5] at H ⊢;exact H)
  (try rw [hji5] at A3)
  (try rw [hji5] at A4)
  have hji5w:(IntKind.i64.wrap ((t281.length:Int)+(t284.length:Int)))=ji5:=(i64_w _).trans hji5
  by_cases c6:0≤(ji5)
  · rw [if_pos c6] at H
    have c6b0:=eq_true c6
    have c6b1:decide (0≤(ji5))=true:=decide_eq_true c6
    clear c6
    by_cases c7:(ji5:Int).toNat≤70368744177664
    · rw [if_pos c7] at H
      have c7b0:=eq_true c7
      have c7b1:decide ((ji5:Int).toNat≤70368744177664)=true:=decide_eq_true c7
      clear c7
      obtain ⟨y287,hy287⟩:∃ y_:List Int,y_=(List.replicate (ji5:Int).toNat 0):=⟨_,rfl⟩
      replace H:(gimbalref90_NTimes.l0 k t281 t284 y287 0)=some r:=by first|(rw [hy287];with_reducible exact H)|(have H2_:=(Option.bind_some _ _).symm.trans H;rw [hy287];with_reducible exact H2_)|(have H2_:=(Option.bind_some _ _).symm.trans H;with_reducible exact H2_)|with_reducible exact H|(rw [hy287];exact H)|exact H
      have Ny287:=Aside0.mk hy287
      clear hy287
      have H':=Aside0.mk H
      clear H
      go_enter Tryz.func104,Tryz.ntmps104
      go_wp2_with (first|(go_at_call 115;(with_reducible refine (gimbalref90_halves.calls k _ _ l0 t281 _ ?side1 ?side2 A3.out).mono ?_);(case side1=>repeat (first|exact HR0.out|(with_reducible refine Kd.C_alloc ?_ _)|(with_reducible refine Kd.C_drewN ?_ _)|(with_reducible refine Kd.C_drew ?_)));(case side2=>exact HC0.out);rintro e w8 ⟨v282,rfl,ho0,hb⟩;have n0_:=Aside0.mk (Kd.R_lower ho0 (below_size (by repeat (first|(with_reducible first|exact HB.out|apply below_alloc|apply pw_below_drewN|apply below_drew1)|exact HB.out))));have n1_:=Aside0.mk (below_step (by repeat (first|(with_reducible first|exact HB.out|apply below_alloc|apply pw_below_drewN|apply below_drew1)|exact HB.out)) hb);clear HB;have HO283:=n0_;have HB:=n1_;clear n0_ n1_;(try clear hb);(try clear hb2);(try clear hk);(try clear hi);(try clear ho0))|(go_at_call 115;(with_reducible refine (gimbalref90_halves.calls k _ _ l1 t284 _ ?side1 ?side2 A4.out).mono ?_);(case side1=>repeat (first|exact (Kd.C_below HR1.out HB.out)|(with_reducible refine Kd.C_alloc ?_ _)|(with_reducible refine Kd.C_drewN ?_ _)|(with_reducible refine Kd.C_drew ?_)));(case side2=>exact HC1.out);rintro e w9 ⟨v285,rfl,ho0,hb⟩;have n0_:=Aside0.mk (Kd.R_elder' (by (with_reducible repeat (first|apply Kd.R_alloc|apply Kd.R_drewN|apply Kd.R_drew));exact HO283.out) (Kd.R_base ho0) hb);have n1_:=Aside0.mk (Kd.R_lower (Kd.R_new' ho0 (Kd.R_lt (by (with_reducible repeat (first|apply Kd.R_alloc|apply Kd.R_drewN|apply Kd.R_drew));exact HO283.out))) (below_size (by repeat (first|(with_reducible first|exact HB.out|apply below_alloc|apply pw_below_drewN|apply below_drew1)|exact HB.out))));have n2_:=Aside0.mk (below_step (by repeat (first|(with_reducible first|exact HB.out|apply below_alloc|apply pw_below_drewN|apply below_drew1)|exact HB.out)) hb);clear HO283;clear HB;have HO283:=n0_;have HO286:=n1_;have HB:=n2_;clear n0_ n1_ n2_;(try clear hb);(try clear hb2);(try clear hk);(try clear hi);(try clear ho0);obtain ⟨Ao10,co10,eo10⟩:=Kd.R_slice HO283.out;subst eo10;obtain ⟨Ao11,co11,eo11⟩:=Kd.R_slice HO286.out;subst eo11)|((with_reducible refine gate_dst (N:=20) rfl ?_);refine Kd.R_make (Kd.int .u32) _ 130 rfl (N:=20) rfl 128 _ _ rfl ji5 rfl rfl Tryz.underlying128 (.int .u32 0) 4 info130 rfl (by decide) (by omega) 0 (ok:=fun _=>True) (okp:=fun _=>True) rfl (fun _ hk=>hk) trivial (of_decide_eq_true (by first|(with_reducible assumption)|assumption)) (Nat.le_trans (Nat.mul_le_mul_right _ (of_decide_eq_true (by first|(with_reducible assumption)|assumption):ji5.toNat≤70368744177664)) (by omega)) (Below.refl _ _) (Nat.le_refl _) ?_;intro v288 w12 ho13 hb hg_ hnew_;clear hg_ hnew_;(first|rw [← Ny287.out] at ho13|(simp only [Int.reduceToNat] at ho13;rw [← Ny287.out] at ho13));have n0_:=Aside0.mk (Kd.R_elder' (by (with_reducible repeat (first|apply Kd.R_alloc|apply Kd.R_drewN|apply Kd.R_drew));exact HO283.out) (Kd.R_base ho13) hb);have n1_:=Aside0.mk (Kd.R_elder' (by (with_reducible repeat (first|apply Kd.R_alloc|apply Kd.R_drewN|apply Kd.R_drew));exact HO286.out) (Kd.R_base ho13) hb);have n2_:=Aside0.mk (Kd.R_lower (Kd.R_new' (Kd.R_new' ho13 (Kd.R_lt (by (with_reducible repeat (first|apply Kd.R_alloc|apply Kd.R_drewN|apply Kd.R_drew));exact HO283.out))) (Kd.R_lt (by (with_reducible repeat (first|apply Kd.R_alloc|apply Kd.R_drewN|apply Kd.R_drew));exact HO286.out))) (below_size (by repeat (first|(with_reducible first|exact HB.out|apply below_alloc|apply pw_below_drewN|apply below_drew1)|exact HB.out))));have n3_:=Aside0.mk (below_step (by repeat (first|(with_reducible first|exact HB.out|apply below_alloc|apply pw_below_drewN|apply below_drew1)|exact HB.out)) hb);clear HO283;clear HO286;clear HB;have HO283:=n0_;have HO286:=n1_;have HO289:=n2_;have HB:=n3_;clear n0_ n1_ n2_ n3_;clear hb ho13))
      repeat (go_quiet (first|(go_at_call 115;(with_reducible refine (gimbalref90_halves.calls k _ _ l0 t281 _ ?side1 ?side2 A3.out).mono ?_);(case side1=>repeat (first|exact HR0.out|(with_reducible refine Kd.C_alloc ?_ _)|(with_reducible refine Kd.C_drewN ?_ _)|(with_reducible refine Kd.C_drew ?_)));(case side2=>exact HC0.out);rintro e w8 ⟨v282,rfl,ho0,hb⟩;have n0_:=Aside0.mk (Kd.R_lower ho0 (below_size (by repeat (first|(with_reducible first|exact HB.out|apply below_alloc|apply pw_below_drewN|apply below_drew1)|exact HB.out))));have n1_:=Aside0.mk (below_step (by repeat (first|(with_reducible first|exact HB.out|apply below_alloc|apply pw_below_drewN|apply below_drew1)|exact HB.out)) hb);clear HB;have HO283:=n0_;have HB:=n1_;clear n0_ n1_;(try clear hb);(try clear hb2);(try clear hk);(try clear hi);(try clear ho0))|(go_at_call 115;(with_reducible refine (gimbalref90_halves.calls k _ _ l1 t284 _ ?side1 ?side2 A4.out).mono ?_);(case side1=>repeat (first|exact (Kd.C_below HR1.out HB.out)|(with_reducible refine Kd.C_alloc ?_ _)|(with_reducible refine Kd.C_drewN ?_ _)|(with_reducible refine Kd.C_drew ?_)));(case side2=>exact HC1.out);rintro e w9 ⟨v285,rfl,ho0,hb⟩;have n0_:=Aside0.mk (Kd.R_elder' (by (with_reducible repeat (first|apply Kd.R_alloc|apply Kd.R_drewN|apply Kd.R_drew));exact HO283.out) (Kd.R_base ho0) hb);have n1_:=Aside0.mk (Kd.R_lower (Kd.R_new' ho0 (Kd.R_lt (by (with_reducible repeat (first|apply Kd.R_alloc|apply Kd.R_drewN|apply Kd.R_drew));exact HO283.out))) (below_size (by repeat (first|(with_reducible first|exact HB.out|apply below_alloc|apply pw_below_drewN|apply below_drew1)|exact HB.out))));have n2_:=Aside0.mk (below_step (by repeat (first|(with_reducible first|exact HB.out|apply below_alloc|apply pw_below_drewN|apply below_drew1)|exact HB.out)) hb);clear HO283;clear HB;have HO283:=n0_;have HO286:=n1_;have HB:=n2_;clear n0_ n1_ n2_;(try clear hb);(try clear hb2);(try clear hk);(try clear hi);(try clear ho0);obtain ⟨Ao10,co10,eo10⟩:=Kd.R_slice HO283.out;subst eo10;obtain ⟨Ao11,co11,eo11⟩:=Kd.R_slice HO286.out;subst eo11)|((with_reducible refine gate_dst (N:=20) rfl ?_);refine Kd.R_make (Kd.int .u32) _ 130 rfl (N:=20) rfl 128 _ _ rfl ji5 rfl rfl Tryz.underlying128 (.int .u32 0) 4 info130 rfl (by decide) (by omega) 0 (ok:=fun _=>True) (okp:=fun _=>True) rfl (fun _ hk=>hk) trivial (of_decide_eq_true (by first|(with_reducible assumption)|assumption)) (Nat.le_trans (Nat.mul_le_mul_right _ (of_decide_eq_true (by first|(with_reducible assumption)|assumption):ji5.toNat≤70368744177664)) (by omega)) (Below.refl _ _) (Nat.le_refl _) ?_;intro v288 w12 ho13 hb hg_ hnew_;clear hg_ hnew_;(first|rw [← Ny287.out] at ho13|(simp only [Int.reduceToNat] at ho13;rw [← Ny287.out] at ho13));have n0_:=Aside0.mk (Kd.R_elder' (by (with_reducible repeat (first|apply Kd.R_alloc|apply Kd.R_drewN|apply Kd.R_drew));exact HO283.out) (Kd.R_base ho13) hb);have n1_:=Aside0.mk (Kd.R_elder' (by (with_reducible repeat (first|apply Kd.R_alloc|apply Kd.R_drewN|apply Kd.R_drew));exact HO286.out) (Kd.R_base ho13) hb);have n2_:=Aside0.mk (Kd.R_lower (Kd.R_new' (Kd.R_new' ho13 (Kd.R_lt (by (with_reducible repeat (first|apply Kd.R_alloc|apply Kd.R_drewN|apply Kd.R_drew));exact HO283.out))) (Kd.R_lt (by (with_reducible repeat (first|apply Kd.R_alloc|apply Kd.R_drewN|apply Kd.R_drew));exact HO286.out))) (below_size (by repeat (first|(with_reducible first|exact HB.out|apply below_alloc|apply pw_below_drewN|apply below_drew1)|exact HB.out))));have n3_:=Aside0.mk (below_step (by repeat (first|(with_reducible first|exact HB.out|apply below_alloc|apply pw_below_drewN|apply below_drew1)|exact HB.out)) hb);clear HO283;clear HO286;clear HB;have HO283:=n0_;have HO286:=n1_;have HO289:=n2_;have HB:=n3_;clear n0_ n1_ n2_ n3_;clear hb ho13));try go_wp2_with (first|(go_at_call 115;(with_reducible refine (gimbalref90_halves.calls k _ _ l0 t281 _ ?side1 ?side2 A3.out).mono ?_);(case side1=>repeat (first|exact HR0.out|(with_reducible refine Kd.C_alloc ?_ _)|(with_reducible refine Kd.C_drewN ?_ _)|(with_reducible refine Kd.C_drew ?_)));(case side2=>exact HC0.out);rintro e w8 ⟨v282,rfl,ho0,hb⟩;have n0_:=Aside0.mk (Kd.R_lower ho0 (below_size (by repeat (first|(with_reducible first|exact HB.out|apply below_alloc|apply pw_below_drewN|apply below_drew1)|exact HB.out))));have n1_:=Aside0.mk (below_step (by repeat (first|(with_reducible first|exact HB.out|apply below_alloc|apply pw_below_drewN|apply below_drew1)|exact HB.out)) hb);clear HB;have HO283:=n0_;have HB:=n1_;clear n0_ n1_;(try clear hb);(try clear hb2);(try clear hk);(try clear hi);(try clear ho0))|(go_at_call 115;(with_reducible refine (gimbalref90_halves.calls k _ _ l1 t284 _ ?side1 ?side2 A4.out).mono ?_);(case side1=>repeat (first|exact (Kd.C_below HR1.out HB.out)|(with_reducible refine Kd.C_alloc ?_ _)|(with_reducible refine Kd.C_drewN ?_ _)|(with_reducible refine Kd.C_drew ?_)));(case side2=>exact HC1.out);rintro e w9 ⟨v285,rfl,ho0,hb⟩;have n0_:=Aside0.mk (Kd.R_elder' (by (with_reducible repeat (first|apply Kd.R_alloc|apply Kd.R_drewN|apply Kd.R_drew));exact HO283.out) (Kd.R_base ho0) hb);have n1_:=Aside0.mk (Kd.R_lower (Kd.R_new' ho0 (Kd.R_lt (by (with_reducible repeat (first|apply Kd.R_alloc|apply Kd.R_drewN|apply Kd.R_drew));exact HO283.out))) (below_size (by repeat (first|(with_reducible first|exact HB.out|apply below_alloc|apply pw_below_drewN|apply below_drew1)|exact HB.out))));have n2_:=Aside0.mk (below_step (by repeat (first|(with_reducible first|exact HB.out|apply below_alloc|apply pw_below_drewN|apply below_drew1)|exact HB.out)) hb);clear HO283;clear HB;have HO283:=n0_;have HO286:=n1_;have HB:=n2_;clear n0_ n1_ n2_;(try clear hb);(try clear hb2);(try clear hk);(try clear hi);(try clear ho0);obtain ⟨Ao10,co10,eo10⟩:=Kd.R_slice HO283.out;subst eo10;obtain ⟨Ao11,co11,eo11⟩:=Kd.R_slice HO286.out;subst eo11)|((with_reducible refine gate_dst (N:=20) rfl ?_);refine Kd.R_make (Kd.int .u32) _ 130 rfl (N:=20) rfl 128 _ _ rfl ji5 rfl rfl Tryz.underlying128 (.int .u32 0) 4 info130 rfl (by decide) (by omega) 0 (ok:=fun _=>True) (okp:=fun _=>True) rfl (fun _ hk=>hk) trivial (of_decide_eq_true (by first|(with_reducible assumption)|assumption)) (Nat.le_trans (Nat.mul_le_mul_right _ (of_decide_eq_true (by first|(with_reducible assumption)|assumption):ji5.toNat≤70368744177664)) (by omega)) (Below.refl _ _) (Nat.le_refl _) ?_;intro v288 w12 ho13 hb hg_ hnew_;clear hg_ hnew_;(first|rw [← Ny287.out] at ho13|(simp only [Int.reduceToNat] at ho13;rw [← Ny287.out] at ho13));have n0_:=Aside0.mk (Kd.R_elder' (by (with_reducible repeat (first|apply Kd.R_alloc|apply Kd.R_drewN|apply Kd.R_drew));exact HO283.out) (Kd.R_base ho13) hb);have n1_:=Aside0.mk (Kd.R_elder' (by (with_reducible repeat (first|apply Kd.R_alloc|apply Kd.R_drewN|apply Kd.R_drew));exact HO286.out) (Kd.R_base ho13) hb);have n2_:=Aside0.mk (Kd.R_lower (Kd.R_new' (Kd.R_new' ho13 (Kd.R_lt (by (with_reducible repeat (first|apply Kd.R_alloc|apply Kd.R_drewN|apply Kd.R_drew));exact HO283.out))) (Kd.R_lt (by (with_reducible repeat (first|apply Kd.R_alloc|apply Kd.R_drewN|apply Kd.R_drew));exact HO286.out))) (below_size (by repeat (first|(with_reducible first|exact HB.out|apply below_alloc|apply pw_below_drewN|apply below_drew1)|exact HB.out))));have n3_:=Aside0.mk (below_step (by repeat (first|(with_reducible first|exact HB.out|apply below_alloc|apply pw_below_drewN|apply below_drew1)|exact HB.out)) hb);clear HO283;clear HO286;clear HB;have HO283:=n0_;have HO286:=n1_;have HO289:=n2_;have HB:=n3_;clear n0_ n1_ n2_ n3_;clear hb ho13)))
      go_loopg [8] k (fun kq v8 w'=>∃ (x7_1:List Int) (x8_1:Int),v8 = .int .i64 x8_1∧Aside0 (gimbalref90_NTimes.l0 kq t281 t284 x7_1 x8_1=some r)∧Aside0 (kq≤k)∧Aside0 (Kd.R (Kd.int .u32) 130 w' w.heap.size (fun k_=>some k_≠((.slice Ao11 t284.length co11):Value).ownBlock∧some k_≠(v288:Value).ownBlock) (.slice Ao10 t281.length co10) t281)∧Aside0 (Kd.R (Kd.int .u32) 130 w' w.heap.size (fun k_=>some k_≠((.slice Ao10 t281.length co10):Value).ownBlock∧some k_≠(v288:Value).ownBlock) (.slice Ao11 t284.length co11) t284)∧Aside0 (Kd.R (Kd.int .u32) 130 w' w.heap.size (fun k_=>some k_≠((.slice Ao10 t281.length co10):Value).ownBlock∧some k_≠((.slice Ao11 t284.length co11):Value).ownBlock) v288 x7_1)∧Aside0 (Below w.heap.size w w'))
      case atStart=>exact ⟨(y287),(0),(by first|rfl|(simp;done)|(simp [*];done)),H',⟨Nat.le_refl _⟩,⟨by (with_reducible repeat (first|apply Kd.R_alloc|apply Kd.R_drewN|apply Kd.R_drew));exact Kd.R_mono HO283.out (fun _ hk=>⟨hk.1.2,hk.2⟩)⟩,⟨by (with_reducible repeat (first|apply Kd.R_alloc|apply Kd.R_drewN|apply Kd.R_drew));exact Kd.R_mono HO286.out (fun _ hk=>⟨hk.1.2,hk.2⟩)⟩,⟨by (with_reducible repeat (first|apply Kd.R_alloc|apply Kd.R_drewN|apply Kd.R_drew));exact Kd.R_mono HO289.out (fun _ hk=>⟨hk.1.2,hk.2⟩)⟩,⟨by repeat (first|(with_reducible first|exact HB.out|apply below_alloc|apply pw_below_drewN|apply below_drew1)|exact HB.out)⟩⟩
      case round =>
        clear H'
        try clear c1
        try clear p2
        try clear c6
        try clear c6b0
        try clear c6b1
        try clear p6
        try clear c7
        try clear c7b0
        try clear c7b1
        try clear c10
        obtain ⟨x7_1,x8_1,rfl,HA,HK1,HO_5,HO_6,HO_7,HB⟩:=hrel
        cases gk with
        | zero=>exact absurd HA.out (by simp [gimbalref90_NTimes.l0])
        | succ k1 =>
          have H:=HA.out
          clear HA
          simp only [gimbalref90_NTimes.l0] at H
          by_cases c14:x8_1<(t281.length:Int)
          · rw [if_pos c14] at H
            have c14b0:decide (x8_1<(t281.length:Int))=true:=decide_eq_true c14
            clear c14
            have H':=Aside0.mk H
            clear H
            go_wp2
            repeat (go_quiet (fail);try go_wp2)
            go_loopg [9,10] k1 (fun kq v9 v10 w'=>∃ (x7_2:List Int) (x9_2:Int) (x10_2:Int),v9 = .int .u64 x9_2∧v10 = .int .i64 x10_2∧Aside0 (gimbalref90_NTimes.l1 kq t281 t284 x7_2 x8_1 x9_2 x10_2=some r)∧Aside0 (kq≤k1)∧Aside0 (Kd.R (Kd.int .u32) 130 w' w.heap.size (fun k_=>some k_≠((.slice Ao11 t284.length co11):Value).ownBlock∧some k_≠(v288:Value).ownBlock) (.slice Ao10 t281.length co10) t281)∧Aside0 (Kd.R (Kd.int .u32) 130 w' w.heap.size (fun k_=>some k_≠((.slice Ao10 t281.length co10):Value).ownBlock∧some k_≠(v288:Value).ownBlock) (.slice Ao11 t284.length co11) t284)∧Aside0 (Kd.R (Kd.int .u32) 130 w' w.heap.size (fun k_=>some k_≠((.slice Ao10 t281.length co10):Value).ownBlock∧some k_≠((.slice Ao11 t284.length co11):Value).ownBlock) v288 x7_2)∧Aside0 (Below w.heap.size w w'))
            case atStart=>exact ⟨(x7_1),(0),(0),(by first|rfl|(simp;done)|(simp [*];done)),(by first|rfl|(simp;done)|(simp [*];done)),H',⟨Nat.le_refl _⟩,⟨by (with_reducible repeat (first|apply Kd.R_alloc|apply Kd.R_drewN|apply Kd.R_drew));exact HO_5.out⟩,⟨by (with_reducible repeat (first|apply Kd.R_alloc|apply Kd.R_drewN|apply Kd.R_drew));exact HO_6.out⟩,⟨by (with_reducible repeat (first|apply Kd.R_alloc|apply Kd.R_drewN|apply Kd.R_drew));exact HO_7.out⟩,⟨by repeat (first|(with_reducible first|exact HB.out|apply below_alloc|apply pw_below_drewN|apply below_drew1)|exact HB.out)⟩⟩
            case round =>
              clear H'
              try clear c1
              try clear p2
              try clear c6
              try clear c6b0
              try clear c6b1
              try clear p6
              try clear c7
              try clear c7b0
              try clear c7b1
              try clear c10
              try clear c14
              try clear c14b0
              try clear p2
              try clear p6
              obtain ⟨x7_2,x9_2,x10_2,rfl,rfl,HA,HK2,HO_5,HO_6,HO_7,HB⟩:=hrel
              cases gk with
              | zero=>exact absurd HA.out (by simp [gimbalref90_NTimes.l1])
              | succ k2 =>
                have H:=HA.out
                clear HA
                simp only [gimbalref90_NTimes.l1] at H
                by_cases c15:x10_2<(t284.length:Int)
                · rw [if_pos c15] at H
                  have c15b0:decide (x10_2<(t284.length:Int))=true:=decide_eq_true c15
                  clear c15
                  obtain ⟨ji16,hji16⟩:∃ j_:Int,(wrap64 (x8_1+x10_2))=j_:=⟨_,rfl⟩
                  replace H:(if 0≤(ji16) then (if (ji16)<(x7_2.length:Int) then (if 0≤x8_1 then (if x8_1<(t281.length:Int) then (if 0≤x10_2 then (gimbalref90_NTimes.l1 k2 t281 t284 (x7_2.set ((ji16):Int).toNat ((IntKind.u64.wrap ((IntKind.u64.wrap (x9_2+(IntKind.u64.wrap (rd x7_2 (ji16)))))+(IntKind.u64.wrap ((IntKind.u64.wrap (rd t281 x8_1))*(IntKind.u64.wrap (rd t284 x10_2))))))%4294967296)) x8_1 ((IntKind.u64.wrap ((IntKind.u64.wrap (x9_2+(IntKind.u64.wrap (rd x7_2 (ji16)))))+(IntKind.u64.wrap ((IntKind.u64.wrap (rd t281 x8_1))*(IntKind.u64.wrap (rd t284 x10_2))))))/4294967296) (wrap64 (x10_2+1))) else (none)) else (none)) else (none)) else (none)) else (none))=some r:=by first|(rw [hji16] at H;exact H)|(simp only [hji16] at H ⊢;exact H)
                  have hji16w:(IntKind.i64.wrap (x8_1+x10_2))=ji16:=(i64_w _).trans hji16
                  by_cases c17:0≤(ji16)
                  · rw [if_pos c17] at H
                    have c17b0:decide (0≤(ji16))=true:=decide_eq_true c17
                    clear c17
                    by_cases c18:(ji16)<(x7_2.length:Int)
                    · rw [if_pos c18] at H
                      have c18b0:decide ((ji16)<(x7_2.length:Int))=true:=decide_eq_true c18
                      clear c18
                      by_cases c19:0≤x8_1
                      · rw [if_pos c19] at H
                        have c19b0:decide (0≤x8_1)=true:=decide_eq_true c19
                        clear c19
                        by_cases c20:x8_1<(t281.length:Int)
                        · rw [if_pos c20] at H
                          have c20b0:decide (x8_1<(t281.length:Int))=true:=decide_eq_true c20
                          clear c20
                          by_cases c21:0≤x10_2
                          · rw [if_pos c21] at H
                            have c21b0:decide (0≤x10_2)=true:=decide_eq_true c21
                            clear c21
                            obtain ⟨y299,hy299⟩:∃ y_:List Int,y_=(x7_2.set ((ji16):Int).toNat ((IntKind.u64.wrap ((IntKind.u64.wrap (x9_2+(IntKind.u64.wrap (rd x7_2 (ji16)))))+(IntKind.u64.wrap ((IntKind.u64.wrap (rd t281 x8_1))*(IntKind.u64.wrap (rd t284 x10_2))))))%4294967296)):=⟨_,rfl⟩
                            replace H:(gimbalref90_NTimes.l1 k2 t281 t284 y299 x8_1 ((IntKind.u64.wrap ((IntKind.u64.wrap (x9_2+(IntKind.u64.wrap (rd x7_2 (ji16)))))+(IntKind.u64.wrap ((IntKind.u64.wrap (rd t281 x8_1))*(IntKind.u64.wrap (rd t284 x10_2))))))/4294967296) (wrap64 (x10_2+1)))=some r:=by first|(rw [hy299];with_reducible exact H)|(have H2_:=(Option.bind_some _ _).symm.trans H;rw [hy299];with_reducible exact H2_)|(have H2_:=(Option.bind_some _ _).symm.trans H;with_reducible exact H2_)|with_reducible exact H|(rw [hy299];exact H)|exact H
                            have Ny299:=Aside0.mk hy299
                            clear hy299
                            have H':=Aside0.mk H
                            clear H
                            obtain ⟨Ao23,co23,eo23⟩:=Kd.R_slice HO_7.out
                            subst eo23
                            have p296:0≤((ji16):Int):=of_decide_eq_true (by first|(with_reducible assumption)|assumption)
                            have q296:(ji16)<(x7_2.length:Int):=of_decide_eq_true (by first|(with_reducible assumption)|assumption)
                            obtain ⟨ad296,e296,hx296_0⟩:=Kd.at_int (Kd.R_reads' HO_7.out).2.2 (ji16) p296 q296
                            cases e296
                            replace p296:=eq_true p296
                            replace q296:=eq_true q296
                            have p297:0≤(x8_1:Int):=of_decide_eq_true (by first|(with_reducible assumption)|assumption)
                            have q297:x8_1<(t281.length:Int):=of_decide_eq_true (by first|(with_reducible assumption)|assumption)
                            obtain ⟨ad297,e297,hx297_0⟩:=Kd.at_int (Kd.R_reads' HO_5.out).2.2 x8_1 p297 q297
                            cases e297
                            replace p297:=eq_true p297
                            replace q297:=eq_true q297
                            have p298:0≤(x10_2:Int):=of_decide_eq_true (by first|(with_reducible assumption)|assumption)
                            have q298:x10_2<(t284.length:Int):=of_decide_eq_true (by first|(with_reducible assumption)|assumption)
                            obtain ⟨ad298,e298,hx298_0⟩:=Kd.at_int (Kd.R_reads' HO_6.out).2.2 x10_2 p298 q298
                            cases e298
                            replace p298:=eq_true p298
                            replace q298:=eq_true q298
                            have p22:0≤((ji16):Int):=of_decide_eq_true (by first|(with_reducible assumption)|assumption)
                            have q22:((ji16):Int)<((x7_2.length:Int):Int):=of_decide_eq_true (by first|(with_reducible assumption)|assumption)
                            obtain ⟨go22,co22,eo22,gb22,gl22,cl22,HG22⟩:=Kd.R_form HO_7.out (by omega)
                            (first|cases eo22|(injection eo22 with ea_ en_ ec_;(first|subst ea_|(injection ea_ with ea_;subst ea_));subst ec_;clear en_))
                            have GB22:=Aside0.mk gb22
                            have GG22:=Aside0.mk HG22
                            clear gb22 gl22 HG22
                            (first|simp only [add_plain] at hx296_0|skip)
                            obtain ⟨hx22_0,hf22_0⟩:=Kd.R_celln 0 HO_7.out ((ji16):Int) p22 q22
                            replace p22:=eq_true p22
                            replace q22:=eq_true q22
                            have HP24:=Kd.R_putg HO_7.out ((ji16):Int) ((IntKind.u64.wrap ((IntKind.u64.wrap (x9_2+(IntKind.u64.wrap (rd x7_2 (ji16)))))+(IntKind.u64.wrap ((IntKind.u64.wrap (rd t281 x8_1))*(IntKind.u64.wrap (rd t284 x10_2))))))%4294967296)
                            go_wp2_with (first|((with_reducible refine gate_store (t:=130) (p:=60) rfl ?_);(try (rw [drewN_self wr];generalize hq_:World.drewN wr _=wr;have n0_:=Aside0.mk (Kd.R_at hq_ HO_5.out);have n1_:=Aside0.mk (Kd.R_at hq_ HO_6.out);have n2_:=Aside0.mk (Kd.R_at hq_ HO_7.out);have n3_:=Aside0.mk (below_at hq_ HB.out);clear hq_ HO_5 HO_6 HO_7 HB;have HO_5:=n0_;have HO_6:=n1_;have HO_7:=n2_;have HB:=n3_;clear n0_ n1_ n2_ n3_;(try (have HP24:=Kd.R_putg HO_7.out ((ji16):Int) ((IntKind.u64.wrap ((IntKind.u64.wrap (x9_2+(IntKind.u64.wrap (rd x7_2 (ji16)))))+(IntKind.u64.wrap ((IntKind.u64.wrap (rd t281 x8_1))*(IntKind.u64.wrap (rd t284 x10_2))))))%4294967296)))));refine store_event (t:=130) (p:=60) (v:=?vo_w25) (w1:=(wr.setCell ⟨go22,((ji16):Int).toNat,none⟩ (.int .u32 ((IntKind.u64.wrap ((IntKind.u64.wrap (x9_2+(IntKind.u64.wrap (rd x7_2 (ji16)))))+(IntKind.u64.wrap ((IntKind.u64.wrap (rd t281 x8_1))*(IntKind.u64.wrap (rd t284 x10_2))))))%4294967296)))) ?hg ?ho ?hn ?hr ?_;(case ho=>rfl);(case hg=>rfl);(case hn=>rfl);(case hr=>first|(go_simp;done)|(go_simp;rfl));intro w25 hw;have hg:wr.grownBy w25 (some go22):=(by rw [hw];exact HP24.2);have hp_:Kd.R (Kd.int .u32) 130 w25 w.heap.size (fun k_=>some k_≠(.slice (some ad297) t281.length co10:Value).ownBlock∧some k_≠(.slice (some ad298) t284.length co11:Value).ownBlock) (.slice (some ⟨go22,0,none⟩) x7_2.length co23) y299:=(by rw [hw,Ny299.out];exact HP24.1);clear HP24;have n0_:=Aside0.mk (Kd.R_after (v:=(.slice (some ⟨go22,0,none⟩) x7_2.length co23)) (v1:=(.slice (some ⟨go22,0,none⟩) x7_2.length co23)) (ok:=(fun k_=>some k_≠(.slice (some ad298) t284.length co11:Value).ownBlock)) (by (with_reducible repeat (first|apply Kd.R_alloc|apply Kd.R_drewN|apply Kd.R_drew));exact HO_5.out) hg (.inl rfl));have n1_:=Aside0.mk (Kd.R_after (v:=(.slice (some ⟨go22,0,none⟩) x7_2.length co23)) (v1:=(.slice (some ⟨go22,0,none⟩) x7_2.length co23)) (ok:=(fun k_=>some k_≠(.slice (some ad297) t281.length co10:Value).ownBlock)) (by (with_reducible repeat (first|apply Kd.R_alloc|apply Kd.R_drewN|apply Kd.R_drew));exact HO_6.out) hg (.inl rfl));have n2_:=Aside0.mk (hp_);have n3_:=Aside0.mk ((by rw [hw];exact below_set (HB.out) GB22.out:Below w.heap.size w w25));clear HO_5;clear HO_6;clear HO_7;clear HB;have HO_5:=n0_;have HO_6:=n1_;have HO_7:=n2_;have HB:=n3_;clear n0_ n1_ n2_ n3_;clear hg hw hp_))
                            repeat (go_quiet (first|((with_reducible refine gate_store (t:=130) (p:=60) rfl ?_);(try (rw [drewN_self wr];generalize hq_:World.drewN wr _=wr;have n0_:=Aside0.mk (Kd.R_at hq_ HO_5.out);have n1_:=Aside0.mk (Kd.R_at hq_ HO_6.out);have n2_:=Aside0.mk (Kd.R_at hq_ HO_7.out);have n3_:=Aside0.mk (below_at hq_ HB.out);clear hq_ HO_5 HO_6 HO_7 HB;have HO_5:=n0_;have HO_6:=n1_;have HO_7:=n2_;have HB:=n3_;clear n0_ n1_ n2_ n3_;(try (have HP24:=Kd.R_putg HO_7.out ((ji16):Int) ((IntKind.u64.wrap ((IntKind.u64.wrap (x9_2+(IntKind.u64.wrap (rd x7_2 (ji16)))))+(IntKind.u64.wrap ((IntKind.u64.wrap (rd t281 x8_1))*(IntKind.u64.wrap (rd t284 x10_2))))))%4294967296)))));refine store_event (t:=130) (p:=60) (v:=?vo_w25) (w1:=(wr.setCell ⟨go22,((ji16):Int).toNat,none⟩ (.int .u32 ((IntKind.u64.wrap ((IntKind.u64.wrap (x9_2+(IntKind.u64.wrap (rd x7_2 (ji16)))))+(IntKind.u64.wrap ((IntKind.u64.wrap (rd t281 x8_1))*(IntKind.u64.wrap (rd t284 x10_2))))))%4294967296)))) ?hg ?ho ?hn ?hr ?_;(case ho=>rfl);(case hg=>rfl);(case hn=>rfl);(case hr=>first|(go_simp;done)|(go_simp;rfl));intro w25 hw;have hg:wr.grownBy w25 (some go22):=(by rw [hw];exact HP24.2);have hp_:Kd.R (Kd.int .u32) 130 w25 w.heap.size (fun k_=>some k_≠(.slice (some ad297) t281.length co10:Value).ownBlock∧some k_≠(.slice (some ad298) t284.length co11:Value).ownBlock) (.slice (some ⟨go22,0,none⟩) x7_2.length co23) y299:=(by rw [hw,Ny299.out];exact HP24.1);clear HP24;have n0_:=Aside0.mk (Kd.R_after (v:=(.slice (some ⟨go22,0,none⟩) x7_2.length co23)) (v1:=(.slice (some ⟨go22,0,none⟩) x7_2.length co23)) (ok:=(fun k_=>some k_≠(.slice (some ad298) t284.length co11:Value).ownBlock)) (by (with_reducible repeat (first|apply Kd.R_alloc|apply Kd.R_drewN|apply Kd.R_drew));exact HO_5.out) hg (.inl rfl));have n1_:=Aside0.mk (Kd.R_after (v:=(.slice (some ⟨go22,0,none⟩) x7_2.length co23)) (v1:=(.slice (some ⟨go22,0,none⟩) x7_2.length co23)) (ok:=(fun k_=>some k_≠(.slice (some ad297) t281.length co10:Value).ownBlock)) (by (with_reducible repeat (first|apply Kd.R_alloc|apply Kd.R_drewN|apply Kd.R_drew));exact HO_6.out) hg (.inl rfl));have n2_:=Aside0.mk (hp_);have n3_:=Aside0.mk ((by rw [hw];exact below_set (HB.out) GB22.out:Below w.heap.size w w25));clear HO_5;clear HO_6;clear HO_7;clear HB;have HO_5:=n0_;have HO_6:=n1_;have HO_7:=n2_;have HB:=n3_;clear n0_ n1_ n2_ n3_;clear hg hw hp_));try go_wp2_with (first|((with_reducible refine gate_store (t:=130) (p:=60) rfl ?_);(try (rw [drewN_self wr];generalize hq_:World.drewN wr _=wr;have n0_:=Aside0.mk (Kd.R_at hq_ HO_5.out);have n1_:=Aside0.mk (Kd.R_at hq_ HO_6.out);have n2_:=Aside0.mk (Kd.R_at hq_ HO_7.out);have n3_:=Aside0.mk (below_at hq_ HB.out);clear hq_ HO_5 HO_6 HO_7 HB;have HO_5:=n0_;have HO_6:=n1_;have HO_7:=n2_;have HB:=n3_;clear n0_ n1_ n2_ n3_;(try (have HP24:=Kd.R_putg HO_7.out ((ji16):Int) ((IntKind.u64.wrap ((IntKind.u64.wrap (x9_2+(IntKind.u64.wrap (rd x7_2 (ji16)))))+(IntKind.u64.wrap ((IntKind.u64.wrap (rd t281 x8_1))*(IntKind.u64.wrap (rd t284 x10_2))))))%4294967296)))));refine store_event (t:=130) (p:=60) (v:=?vo_w25) (w1:=(wr.setCell ⟨go22,((ji16):Int).toNat,none⟩ (.int .u32 ((IntKind.u64.wrap ((IntKind.u64.wrap (x9_2+(IntKind.u64.wrap (rd x7_2 (ji16)))))+(IntKind.u64.wrap ((IntKind.u64.wrap (rd t281 x8_1))*(IntKind.u64.wrap (rd t284 x10_2))))))%4294967296)))) ?hg ?ho ?hn ?hr ?_;(case ho=>rfl);(case hg=>rfl);(case hn=>rfl);(case hr=>first|(go_simp;done)|(go_simp;rfl));intro w25 hw;have hg:wr.grownBy w25 (some go22):=(by rw [hw];exact HP24.2);have hp_:Kd.R (Kd.int .u32) 130 w25 w.heap.size (fun k_=>some k_≠(.slice (some ad297) t281.length co10:Value).ownBlock∧some k_≠(.slice (some ad298) t284.length co11:Value).ownBlock) (.slice (some ⟨go22,0,none⟩) x7_2.length co23) y299:=(by rw [hw,Ny299.out];exact HP24.1);clear HP24;have n0_:=Aside0.mk (Kd.R_after (v:=(.slice (some ⟨go22,0,none⟩) x7_2.length co23)) (v1:=(.slice (some ⟨go22,0,none⟩) x7_2.length co23)) (ok:=(fun k_=>some k_≠(.slice (some ad298) t284.length co11:Value).ownBlock)) (by (with_reducible repeat (first|apply Kd.R_alloc|apply Kd.R_drewN|apply Kd.R_drew));exact HO_5.out) hg (.inl rfl));have n1_:=Aside0.mk (Kd.R_after (v:=(.slice (some ⟨go22,0,none⟩) x7_2.length co23)) (v1:=(.slice (some ⟨go22,0,none⟩) x7_2.length co23)) (ok:=(fun k_=>some k_≠(.slice (some ad297) t281.length co10:Value).ownBlock)) (by (with_reducible repeat (first|apply Kd.R_alloc|apply Kd.R_drewN|apply Kd.R_drew));exact HO_6.out) hg (.inl rfl));have n2_:=Aside0.mk (hp_);have n3_:=Aside0.mk ((by rw [hw];exact below_set (HB.out) GB22.out:Below w.heap.size w w25));clear HO_5;clear HO_6;clear HO_7;clear HB;have HO_5:=n0_;have HO_6:=n1_;have HO_7:=n2_;have HB:=n3_;clear n0_ n1_ n2_ n3_;clear hg hw hp_)))
                            have HOD0:Kd.R (Kd.int .u32) 130 (wr.drewN nq) w.heap.size (fun k_=>some k_≠(.slice (some ad297) t281.length co10:Value).ownBlock∧some k_≠(.slice (some ad298) t284.length co11:Value).ownBlock) (.slice (some ⟨go22,0,none⟩) x7_2.length co23) x7_2:=by (with_reducible repeat (first|apply Kd.R_alloc|apply Kd.R_drewN|apply Kd.R_drew));exact HO_7.out
                            have HOD:=Kd.R_putg HOD0 ((ji16):Int) ((IntKind.u64.wrap ((IntKind.u64.wrap (x9_2+(IntKind.u64.wrap (rd x7_2 (ji16)))))+(IntKind.u64.wrap ((IntKind.u64.wrap (rd t281 x8_1))*(IntKind.u64.wrap (rd t284 x10_2))))))%4294967296)
                            go_roundg k2
                            case measure=>have:=HK1.out;have:=HK2.out;omega
                            case rel=>exact ⟨(y299),((IntKind.u64.wrap ((IntKind.u64.wrap (x9_2+(IntKind.u64.wrap (rd x7_2 (ji16)))))+(IntKind.u64.wrap ((IntKind.u64.wrap (rd t281 x8_1))*(IntKind.u64.wrap (rd t284 x10_2))))))/4294967296),(wrap64 (x10_2+1)),(by first|rfl|(simp;done)|(simp only [← hji16]<;>(first|rfl|simp))|(simp [*];done)),(by first|rfl|(simp;done)|(simp [*];done)),H',⟨by have:=HK1.out;have:=HK2.out;omega⟩,⟨by refine Kd.R_after (W:=wr.drewN nq) (v:=(.slice (some ⟨go22,0,none⟩) x7_2.length co23)) (v1:=(.slice (some ⟨go22,0,none⟩) x7_2.length co23)) (ok:=(fun k_=>some k_≠(.slice (some ad298) t284.length co11:Value).ownBlock)) ?_ HOD.2 (.inl rfl);(with_reducible repeat (first|apply Kd.R_alloc|apply Kd.R_drewN|apply Kd.R_drew));exact HO_5.out⟩,⟨by refine Kd.R_after (W:=wr.drewN nq) (v:=(.slice (some ⟨go22,0,none⟩) x7_2.length co23)) (v1:=(.slice (some ⟨go22,0,none⟩) x7_2.length co23)) (ok:=(fun k_=>some k_≠(.slice (some ad297) t281.length co10:Value).ownBlock)) ?_ HOD.2 (.inl rfl);(with_reducible repeat (first|apply Kd.R_alloc|apply Kd.R_drewN|apply Kd.R_drew));exact HO_6.out⟩,⟨by rw [Ny299.out];exact HOD.1⟩,⟨below_set (pw_below_drewN HB.out nq) GB22.out⟩⟩
                          · rw [if_neg c21] at H
                            exact absurd H (by simp)
                        · rw [if_neg c20] at H
                          exact absurd H (by simp)
                      · rw [if_neg c19] at H
                        exact absurd H (by simp)
                    · rw [if_neg c18] at H
                      exact absurd H (by simp)
                  · rw [if_neg c17] at H
                    exact absurd H (by simp)
                · rw [if_neg c15] at H
                  have c15b0:decide (x10_2<(t284.length:Int))=false:=decide_eq_false c15
                  clear c15
                  obtain ⟨ji26,hji26⟩:∃ j_:Int,(wrap64 (x8_1+(t284.length:Int)))=j_:=⟨_,rfl⟩
                  replace H:(if 0≤(ji26) then (if (ji26)<(x7_2.length:Int) then (gimbalref90_NTimes.l0 k2 t281 t284 (x7_2.set ((ji26):Int).toNat ((x9_2)%4294967296)) (wrap64 (x8_1+1))) else (none)) else (none))=some r:=by first|(rw [hji26] at H;exact H)|(simp only [hji26] at H ⊢;exact H)
                  have hji26w:(IntKind.i64.wrap (x8_1+(t284.length:Int)))=ji26:=(i64_w _).trans hji26
                  by_cases c27:0≤(ji26)
                  · rw [if_pos c27] at H
                    have c27b0:decide (0≤(ji26))=true:=decide_eq_true c27
                    clear c27
                    by_cases c28:(ji26)<(x7_2.length:Int)
                    · rw [if_pos c28] at H
                      have c28b0:decide ((ji26)<(x7_2.length:Int))=true:=decide_eq_true c28
                      clear c28
                      obtain ⟨y300,hy300⟩:∃ y_:List Int,y_=(x7_2.set ((ji26):Int).toNat ((x9_2)%4294967296)):=⟨_,rfl⟩
                      replace H:(gimbalref90_NTimes.l0 k2 t281 t284 y300 (wrap64 (x8_1+1)))=some r:=by first|(rw [hy300];with_reducible exact H)|(have H2_:=(Option.bind_some _ _).symm.trans H;rw [hy300];with_reducible exact H2_)|(have H2_:=(Option.bind_some _ _).symm.trans H;with_reducible exact H2_)|with_reducible exact H|(rw [hy300];exact H)|exact H
                      have Ny300:=Aside0.mk hy300
                      clear hy300
                      have H':=Aside0.mk H
                      clear H
                      have p29:0≤((ji26):Int):=of_decide_eq_true (by first|(with_reducible assumption)|assumption)
                      have q29:((ji26):Int)<((x7_2.length:Int):Int):=of_decide_eq_true (by first|(with_reducible assumption)|assumption)
                      obtain ⟨go29,co29,eo29,gb29,gl29,cl29,HG29⟩:=Kd.R_form HO_7.out (by omega)
                      (first|cases eo29|(injection eo29 with ea_ en_ ec_;(first|subst ea_|(injection ea_ with ea_;subst ea_));subst ec_;clear en_))
                      have GB29:=Aside0.mk gb29
                      have GG29:=Aside0.mk HG29
                      clear gb29 gl29 HG29
                      obtain ⟨hx29_0,hf29_0⟩:=Kd.R_celln 0 HO_7.out ((ji26):Int) p29 q29
                      replace p29:=eq_true p29
                      replace q29:=eq_true q29
                      have HP30:=Kd.R_putg HO_7.out ((ji26):Int) ((x9_2)%4294967296)
                      go_wp2_with (first|((with_reducible refine gate_store (t:=130) (p:=70) rfl ?_);(try (rw [drewN_self wr];generalize hq_:World.drewN wr _=wr;have n0_:=Aside0.mk (Kd.R_at hq_ HO_5.out);have n1_:=Aside0.mk (Kd.R_at hq_ HO_6.out);have n2_:=Aside0.mk (Kd.R_at hq_ HO_7.out);have n3_:=Aside0.mk (below_at hq_ HB.out);clear hq_ HO_5 HO_6 HO_7 HB;have HO_5:=n0_;have HO_6:=n1_;have HO_7:=n2_;have HB:=n3_;clear n0_ n1_ n2_ n3_;(try (have HP30:=Kd.R_putg HO_7.out ((ji26):Int) ((x9_2)%4294967296)))));refine store_event (t:=130) (p:=70) (v:=?vo_w31) (w1:=(wr.setCell ⟨go29,((ji26):Int).toNat,none⟩ (.int .u32 ((x9_2)%4294967296)))) ?hg ?ho ?hn ?hr ?_;(case ho=>rfl);(case hg=>rfl);(case hn=>rfl);(case hr=>first|(go_simp;done)|(go_simp;rfl));intro w31 hw;have hg:wr.grownBy w31 (some go29):=(by rw [hw];exact HP30.2);have hp_:Kd.R (Kd.int .u32) 130 w31 w.heap.size (fun k_=>some k_≠(.slice Ao10 t281.length co10:Value).ownBlock∧some k_≠(.slice Ao11 t284.length co11:Value).ownBlock) (.slice (some ⟨go29,0,none⟩) x7_2.length co29) y300:=(by rw [hw,Ny300.out];exact HP30.1);clear HP30;have n0_:=Aside0.mk (Kd.R_after (v:=(.slice (some ⟨go29,0,none⟩) x7_2.length co29)) (v1:=(.slice (some ⟨go29,0,none⟩) x7_2.length co29)) (ok:=(fun k_=>some k_≠(.slice Ao11 t284.length co11:Value).ownBlock)) (by (with_reducible repeat (first|apply Kd.R_alloc|apply Kd.R_drewN|apply Kd.R_drew));exact HO_5.out) hg (.inl rfl));have n1_:=Aside0.mk (Kd.R_after (v:=(.slice (some ⟨go29,0,none⟩) x7_2.length co29)) (v1:=(.slice (some ⟨go29,0,none⟩) x7_2.length co29)) (ok:=(fun k_=>some k_≠(.slice Ao10 t281.length co10:Value).ownBlock)) (by (with_reducible repeat (first|apply Kd.R_alloc|apply Kd.R_drewN|apply Kd.R_drew));exact HO_6.out) hg (.inl rfl));have n2_:=Aside0.mk (hp_);have n3_:=Aside0.mk ((by rw [hw];exact below_set (HB.out) GB29.out:Below w.heap.size w w31));clear HO_5;clear HO_6;clear HO_7;clear HB;have HO_5:=n0_;have HO_6:=n1_;have HO_7:=n2_;have HB:=n3_;clear n0_ n1_ n2_ n3_;clear hg hw hp_))
                      repeat (go_quiet (first|((with_reducible refine gate_store (t:=130) (p:=70) rfl ?_);(try (rw [drewN_self wr];generalize hq_:World.drewN wr _=wr;have n0_:=Aside0.mk (Kd.R_at hq_ HO_5.out);have n1_:=Aside0.mk (Kd.R_at hq_ HO_6.out);have n2_:=Aside0.mk (Kd.R_at hq_ HO_7.out);have n3_:=Aside0.mk (below_at hq_ HB.out);clear hq_ HO_5 HO_6 HO_7 HB;have HO_5:=n0_;have HO_6:=n1_;have HO_7:=n2_;have HB:=n3_;clear n0_ n1_ n2_ n3_;(try (have HP30:=Kd.R_putg HO_7.out ((ji26):Int) ((x9_2)%4294967296)))));refine store_event (t:=130) (p:=70) (v:=?vo_w31) (w1:=(wr.setCell ⟨go29,((ji26):Int).toNat,none⟩ (.int .u32 ((x9_2)%4294967296)))) ?hg ?ho ?hn ?hr ?_;(case ho=>rfl);(case hg=>rfl);(case hn=>rfl);(case hr=>first|(go_simp;done)|(go_simp;rfl));intro w31 hw;have hg:wr.grownBy w31 (some go29):=(by rw [hw];exact HP30.2);have hp_:Kd.R (Kd.int .u32) 130 w31 w.heap.size (fun k_=>some k_≠(.slice Ao10 t281.length co10:Value).ownBlock∧some k_≠(.slice Ao11 t284.length co11:Value).ownBlock) (.slice (some ⟨go29,0,none⟩) x7_2.length co29) y300:=(by rw [hw,Ny300.out];exact HP30.1);clear HP30;have n0_:=Aside0.mk (Kd.R_after (v:=(.slice (some ⟨go29,0,none⟩) x7_2.length co29)) (v1:=(.slice (some ⟨go29,0,none⟩) x7_2.length co29)) (ok:=(fun k_=>some k_≠(.slice Ao11 t284.length co11:Value).ownBlock)) (by (with_reducible repeat (first|apply Kd.R_alloc|apply Kd.R_drewN|apply Kd.R_drew));exact HO_5.out) hg (.inl rfl));have n1_:=Aside0.mk (Kd.R_after (v:=(.slice (some ⟨go29,0,none⟩) x7_2.length co29)) (v1:=(.slice (some ⟨go29,0,none⟩) x7_2.length co29)) (ok:=(fun k_=>some k_≠(.slice Ao10 t281.length co10:Value).ownBlock)) (by (with_reducible repeat (first|apply Kd.R_alloc|apply Kd.R_drewN|apply Kd.R_drew));exact HO_6.out) hg (.inl rfl));have n2_:=Aside0.mk (hp_);have n3_:=Aside0.mk ((by rw [hw];exact below_set (HB.out) GB29.out:Below w.heap.size w w31));clear HO_5;clear HO_6;clear HO_7;clear HB;have HO_5:=n0_;have HO_6:=n1_;have HO_7:=n2_;have HB:=n3_;clear n0_ n1_ n2_ n3_;clear hg hw hp_));try go_wp2_with (first|((with_reducible refine gate_store (t:=130) (p:=70) rfl ?_);(try (rw [drewN_self wr];generalize hq_:World.drewN wr _=wr;have n0_:=Aside0.mk (Kd.R_at hq_ HO_5.out);have n1_:=Aside0.mk (Kd.R_at hq_ HO_6.out);have n2_:=Aside0.mk (Kd.R_at hq_ HO_7.out);have n3_:=Aside0.mk (below_at hq_ HB.out);clear hq_ HO_5 HO_6 HO_7 HB;have HO_5:=n0_;have HO_6:=n1_;have HO_7:=n2_;have HB:=n3_;clear n0_ n1_ n2_ n3_;(try (have HP30:=Kd.R_putg HO_7.out ((ji26):Int) ((x9_2)%4294967296)))));refine store_event (t:=130) (p:=70) (v:=?vo_w31) (w1:=(wr.setCell ⟨go29,((ji26):Int).toNat,none⟩ (.int .u32 ((x9_2)%4294967296)))) ?hg ?ho ?hn ?hr ?_;(case ho=>rfl);(case hg=>rfl);(case hn=>rfl);(case hr=>first|(go_simp;done)|(go_simp;rfl));intro w31 hw;have hg:wr.grownBy w31 (some go29):=(by rw [hw];exact HP30.2);have hp_:Kd.R (Kd.int .u32) 130 w31 w.heap.size (fun k_=>some k_≠(.slice Ao10 t281.length co10:Value).ownBlock∧some k_≠(.slice Ao11 t284.length co11:Value).ownBlock) (.slice (some ⟨go29,0,none⟩) x7_2.length co29) y300:=(by rw [hw,Ny300.out];exact HP30.1);clear HP30;have n0_:=Aside0.mk (Kd.R_after (v:=(.slice (some ⟨go29,0,none⟩) x7_2.length co29)) (v1:=(.slice (some ⟨go29,0,none⟩) x7_2.length co29)) (ok:=(fun k_=>some k_≠(.slice Ao11 t284.length co11:Value).ownBlock)) (by (with_reducible repeat (first|apply Kd.R_alloc|apply Kd.R_drewN|apply Kd.R_drew));exact HO_5.out) hg (.inl rfl));have n1_:=Aside0.mk (Kd.R_after (v:=(.slice (some ⟨go29,0,none⟩) x7_2.length co29)) (v1:=(.slice (some ⟨go29,0,none⟩) x7_2.length co29)) (ok:=(fun k_=>some k_≠(.slice Ao10 t281.length co10:Value).ownBlock)) (by (with_reducible repeat (first|apply Kd.R_alloc|apply Kd.R_drewN|apply Kd.R_drew));exact HO_6.out) hg (.inl rfl));have n2_:=Aside0.mk (hp_);have n3_:=Aside0.mk ((by rw [hw];exact below_set (HB.out) GB29.out:Below w.heap.size w w31));clear HO_5;clear HO_6;clear HO_7;clear HB;have HO_5:=n0_;have HO_6:=n1_;have HO_7:=n2_;have HB:=n3_;clear n0_ n1_ n2_ n3_;clear hg hw hp_)))
                      go_roundg k2
                      case measure=>have:=HK1.out;have:=HK2.out;omega
                      case rel=>exact ⟨(y300),(wrap64 (x8_1+1)),(by first|rfl|(simp;done)|(simp [*];done)),H',⟨by have:=HK1.out;have:=HK2.out;omega⟩,⟨by (with_reducible repeat (first|apply Kd.R_alloc|apply Kd.R_drewN|apply Kd.R_drew));exact HO_5.out⟩,⟨by (with_reducible repeat (first|apply Kd.R_alloc|apply Kd.R_drewN|apply Kd.R_drew));exact HO_6.out⟩,⟨by (with_reducible repeat (first|apply Kd.R_alloc|apply Kd.R_drewN|apply Kd.R_drew));exact HO_7.out⟩,⟨by repeat (first|(with_reducible first|exact HB.out|apply below_alloc|apply pw_below_drewN|apply below_drew1)|exact HB.out)⟩⟩
                    · rw [if_neg c28] at H
                      exact absurd H (by simp)
                  · rw [if_neg c27] at H
                    exact absurd H (by simp)
          · rw [if_neg c14] at H
            have c14b0:decide (x8_1<(t281.length:Int))=false:=decide_eq_false c14
            clear c14
            replace H:=Option.bind_eq_some_iff.mp H
            obtain ⟨t290,A320,H⟩:=H
            replace H:((gimbalref90_whole.f k1 t290).bind fun t293=>(some t293))=some r:=H
            have A32:=Aside0.mk A320
            clear A320
            replace H:=Option.bind_eq_some_iff.mp H
            obtain ⟨t293,A330,H⟩:=H
            replace H:(some t293)=some r:=H
            have A33:=Aside0.mk A330
            clear A330
            obtain rfl:=Option.some.inj H
            obtain ⟨Ao34,co34,eo34⟩:=Kd.R_slice HO_7.out
            subst eo34
            go_wp2_with (first|(go_at_call 120;(with_reducible refine (gimbalref90_cut.calls k1 (fun k_=>some k_=(.slice Ao34 x7_1.length co34:Value).ownBlock) (.slice Ao34 x7_1.length co34) x7_1 t290 w _ ?side1 ?side2 A32.out).mono ?_);(case side1=>repeat (first|(with_reducible first|exact HB.out|apply below_alloc|apply pw_below_drewN|apply below_drew1)|exact HB.out));(case side2=>exact Kd.R_tight rfl HO_7.out);rintro e w35 ⟨v291,rfl,ho0,hb,hkp⟩;have n0_:=Aside0.mk (Kd.R_mono (ok':=fun k_=>some k_≠(.slice Ao11 t284.length co11:Value).ownBlock∧some k_≠(v291:Value).ownBlock) (Kd.R_keptB (HO_5.out) hkp (fun k_ hk_ hs_=>(hk_.2) hs_)) (fun k_ hk_=>⟨hk_.1.1,fun e_=>Or.elim (ho0.1 k_ e_.symm) (fun hs_=>hk_.2.1 hs_) (fun hn_=>Nat.not_le.2 hk_.2.2 hn_)⟩));have n1_:=Aside0.mk (Kd.R_mono (ok':=fun k_=>some k_≠(.slice Ao10 t281.length co10:Value).ownBlock∧some k_≠(v291:Value).ownBlock) (Kd.R_keptB (HO_6.out) hkp (fun k_ hk_ hs_=>(hk_.2) hs_)) (fun k_ hk_=>⟨hk_.1.1,fun e_=>Or.elim (ho0.1 k_ e_.symm) (fun hs_=>hk_.2.1 hs_) (fun hn_=>Nat.not_le.2 hk_.2.2 hn_)⟩));have n2_:=Aside0.mk (Kd.R_mono (ok':=fun k_=>some k_≠(.slice Ao10 t281.length co10:Value).ownBlock∧some k_≠(.slice Ao11 t284.length co11:Value).ownBlock) ho0 (fun k_ hk_=>⟨Or.elim hk_ (fun hs_=>fun e_=>(((HO_5.out).1 k_ e_.symm).2) hs_) (fun hn_=>(Kd.fresh' (Kd.R_lt (by (with_reducible repeat (first|apply Kd.R_alloc|apply Kd.R_drewN|apply Kd.R_drew));exact HO_5.out)) k_ hn_)),Or.elim hk_ (fun hs_=>fun e_=>(((HO_6.out).1 k_ e_.symm).2) hs_) (fun hn_=>(Kd.fresh' (Kd.R_lt (by (with_reducible repeat (first|apply Kd.R_alloc|apply Kd.R_drewN|apply Kd.R_drew));exact HO_6.out)) k_ hn_))⟩));have n3_:=Aside0.mk (hb);clear HO_5;clear HO_6;clear HB;clear HO_7;have HO_5:=n0_;have HO_6:=n1_;have HO292:=n2_;have HB:=n3_;clear n0_ n1_ n2_ n3_;(try clear hb);(try clear hkp);(try clear ho0);obtain ⟨Ao36,co36,eo36⟩:=Kd.R_slice HO292.out;subst eo36)|(go_at_call 117;(with_reducible refine (gimbalref90_whole.calls k1 _ _ t290 t293 _ ?side1 ?side2 A33.out).mono ?_);(case side1=>repeat (first|exact (Kd.R_reads' HO292.out).2.2|(with_reducible refine Kd.C_alloc ?_ _)|(with_reducible refine Kd.C_drewN ?_ _)|(with_reducible refine Kd.C_drew ?_)));(case side2=>exact (Kd.R_reads' HO292.out).2.1);rintro e w37 ⟨v294,rfl,ho0,hb⟩;have n0_:=Aside0.mk (Kd.R_below (by (with_reducible repeat (first|apply Kd.R_alloc|apply Kd.R_drewN|apply Kd.R_drew));exact HO_5.out) hb);have n1_:=Aside0.mk (Kd.R_below (by (with_reducible repeat (first|apply Kd.R_alloc|apply Kd.R_drewN|apply Kd.R_drew));exact HO_6.out) hb);have n2_:=Aside0.mk (Kd.R_below (by (with_reducible repeat (first|apply Kd.R_alloc|apply Kd.R_drewN|apply Kd.R_drew));exact HO292.out) hb);have n3_:=Aside0.mk (Kd.R_lower ho0 (below_size (by repeat (first|(with_reducible first|exact HB.out|apply below_alloc|apply pw_below_drewN|apply below_drew1)|exact HB.out))));have n4_:=Aside0.mk (below_step (by repeat (first|(with_reducible first|exact HB.out|apply below_alloc|apply pw_below_drewN|apply below_drew1)|exact HB.out)) hb);clear HO_5;clear HO_6;clear HO292;clear HB;have HO_5:=n0_;have HO_6:=n1_;have HO292:=n2_;have HO295:=n3_;have HB:=n4_;clear n0_ n1_ n2_ n3_ n4_;(try clear hb);(try clear hb2);(try clear hk);(try clear hi);(try clear ho0)))
            repeat (go_quiet (first|(go_at_call 120;(with_reducible refine (gimbalref90_cut.calls k1 (fun k_=>some k_=(.slice Ao34 x7_1.length co34:Value).ownBlock) (.slice Ao34 x7_1.length co34) x7_1 t290 w _ ?side1 ?side2 A32.out).mono ?_);(case side1=>repeat (first|(with_reducible first|exact HB.out|apply below_alloc|apply pw_below_drewN|apply below_drew1)|exact HB.out));(case side2=>exact Kd.R_tight rfl HO_7.out);rintro e w35 ⟨v291,rfl,ho0,hb,hkp⟩;have n0_:=Aside0.mk (Kd.R_mono (ok':=fun k_=>some k_≠(.slice Ao11 t284.length co11:Value).ownBlock∧some k_≠(v291:Value).ownBlock) (Kd.R_keptB (HO_5.out) hkp (fun k_ hk_ hs_=>(hk_.2) hs_)) (fun k_ hk_=>⟨hk_.1.1,fun e_=>Or.elim (ho0.1 k_ e_.symm) (fun hs_=>hk_.2.1 hs_) (fun hn_=>Nat.not_le.2 hk_.2.2 hn_)⟩));have n1_:=Aside0.mk (Kd.R_mono (ok':=fun k_=>some k_≠(.slice Ao10 t281.length co10:Value).ownBlock∧some k_≠(v291:Value).ownBlock) (Kd.R_keptB (HO_6.out) hkp (fun k_ hk_ hs_=>(hk_.2) hs_)) (fun k_ hk_=>⟨hk_.1.1,fun e_=>Or.elim (ho0.1 k_ e_.symm) (fun hs_=>hk_.2.1 hs_) (fun hn_=>Nat.not_le.2 hk_.2.2 hn_)⟩));have n2_:=Aside0.mk (Kd.R_mono (ok':=fun k_=>some k_≠(.slice Ao10 t281.length co10:Value).ownBlock∧some k_≠(.slice Ao11 t284.length co11:Value).ownBlock) ho0 (fun k_ hk_=>⟨Or.elim hk_ (fun hs_=>fun e_=>(((HO_5.out).1 k_ e_.symm).2) hs_) (fun hn_=>(Kd.fresh' (Kd.R_lt (by (with_reducible repeat (first|apply Kd.R_alloc|apply Kd.R_drewN|apply Kd.R_drew));exact HO_5.out)) k_ hn_)),Or.elim hk_ (fun hs_=>fun e_=>(((HO_6.out).1 k_ e_.symm).2) hs_) (fun hn_=>(Kd.fresh' (Kd.R_lt (by (with_reducible repeat (first|apply Kd.R_alloc|apply Kd.R_drewN|apply Kd.R_drew));exact HO_6.out)) k_ hn_))⟩));have n3_:=Aside0.mk (hb);clear HO_5;clear HO_6;clear HB;clear HO_7;have HO_5:=n0_;have HO_6:=n1_;have HO292:=n2_;have HB:=n3_;clear n0_ n1_ n2_ n3_;(try clear hb);(try clear hkp);(try clear ho0);obtain ⟨Ao36,co36,eo36⟩:=Kd.R_slice HO292.out;subst eo36)|(go_at_call 117;(with_reducible refine (gimbalref90_whole.calls k1 _ _ t290 t293 _ ?side1 ?side2 A33.out).mono ?_);(case side1=>repeat (first|exact (Kd.R_reads' HO292.out).2.2|(with_reducible refine Kd.C_alloc ?_ _)|(with_reducible refine Kd.C_drewN ?_ _)|(with_reducible refine Kd.C_drew ?_)));(case side2=>exact (Kd.R_reads' HO292.out).2.1);rintro e w37 ⟨v294,rfl,ho0,hb⟩;have n0_:=Aside0.mk (Kd.R_below (by (with_reducible repeat (first|apply Kd.R_alloc|apply Kd.R_drewN|apply Kd.R_drew));exact HO_5.out) hb);have n1_:=Aside0.mk (Kd.R_below (by (with_reducible repeat (first|apply Kd.R_alloc|apply Kd.R_drewN|apply Kd.R_drew));exact HO_6.out) hb);have n2_:=Aside0.mk (Kd.R_below (by (with_reducible repeat (first|apply Kd.R_alloc|apply Kd.R_drewN|apply Kd.R_drew));exact HO292.out) hb);have n3_:=Aside0.mk (Kd.R_lower ho0 (below_size (by repeat (first|(with_reducible first|exact HB.out|apply below_alloc|apply pw_below_drewN|apply below_drew1)|exact HB.out))));have n4_:=Aside0.mk (below_step (by repeat (first|(with_reducible first|exact HB.out|apply below_alloc|apply pw_below_drewN|apply below_drew1)|exact HB.out)) hb);clear HO_5;clear HO_6;clear HO292;clear HB;have HO_5:=n0_;have HO_6:=n1_;have HO292:=n2_;have HO295:=n3_;have HB:=n4_;clear n0_ n1_ n2_ n3_ n4_;(try clear hb);(try clear hb2);(try clear hk);(try clear hi);(try clear ho0)));try go_wp2_with (first|(go_at_call 120;(with_reducible refine (gimbalref90_cut.calls k1 (fun k_=>some k_=(.slice Ao34 x7_1.length co34:Value).ownBlock) (.slice Ao34 x7_1.length co34) x7_1 t290 w _ ?side1 ?side2 A32.out).mono ?_);(case side1=>repeat (first|(with_reducible first|exact HB.out|apply below_alloc|apply pw_below_drewN|apply below_drew1)|exact HB.out));(case side2=>exact Kd.R_tight rfl HO_7.out);rintro e w35 ⟨v291,rfl,ho0,hb,hkp⟩;have n0_:=Aside0.mk (Kd.R_mono (ok':=fun k_=>some k_≠(.slice Ao11 t284.length co11:Value).ownBlock∧some k_≠(v291:Value).ownBlock) (Kd.R_keptB (HO_5.out) hkp (fun k_ hk_ hs_=>(hk_.2) hs_)) (fun k_ hk_=>⟨hk_.1.1,fun e_=>Or.elim (ho0.1 k_ e_.symm) (fun hs_=>hk_.2.1 hs_) (fun hn_=>Nat.not_le.2 hk_.2.2 hn_)⟩));have n1_:=Aside0.mk (Kd.R_mono (ok':=fun k_=>some k_≠(.slice Ao10 t281.length co10:Value).ownBlock∧some k_≠(v291:Value).ownBlock) (Kd.R_keptB (HO_6.out) hkp (fun k_ hk_ hs_=>(hk_.2) hs_)) (fun k_ hk_=>⟨hk_.1.1,fun e_=>Or.elim (ho0.1 k_ e_.symm) (fun hs_=>hk_.2.1 hs_) (fun hn_=>Nat.not_le.2 hk_.2.2 hn_)⟩));have n2_:=Aside0.mk (Kd.R_mono (ok':=fun k_=>some k_≠(.slice Ao10 t281.length co10:Value).ownBlock∧some k_≠(.slice Ao11 t284.length co11:Value).ownBlock) ho0 (fun k_ hk_=>⟨Or.elim hk_ (fun hs_=>fun e_=>(((HO_5.out).1 k_ e_.symm).2) hs_) (fun hn_=>(Kd.fresh' (Kd.R_lt (by (with_reducible repeat (first|apply Kd.R_alloc|apply Kd.R_drewN|apply Kd.R_drew));exact HO_5.out)) k_ hn_)),Or.elim hk_ (fun hs_=>fun e_=>(((HO_6.out).1 k_ e_.symm).2) hs_) (fun hn_=>(Kd.fresh' (Kd.R_lt (by (with_reducible repeat (first|apply Kd.R_alloc|apply Kd.R_drewN|apply Kd.R_drew));exact HO_6.out)) k_ hn_))⟩));have n3_:=Aside0.mk (hb);clear HO_5;clear HO_6;clear HB;clear HO_7;have HO_5:=n0_;have HO_6:=n1_;have HO292:=n2_;have HB:=n3_;clear n0_ n1_ n2_ n3_;(try clear hb);(try clear hkp);(try clear ho0);obtain ⟨Ao36,co36,eo36⟩:=Kd.R_slice HO292.out;subst eo36)|(go_at_call 117;(with_reducible refine (gimbalref90_whole.calls k1 _ _ t290 t293 _ ?side1 ?side2 A33.out).mono ?_);(case side1=>repeat (first|exact (Kd.R_reads' HO292.out).2.2|(with_reducible refine Kd.C_alloc ?_ _)|(with_reducible refine Kd.C_drewN ?_ _)|(with_reducible refine Kd.C_drew ?_)));(case side2=>exact (Kd.R_reads' HO292.out).2.1);rintro e w37 ⟨v294,rfl,ho0,hb⟩;have n0_:=Aside0.mk (Kd.R_below (by (with_reducible repeat (first|apply Kd.R_alloc|apply Kd.R_drewN|apply Kd.R_drew));exact HO_5.out) hb);have n1_:=Aside0.mk (Kd.R_below (by (with_reducible repeat (first|apply Kd.R_alloc|apply Kd.R_drewN|apply Kd.R_drew));exact HO_6.out) hb);have n2_:=Aside0.mk (Kd.R_below (by (with_reducible repeat (first|apply Kd.R_alloc|apply Kd.R_drewN|apply Kd.R_drew));exact HO292.out) hb);have n3_:=Aside0.mk (Kd.R_lower ho0 (below_size (by repeat (first|(with_reducible first|exact HB.out|apply below_alloc|apply pw_below_drewN|apply below_drew1)|exact HB.out))));have n4_:=Aside0.mk (below_step (by repeat (first|(with_reducible first|exact HB.out|apply below_alloc|apply pw_below_drewN|apply below_drew1)|exact HB.out)) hb);clear HO_5;clear HO_6;clear HO292;clear HB;have HO_5:=n0_;have HO_6:=n1_;have HO292:=n2_;have HO295:=n3_;have HB:=n4_;clear n0_ n1_ n2_ n3_ n4_;(try clear hb);(try clear hb2);(try clear hk);(try clear hi);(try clear ho0))))
            go_ret
            exact ⟨_,by first|rfl|(simp [errW_none,errW_some]<;>rfl)|(simp only [← hji5];first|rfl|(simp [errW_none,errW_some]<;>rfl))|(simp [*,errW_none,errW_some]<;>rfl),by (with_reducible repeat (first|apply Kd.R_alloc|apply Kd.R_drewN|apply Kd.R_drew));exact HO295.out,by repeat (first|(with_reducible first|exact HB.out|apply below_alloc|apply pw_below_drewN|apply below_drew1)|exact HB.out)⟩
    · rw [if_neg c7] at H
      exact absurd H (by simp)
  · rw [if_neg c6] at H
    exact absurd H (by simp)
end Go.Proofs.YtmnkaldemjdcoaaGreat.QN90
end
section
namespace Go.Proofs.YtmnkaldemjdcoaaGreatW.Aid
open RowKit YtmnkaldemjdcoaaGreatW.PrintWords YtmnkaldemjdcoaaGreatW.PrintMore
theorem Ev.shift {α:Type} {g:Nat→Option α} {r:α} (h:Ev (fun k=>g (k+1)) r):Ev g r:=by
  obtain ⟨K,h⟩:=h
  refine ⟨K+1,fun k hk=>?_⟩
  obtain ⟨j,rfl⟩:∃ j,k=j+1:=⟨k-1,by omega⟩
  exact h j (by omega)
theorem Ev.pure {α:Type} {g:Nat→Option α} {r:α} (h:∀ k,g k=some r):Ev g r:=⟨0,fun k _=>h k⟩
theorem Ev.to {α:Type} {g:Nat→Option α} {r r':α} (h:Ev g r) (e:r=r'):Ev g r':=e ▸ h
theorem wrap64_id {x:Int} (h : -9223372036854775808≤x) (h':x≤9223372036854775807):wrap64 x=x:=by unfold wrap64;omega
theorem u64_wrap (x:Int):IntKind.u64.wrap x=x%18446744073709551616:=by
  simp [IntKind.wrap,IntKind.signed,IntKind.bits]
theorem u64_id {x:Int} (h:0≤x) (h':x≤18446744073709551615):IntKind.u64.wrap x=x:=by rw [u64_wrap];omega
theorem wf_i64 {x:Int} (h:(Lit.int .i64 x).wf=true) : -9223372036854775808≤x∧x≤9223372036854775807:=by
  simp [Lit.wf,IntKind.min,IntKind.max,IntKind.signed,IntKind.bits] at h
  omega
theorem rd_at {l:List Int} {i:Int} (h0:0≤i) (h:i<(l.length:Int)):∃ hj:i.toNat<l.length,rd l i=l[i.toNat]:=by
  have:i.toNat<l.length:=by omega
  exact ⟨this,by unfold rd;rw [List.getD_eq_getElem?_getD,List.getElem?_eq_getElem this];rfl⟩
theorem rd_mem {l:List Int} {i:Int} (h0:0≤i) (h:i<(l.length:Int)):rd l i∈l:=by
  obtain ⟨hj,e⟩:=rd_at h0 h
  rw [e];exact List.getElem_mem hj
end Go.Proofs.YtmnkaldemjdcoaaGreatW.Aid
end
section
set_option linter.unusedVariables false
namespace Go.Proofs.YtmnkaldemjdcoaaGreatW.Big
open RowKit YtmnkaldemjdcoaaGreatW.PrintWords YtmnkaldemjdcoaaGreatW.PrintMore YtmnkaldemjdcoaaGreatW.Aid
def limbs (n:Nat):List Int:=if h:n=0 then [] else ((n%18446744073709551616:Nat):Int)::limbs (n/18446744073709551616)
termination_by n
decreasing_by omega
def val:List Int→Nat
  | []=>0
  | x::r=>x.toNat+18446744073709551616*val r
theorem limbs_zero:limbs 0=[]:=by rw [limbs];simp
theorem limbs_pos {n:Nat} (h:n≠0):limbs n=((n%18446744073709551616:Nat):Int)::limbs (n/18446744073709551616):=by rw [limbs];simp [h]
theorem val_limbs (n:Nat):val (limbs n)=n:=by
  induction n using Nat.strongRecOn with
  | _ n ih =>
    by_cases h:n=0
    · subst h;rw [limbs_zero];rfl
    · rw [limbs_pos h,val,ih _ (by omega)]
      omega
def Dig (l:List Int):Prop:=∀ x∈l,0≤x∧x<18446744073709551616
def Canon (l:List Int):Prop:=Dig l∧(∀ h:l≠[],l.getLast h≠0)
theorem limbs_dig (n:Nat):Dig (limbs n):=by
  induction n using Nat.strongRecOn with
  | _ n ih =>
    by_cases h:n=0
    · subst h;rw [limbs_zero];intro x hx;simp at hx
    · rw [limbs_pos h]
      intro x hx
      rcases List.mem_cons.1 hx with rfl|hx
      · omega
      · exact ih _ (by omega) x hx
theorem limbs_ne {n:Nat}:limbs n=[]↔n=0:=by
  constructor
  · intro h
    have:=val_limbs n
    rw [h] at this
    exact this.symm
  · rintro rfl;exact limbs_zero
theorem limbs_canon (n:Nat):Canon (limbs n):=by
  refine ⟨limbs_dig n,?_⟩
  induction n using Nat.strongRecOn with
  | _ n ih =>
    intro h
    have hn:n≠0:=fun e=>h (limbs_ne.2 e)
    simp only [limbs_pos hn]
    by_cases hq:n/18446744073709551616=0
    · simp only [hq,limbs_zero,List.getLast_singleton]
      omega
    · have hne:limbs (n/18446744073709551616)≠[]:=fun e=>hq (limbs_ne.1 e)
      rw [List.getLast_cons hne]
      exact ih _ (by omega) hne
theorem Canon.limbs {l:List Int} (h:Canon l):l=limbs (val l):=by
  induction l with
  | nil=>rw [val,limbs_zero]
  | cons x r ih =>
    have hx:=h.1 x (by simp)
    have hr:Canon r:=⟨fun y hy=>h.1 y (List.mem_cons_of_mem _ hy),fun hne=>by have:=h.2 (by simp);rw [List.getLast_cons hne] at this;exact this⟩
    have hv:val (x::r)≠0:=by
      intro e
      simp only [val] at e
      cases r with
      | nil=>have:=h.2 (by simp);simp at this;omega
      | cons y r' =>
        have:Big.limbs (val (y::r'))=[]:=limbs_ne.2 (by omega)
        rw [← ih hr] at this
        simp at this
    rw [limbs_pos hv]
    have e1:val (x::r)%18446744073709551616=x.toNat:=by simp only [val];omega
    have e2:val (x::r)/18446744073709551616=val r:=by simp only [val];omega
    rw [e1,e2,← ih hr]
    congr 1
    omega
theorem limbs_len {n k:Nat} (h:n<18446744073709551616 ^ k):(limbs n).length≤k:=by
  induction k generalizing n with
  | zero => have : n = 0 := by simpa using h
            subst this;simp [limbs_zero]
  | succ k ih =>
    by_cases hn:n=0
    · subst hn;simp [limbs_zero]
    · rw [limbs_pos hn,List.length_cons]
      have:n/18446744073709551616<18446744073709551616 ^ k:=by
        rw [Nat.div_lt_iff_lt_mul (by omega)]
        rw [Nat.pow_succ] at h
        exact h
      have:=ih this
      omega
theorem lt_limbs (n:Nat):n<18446744073709551616 ^ (limbs n).length:=by
  induction n using Nat.strongRecOn with
  | _ n ih =>
    by_cases h:n=0
    · subst h;simp [limbs_zero]
    · rw [limbs_pos h,List.length_cons,Nat.pow_succ]
      have:=ih (n/18446744073709551616) (by omega)
      rw [Nat.div_lt_iff_lt_mul (by omega)] at this
      exact this
def sgn (x:Int):Bool:=decide (x<0)
def lm (x:Int):List Int:=limbs x.natAbs
def Rd (w:World) (l:List Int) (A:Option Addr) (c:Nat):Prop:=l.length≤c∧Kd.C (Kd.int .u64) w A l.length l
theorem Rd.below {w w1:World} {l:List Int} {A:Option Addr} {c:Nat} (h:Rd w l A c) (hb:Below w.heap.size w w1):Rd w1 l A c:=⟨h.1,Kd.C_below h.2 hb⟩
theorem Rd.nil (w:World):Rd w [] none 0:=⟨Nat.le_refl _,Kd.C_nil _ _⟩
end Go.Proofs.YtmnkaldemjdcoaaGreatW.Big
end
section
set_option linter.unusedVariables false
namespace Go.Proofs.YtmnkaldemjdcoaaGreatW.Big
open RowKit YtmnkaldemjdcoaaGreatW.PrintWords YtmnkaldemjdcoaaGreatW.PrintMore YtmnkaldemjdcoaaGreatW.Aid
theorem val_append (a b:List Int):val (a++b)=val a+18446744073709551616 ^ a.length*val b:=by
  induction a with
  | nil=>simp [val]
  | cons x a ih =>
    simp only [List.cons_append,val,ih,List.length_cons,Nat.pow_succ,Nat.mul_add]
    rw [Nat.mul_comm (18446744073709551616 ^ a.length) 18446744073709551616,Nat.mul_assoc,Nat.add_assoc]
theorem val_zeros (n:Nat):val (List.replicate n 0)=0:=by
  induction n with
  | zero=>rfl
  | succ n ih=>simp [List.replicate_succ,val,ih]
theorem Dig.take {l:List Int} (h:Dig l) (n:Nat):Dig (l.take n):=fun x hx=>h x (List.mem_of_mem_take hx)
theorem Dig.drop {l:List Int} (h:Dig l) (n:Nat):Dig (l.drop n):=fun x hx=>h x (List.mem_of_mem_drop hx)
theorem Dig.append {a b:List Int} (h:Dig a) (h':Dig b):Dig (a++b):=fun x hx=>(List.mem_append.1 hx).elim (h x) (h' x)
theorem Dig.set {l:List Int} (h:Dig l) (i:Nat) {v:Int} (h0:0≤v) (h1:v<18446744073709551616):Dig (l.set i v):=fun x hx=>by
  rcases List.mem_or_eq_of_mem_set hx with hx|rfl
  · exact h x hx
  · exact ⟨h0,h1⟩
theorem Dig.zeros (n:Nat):Dig (List.replicate n 0):=fun x hx=>by
  have:=List.eq_of_mem_replicate hx
  omega
theorem Dig.rd {l:List Int} (h:Dig l) {i:Int} (h0:0≤i) (h1:i<(l.length:Int)):0≤rd l i∧rd l i<18446744073709551616:=h _ (rd_mem h0 h1)
theorem rd_nat {l:List Int} {i:Nat} (h:i<l.length):rd l (i:Int)=l[i]:=by
  obtain ⟨hj,e⟩:=rd_at (l:=l) (i:=(i:Int)) (by omega) (by omega)
  rw [e];simp
theorem take_succ_rd {l:List Int} {i:Nat} (h:i<l.length):l.take (i+1)=l.take i++[rd l i]:=by
  rw [rd_nat h,List.take_succ_eq_append_getElem h]
theorem val_take_succ {l:List Int} {i:Nat} (h:i<l.length):val (l.take (i+1))=val (l.take i)+18446744073709551616 ^ i*(rd l i).toNat:=by
  rw [take_succ_rd h,val_append]
  simp [val,Nat.min_eq_left (Nat.le_of_lt h)]
theorem val_lt {l:List Int} (h:Dig l):val l<18446744073709551616 ^ l.length:=by
  induction l with
  | nil=>simp [val]
  | cons x l ih =>
    have hx:=h x (by simp)
    have:=ih (fun y hy=>h y (List.mem_cons_of_mem _ hy))
    rw [List.length_cons,Nat.pow_succ,val]
    have:18446744073709551616*(val l+1)≤18446744073709551616 ^ l.length*18446744073709551616:=by rw [Nat.mul_comm];exact Nat.mul_le_mul_right _ (by omega)
    omega
theorem set_take {l:List Int} {i:Nat} (v:Int) (h:i<l.length):(l.set i v).take (i+1)=l.take i++[v]:=by
  rw [List.take_succ_eq_append_getElem (by simpa using h),List.getElem_set_self,List.take_set_of_le (Nat.le_refl _)]
theorem val_set_take {l:List Int} {i:Nat} {v:Int} (h:i<l.length):val ((l.set i v).take (i+1))=val (l.take i)+18446744073709551616 ^ i*v.toNat:=by
  rw [set_take v h,val_append]
  simp [val,Nat.min_eq_left (Nat.le_of_lt h)]
theorem rd_set_ne {l:List Int} {i j:Nat} (v:Int) (h:i≠j):rd (l.set i v) (j:Int)=rd l (j:Int):=by
  unfold rd
  rw [List.getD_eq_getElem?_getD,List.getD_eq_getElem?_getD,Int.toNat_natCast,List.getElem?_set_ne h]
theorem rd_set_eq {l:List Int} {i:Nat} (v:Int) (h:i<l.length):rd (l.set i v) (i:Int)=v:=by
  rw [rd_nat (by simpa using h),List.getElem_set_self]
theorem rd_zeros {n i:Nat}:rd (List.replicate n 0) (i:Int)=0:=by
  unfold rd
  rw [List.getD_eq_getElem?_getD,Int.toNat_natCast]
  by_cases h:i<n
  · rw [List.getElem?_replicate,if_pos h];rfl
  · rw [List.getElem?_replicate,if_neg h];rfl
theorem limbs_of_take {l:List Int} (h:Dig l) {n:Nat} (hn:n≤l.length) (hz:∀ i,n≤i→i<l.length→rd l (i:Int)=0) (ht:0<n→rd l ((n-1:Nat):Int)≠0):l.take n=limbs (val l):=by
  have e:l=l.take n++List.replicate (l.length-n) 0:=by
    refine List.ext_getElem (by simp;omega) (fun j h1 h2=>?_)
    by_cases hj:j<n
    · rw [List.getElem_append_left (by simp;omega)]
      simp
    · rw [List.getElem_append_right (by simp;omega),List.getElem_replicate,← rd_nat h1]
      exact hz j (by omega) h1
  have hv:val l=val (l.take n):=by
    have:=congrArg val e
    rw [val_append,val_zeros] at this
    simpa using this
  rw [hv]
  refine Canon.limbs ⟨h.take n,fun hne=>?_⟩
  have hn0:0<n:=by
    rcases Nat.eq_zero_or_pos n with r|r
    · subst r;simp at hne
    · exact r
  have:=ht hn0
  rw [rd_nat (by omega)] at this
  rw [List.getLast_eq_getElem]
  simp only [List.length_take,Nat.min_eq_left hn,List.getElem_take]
  exact this
def lc (l:List Int):Array Value:=(l.map (Value.int .u64)).toArray
theorem lc_at {l:List Int} {i:Nat} (h:i<l.length):(lc l)[i]?=some (.int .u64 (rd l i)):=by
  rw [rd_nat h]
  simp [lc,h]
theorem lc_set (l:List Int) (i:Nat) (v:Int):(lc l).setIfInBounds i (.int .u64 v)=lc (l.set i v):=by
  simp [lc,List.map_set]
theorem lc_size (l:List Int):(lc l).size=l.length:=by simp [lc]
theorem Rd.of_block {w:World} {g:Nat} {t:TypeId} {l:List Int} (h:w.heap[g]?=some (.cells (lc l) t (0,0))) {n c:Nat} (hn:n≤l.length) (hc:n≤c) (hm:n≤9223372036854775807):Rd w (l.take n) (some ⟨g,0,none⟩) c:=by
  have hl:(l.take n).length=n:=by simp;omega
  refine ⟨by omega,?_⟩
  refine ⟨rfl,by omega,fun _=>⟨_,rfl,fun j p hj=>⟨[.int .u64 p],rfl,rfl,fun i u hu=>?_⟩⟩⟩
  have hi:i=0:=by
    cases i with
    | zero=>rfl
    | succ i=>simp at hu
  subst hi
  simp at hu
  subst hu
  have hjn:j<n:=by have:=(List.getElem?_eq_some_iff.1 hj).1;omega
  have e:p=rd l (j:Int):=by
    rw [rd_nat (by omega)]
    rw [List.getElem?_take_of_lt hjn,List.getElem?_eq_getElem (by omega)] at hj
    exact (Option.some.inj hj).symm
  have:=(blk_cell h j).trans (lc_at (l:=l) (i:=j) (by omega))
  rw [e,← this]
  show w.cell? ((⟨g,0,none⟩:Addr).add (j*1+0))=_
  congr 1
  simp [Addr.add]
  omega
theorem Rd.pre {w:World} {l:List Int} {A:Option Addr} {c n c':Nat} (h:Rd w l A c) (hn:n≤l.length) (hc:n≤c'):Rd w (l.take n) A c':=by
  have hl:(l.take n).length=n:=by simp;omega
  refine ⟨by omega,?_⟩
  refine ⟨rfl,by have:=h.2.2.1;omega,fun hpos=>?_⟩
  obtain ⟨ad,hA,hc⟩:=h.2.2.2 (by omega)
  refine ⟨ad,hA,fun j p hj=>hc j p ?_⟩
  have hjn:j<n:=by have:=(List.getElem?_eq_some_iff.1 hj).1;omega
  rwa [List.getElem?_take_of_lt hjn] at hj
theorem Rd.of_eq {w:World} {l l':List Int} {A:Option Addr} {c:Nat} (h:Rd w l A c) (e:l=l'):Rd w l' A c:=e ▸ h
end Go.Proofs.YtmnkaldemjdcoaaGreatW.Big
set_option linter.unusedVariables false
namespace Go.Proofs.YtmnkaldemjdcoaaGreat.Limbs
open RowKit YtmnkaldemjdcoaaGreatW.PrintWords YtmnkaldemjdcoaaGreatW.PrintLast YtmnkaldemjdcoaaGreatW.PrintMore YtmnkaldemjdcoaaGreatW.Aid YtmnkaldemjdcoaaGreatW.Big
theorem ret_slice {A:Option Addr} {n n' c:Nat} (h:n=n'):Ending.returned (.slice A n c) = .returned (.slice A n' c):=by rw [h]
def RetRd (l:List Int) (w:World) (e:Ending) (w':World):Prop:=∃ A c,e = .returned (.slice A l.length c)∧Rd w' l A c∧Below w.heap.size w w'
section
set_option maxRecDepth 10000
set_option maxHeartbeats 400000
theorem trim_calls (l:List Int) (A:Option Addr) (c:Nat) (w:World) (hd:Dig l) (hr:Rd w l A c):Calls Tryz.prog 126 #[.slice A l.length c] w (RetRd (limbs (val l)) w):=by
  have HR:=Aside0.mk hr
  have HD:=Aside0.mk hd
  have hlen:l.length≤9223372036854775807:=hr.2.2.1
  have hle:=hr.1
  clear hr hd
  go_enter Tryz.func126,Tryz.ntmps126
  go_wp2_with fail
  go_loop [3] (fun v3=>∃ n:Nat,n≤l.length∧v3 = .int .i64 n∧Aside0 (∀ i,n≤i→i<l.length→rd l (i:Int)=0)) (fun v3=>(intOf v3).toNat)
  case atStart=>exact ⟨l.length,by omega,rfl,⟨fun i h1 h2=>by omega⟩⟩
  case round =>
    obtain ⟨n,hn,rfl,hz⟩:=hrel
    have last:(0<n→rd l ((n-1:Nat):Int)≠0)→Aside0 (l.take n=limbs (val l)):=fun ht=>⟨limbs_of_take HD.out hn hz.out ht⟩
    by_cases h0:n=0
    · subst h0
      have hl:=last (fun h=>by omega)
      clear last
      go_wp2
      go_ret
      exact ⟨A,0,ret_slice (by rw [← hl.out];rfl),(HR.out.pre (n:=0) (by omega) (Nat.le_refl _)).of_eq hl.out,Below.refl _ _⟩
    · obtain ⟨m,rfl⟩:∃ m,n=m+1:=⟨n-1,by omega⟩
      obtain ⟨ad,rfl,hcell⟩:=Kd.at_int HR.out.2 (m:Int) (by omega) (by omega)
      simp only [Int.toNat_natCast] at hcell
      have em:((m+1:Nat):Int)-1=(m:Int):=by omega
      by_cases hx:rd l (m:Int)=0
      · have hn0:Aside0 (∀ i,m≤i→i<l.length→rd l (i:Int)=0):=⟨fun i h1 h2=>by
          by_cases e:i=m
          · subst e;exact hx
          · exact hz.out i (by omega) h2⟩
        rw [hx] at hcell
        clear last hx
        go_wp2
        go_round
        case rel=>exact ⟨m,by omega,by go_num,hn0⟩
        case measure=>simp [intOf]
      · have hl:=last (fun _=>hx)
        have hxb:(rd l (m:Int) == 0)=false:=by simpa using hx
        clear last hx
        generalize rd l (m:Int)=x at *
        go_wp2
        go_ret
        exact ⟨some ad,m+1,ret_slice (by rw [← hl.out];simp;omega),(HR.out.pre (n:=m+1) (by omega) (Nat.le_refl _)).of_eq hl.out,Below.refl _ _⟩
def cmpR (x y:Nat):Int:=if x<y then -1 else if y<x then 1 else 0
theorem cmp_len {a b:Nat} (h:(limbs a).length<(limbs b).length):a<b:=by
  have h1:=lt_limbs a
  have h2:¬ b<18446744073709551616 ^ (limbs a).length:=fun hb=>by have:=limbs_len hb;omega
  omega
theorem val_split {l:List Int} {i:Nat} (h:i<l.length):val l=val (l.take i)+18446744073709551616 ^ i*((rd l i).toNat+18446744073709551616*val (l.drop (i+1))):=by
  have e:l=l.take (i+1)++l.drop (i+1):=(List.take_append_drop _ _).symm
  have:=congrArg val e
  rw [val_append,val_take_succ h] at this
  rw [this]
  have hl:(l.take (i+1)).length=i+1:=by simp;omega
  rw [hl,Nat.pow_succ,Nat.mul_add,Nat.mul_assoc]
  omega
theorem cmp_at {l l':List Int} (hd:Dig l) (hd':Dig l') {i:Nat} (h:i<l.length) (h':i<l'.length) (hdrop:l.drop (i+1)=l'.drop (i+1)) (hlt:rd l i<rd l' i):val l<val l':=by
  rw [val_split h,val_split h',hdrop]
  have h1:=val_lt (hd.take i)
  have h2:=hd.rd (i:=(i:Int)) (by omega) (by omega)
  have h3:=hd'.rd (i:=(i:Int)) (by omega) (by omega)
  have hl:(l.take i).length=i:=by simp;omega
  rw [hl] at h1
  have:18446744073709551616 ^ i*((rd l i).toNat+18446744073709551616*val (l'.drop (i+1))+1)≤18446744073709551616 ^ i*((rd l' i).toNat+18446744073709551616*val (l'.drop (i+1))):=Nat.mul_le_mul_left _ (by omega)
  rw [Nat.mul_add _ _ 1,Nat.mul_one] at this
  omega
theorem cmp_calls (a b:Nat) (A A':Option Addr) (c c':Nat) (w:World) (hr:Rd w (limbs a) A c) (hr':Rd w (limbs b) A' c'):Calls Tryz.prog 107 #[.slice A (limbs a).length c,.slice A' (limbs b).length c'] w fun e w'=>e = .returned (.int .i64 (cmpR a b))∧∃ n,w'=w.drewN n:=by
  have HR:=Aside0.mk hr
  have HR':=Aside0.mk hr'
  have hlen:(limbs a).length≤9223372036854775807:=hr.2.2.1
  have hlen':(limbs b).length≤9223372036854775807:=hr'.2.2.1
  clear hr hr'
  have va:=Aside0.mk (val_limbs a)
  have vb:=Aside0.mk (val_limbs b)
  have da:=Aside0.mk (limbs_dig a)
  have db:=Aside0.mk (limbs_dig b)
  have hlt0:=Aside0.mk (@cmp_len a b)
  have hgt0:=Aside0.mk (@cmp_len b a)
  generalize limbs a=l at *
  generalize limbs b=l' at *
  by_cases h1:l.length<l'.length
  · have e:Aside0 (cmpR a b = -1):=⟨by unfold cmpR;rw [if_pos (hlt0.out h1)]⟩
    rw [e.out]
    have hne:((l.length:Int) == (l'.length:Int))=false:=by rw [beq_eq_false_iff_ne];omega
    have hne2:(l.length == l'.length)=false:=by rw [beq_eq_false_iff_ne];omega
    have hlt:decide (l.length<l'.length)=true:=decide_eq_true h1
    go_enter Tryz.func107,Tryz.ntmps107
    go_wp2
    go_ret
    exact ⟨rfl,0,rfl⟩
  by_cases h2:l'.length<l.length
  · have e:Aside0 (cmpR a b=1):=⟨by have:=hgt0.out h2;unfold cmpR;rw [if_neg (by omega),if_pos this]⟩
    rw [e.out]
    have hne:((l.length:Int) == (l'.length:Int))=false:=by rw [beq_eq_false_iff_ne];omega
    have hne2:(l.length == l'.length)=false:=by rw [beq_eq_false_iff_ne];omega
    have hlt:decide (l.length<l'.length)=false:=decide_eq_false h1
    go_enter Tryz.func107,Tryz.ntmps107
    go_wp2
    go_ret
    exact ⟨rfl,0,rfl⟩
  have hl:Aside0 (l.length=l'.length):=⟨by omega⟩
  have heq:((l.length:Int) == (l'.length:Int))=true:=by rw [beq_iff_eq];omega
  have heq2:(l.length == l'.length)=true:=by rw [beq_iff_eq];omega
  have heq3:((l.length:Int) != (l'.length:Int))=false:=by rw [bne_eq_false_iff_eq];omega
  have heq4:(l.length != l'.length)=false:=by rw [bne_eq_false_iff_eq];omega
  clear h1 h2
  go_enter Tryz.func107,Tryz.ntmps107
  go_wp2_with fail
  go_loopw [5] (fun v5 wr=>∃ n:Nat,n≤l.length∧v5 = .int .i64 ((n:Int)-1)∧Aside0 (l.drop n=l'.drop n)∧Aside0 (∃ m,wr=w.drewN m)) (fun v5 _=>(intOf v5+1).toNat)
  case atStart=>exact ⟨l.length,by omega,rfl,⟨by rw [List.drop_length,hl.out,List.drop_length]⟩,⟨0,rfl⟩⟩
  case round =>
    obtain ⟨n,hn,rfl,hdrop,hW⟩:=hrel
    obtain ⟨m0,rfl⟩:=hW.out
    clear hW
    by_cases h0:n=0
    · subst h0
      have e:Aside0 (cmpR a b=0):=⟨by
        have h1:=hdrop.out
        simp only [List.drop_zero] at h1
        have:a=b:=by rw [← va.out,← vb.out,h1]
        subst this
        unfold cmpR
        rw [if_neg (by omega),if_neg (by omega)]⟩
      go_wp2
      go_ret
      exact ⟨by rw [e.out];rfl,m0,rfl⟩
    · obtain ⟨m,rfl⟩:∃ m,n=m+1:=⟨n-1,by omega⟩
      have em:((m+1:Nat):Int)-1=(m:Int):=by omega
      have hml:m<l.length:=by omega
      have hml':m<l'.length:=by have:=hl.out;omega
      obtain ⟨ad,rfl,hcell⟩:=Kd.at_int HR.out.2 (m:Int) (by omega) (by omega)
      obtain ⟨ad',rfl,hcell'⟩:=Kd.at_int HR'.out.2 (m:Int) (by omega) (by omega)
      simp only [Int.toNat_natCast] at hcell hcell'
      rw [em]
      have cl:rd l m<rd l' m→Aside0 (cmpR a b = -1):=fun h=>⟨by
        have:=cmp_at da.out db.out hml hml' hdrop.out h
        rw [va.out,vb.out] at this
        unfold cmpR
        rw [if_pos this]⟩
      have cg:rd l' m<rd l m→Aside0 (cmpR a b=1):=fun h=>⟨by
        have:=cmp_at db.out da.out hml' hml hdrop.out.symm h
        rw [va.out,vb.out] at this
        unfold cmpR
        rw [if_neg (by omega),if_pos this]⟩
      have ce:rd l m=rd l' m→Aside0 (l.drop m=l'.drop m):=fun h=>⟨by
        rw [List.drop_eq_getElem_cons hml,List.drop_eq_getElem_cons hml',hdrop.out,← rd_nat hml,← rd_nat hml',h]⟩
      generalize rd l m=x at *
      generalize rd l' m=y at *
      by_cases c1:x<y
      · have e:=cl c1
        clear cl cg ce
        have c1b:decide (x<y)=true:=decide_eq_true c1
        go_wp2
        go_quiet (fail)
        go_wp2
        go_ret
        exact ⟨by rw [e.out];rfl,_,World.drewN_drewN _ _ _⟩
      · by_cases c2:y<x
        · have e:=cg c2
          clear cl cg ce
          have c1b:decide (x<y)=false:=decide_eq_false c1
          have c2b:decide (y<x)=true:=decide_eq_true c2
          go_wp2
          go_quiet (fail)
          go_wp2
          go_quiet (fail)
          go_wp2
          go_ret
          exact ⟨by rw [e.out];rfl,_,by rw [World.drewN_drewN,World.drewN_drewN]⟩
        · have e:=ce (by omega)
          clear cl cg ce
          have c1b:decide (x<y)=false:=decide_eq_false c1
          have c2b:decide (y<x)=false:=decide_eq_false c2
          go_wp2
          go_quiet (fail)
          go_wp2
          go_quiet (fail)
          go_wp2
          go_roundw
          case rel =>
            first
            | exact ⟨m,by omega,by go_num,e,⟨_,rfl⟩⟩
            | (repeat apply Exists.intro;exact ⟨⟨m,by omega,rfl,e,⟨_,rfl⟩⟩,rfl⟩)
          case measure=>simp [intOf]
end
end Go.Proofs.YtmnkaldemjdcoaaGreat.Limbs
set_option linter.unusedVariables false
namespace Go.Proofs.YtmnkaldemjdcoaaGreat.Limbs
open RowKit YtmnkaldemjdcoaaGreatW.PrintWords YtmnkaldemjdcoaaGreatW.PrintLast YtmnkaldemjdcoaaGreatW.PrintMore YtmnkaldemjdcoaaGreatW.Aid YtmnkaldemjdcoaaGreatW.Big
section
set_option maxRecDepth 10000
set_option maxHeartbeats 1000000
theorem info64:(Tryz.prog.info? 94).map (fun i=>(i.zero,i.size,i.bytes))=some (some (.int .u64 0),1,8):=by kernel_rfl
theorem made_lc (n:Nat):madeCells #[Value.int .u64 0] n=lc (List.replicate n 0):=by
  refine Array.ext (by simp [madeCells,lc]) (fun i h1 h2=>?_)
  simp [madeCells,lc,Nat.mod_one]
theorem mk_run (n:Nat) (hn:n≤100000) (m:Int) (hm:m=(n:Int)) (w:World):(Instr.makeSlice 62 (.int .i64 m) (.int .i64 m)).run Tryz.prog w = .ok (.slice (some ⟨w.heap.size,0,none⟩) n n) (w.alloc (.cells (lc (List.replicate n 0)) 94)):=by
  rw [hm,← made_lc]
  exact run_make_row' 62 94 (.int .u64 0) 8 Tryz.underlying62 info64 rfl .i64 .i64 n (by omega) (by omega) w
theorem add_limb {x cy s:Int} (hx0:0≤x) (hx1:x<18446744073709551616) (hc0:0≤cy) (hc1:cy≤1) (h:IntKind.u64.wrap (x+cy)=s):(¬ s<x∧s=x+cy)∨(s<x∧cy=1∧x=18446744073709551615∧s=0):=by
  rw [u64_wrap] at h
  omega
theorem add_limb2 {y s r:Int} (hy0:0≤y) (hy1:y<18446744073709551616) (hs0:0≤s) (hs1:s<18446744073709551616) (h:IntKind.u64.wrap (s+y)=r):0≤r∧r<18446744073709551616∧((¬ r<y∧r=s+y)∨(r<y∧r+18446744073709551616=s+y)):=by
  rw [u64_wrap] at h
  omega
def AddInv (a b:List Int) (i:Nat) (cy:Int) (cs:List Int):Prop :=
  cs.length=a.length+1∧Dig cs∧0≤cy∧cy≤1∧val (cs.take i)+18446744073709551616 ^ i*cy.toNat=val (a.take i)+val (b.take i)
theorem take_ge {b:List Int} {i:Nat} (h:b.length≤i):val (b.take (i+1))=val (b.take i):=by
  rw [List.take_of_length_le h,List.take_of_length_le (by omega)]
theorem AddInv.step1 {a b cs:List Int} {i:Nat} {cy:Int} (h:AddInv a b i cy cs) (ha:i<a.length) (hb:b.length≤i) {s cy':Int} (hs0:0≤s) (hs1:s<18446744073709551616) (hc0:0≤cy') (hc1:cy'≤1)
    (e:s+18446744073709551616*cy'=rd a i+cy) (ha0:0≤rd a i):AddInv a b (i+1) cy' (cs.set i s):=by
  obtain ⟨h1,h2,h3,h4,h5⟩:=h
  refine ⟨by simpa using h1,h2.set i hs0 hs1,hc0,hc1,?_⟩
  rw [val_set_take (by omega),val_take_succ ha,take_ge hb,Nat.pow_succ,Nat.mul_assoc]
  have e':s.toNat+18446744073709551616*cy'.toNat=(rd a i).toNat+cy.toNat:=by omega
  have:=congrArg (18446744073709551616 ^ i*·) e'
  simp only [Nat.mul_add] at this
  omega
theorem AddInv.step2 {a b cs:List Int} {i:Nat} {cy:Int} (h:AddInv a b i cy cs) (ha:i<a.length) (hb:i<b.length) {s cy':Int} (hs0:0≤s) (hs1:s<18446744073709551616) (hc0:0≤cy') (hc1:cy'≤1)
    (e:s+18446744073709551616*cy'=rd a i+rd b i+cy) (ha0:0≤rd a i) (hb0:0≤rd b i):AddInv a b (i+1) cy' (cs.set i s):=by
  obtain ⟨h1,h2,h3,h4,h5⟩:=h
  refine ⟨by simpa using h1,h2.set i hs0 hs1,hc0,hc1,?_⟩
  rw [val_set_take (by omega),val_take_succ ha,val_take_succ hb,Nat.pow_succ,Nat.mul_assoc]
  have e':s.toNat+18446744073709551616*cy'.toNat=(rd a i).toNat+(rd b i).toNat+cy.toNat:=by omega
  have:=congrArg (18446744073709551616 ^ i*·) e'
  simp only [Nat.mul_add] at this
  omega
theorem AddInv.done {a b cs:List Int} {cy:Int} (h:AddInv a b a.length cy cs) (hb:b.length≤a.length):Dig (cs.set a.length cy)∧val (cs.set a.length cy)=val a+val b∧(cs.set a.length cy).length=a.length+1:=by
  obtain ⟨h1,h2,h3,h4,h5⟩:=h
  refine ⟨h2.set _ h3 (by omega),?_,by simpa using h1⟩
  have e:cs.set a.length cy=(cs.set a.length cy).take (a.length+1):=by rw [List.take_of_length_le (by simp;omega)]
  rw [e,val_set_take (by omega),h5,List.take_length,List.take_of_length_le hb]
theorem AddInv.start (a b:List Int):AddInv a b 0 0 (List.replicate (a.length+1) 0):=⟨by simp,Dig.zeros _,by omega,by omega,by simp [val]⟩
theorem add_calls (a b:List Int) (A A':Option Addr) (c c':Nat) (w:World) (hda:Dig a) (hdb:Dig b) (hr:Rd w a A c) (hr':Rd w b A' c') (hla:a.length≤1000) (hlb:b.length≤1000) :
    Calls Tryz.prog 106 #[.slice A a.length c,.slice A' b.length c'] w (RetRd (limbs (val a+val b)) w):=by
  have HR:=Aside0.mk hr
  have HR':=Aside0.mk hr'
  have DA:=Aside0.mk hda
  have DB:=Aside0.mk hdb
  clear hr hr' hda hdb
  by_cases hlt:a.length<b.length
  · have hb : decide (a.length < b.length) = true := decide_eq_true hlt
    have hsum:val a+val b=val b+val a:=Nat.add_comm _ _
    rw [hsum]
    clear hsum
    have hmk:=fun w=>mk_run (b.length+1) (by omega) ((b.length:Int)+1) (by omega) w
    go_enter Tryz.func106,Tryz.ntmps106
    go_wp2_with fail
    go_loopw [6,23] (fun v6 v23 wr=>∃ (i:Nat) (cy:Int) (cs:List Int),i≤b.length∧v23 = .int .i64 i∧v6 = .int .u64 cy∧Aside0 (AddInv b a i cy cs)∧Aside0 (wr.heap[w.heap.size]?=some (.cells (lc cs) 94 (0,0)))∧Aside0 (Below w.heap.size w wr)) (fun _ v23 _=>b.length-(intOf v23).toNat)
    case atStart=>exact ⟨0,0,_,by omega,rfl,rfl,⟨AddInv.start _ _⟩,⟨blk_new w _⟩,⟨below_alloc (Below.refl _ _) _⟩⟩
    case round =>
      obtain ⟨i,cy,cs,hi,rfl,rfl,hI,hblk,hB⟩:=hrel
      have hcl:=hI.out.1
      have hc0:=hI.out.2.2.1
      have hc1:=hI.out.2.2.2.1
      have hfz:=blk_frozen hblk.out i
      have hcw:wr.cell? ⟨w.heap.size,i,none⟩=some (.int .u64 (rd cs i)):=(blk_cell hblk.out i).trans (lc_at (by omega))
      clear hmk
      by_cases hil:i<b.length
      · obtain ⟨ad,rfl,hcell⟩:=Kd.at_int (HR'.out.below hB.out).2 (i:Int) (by omega) (by omega)
        simp only [Int.toNat_natCast] at hcell
        have hx:=Aside0.mk (DB.out.rd (i:=(i:Int)) (by omega) (by omega))
        have st1:Aside0 (∀ s cy':Int,a.length≤i→0≤s→s<18446744073709551616→0≤cy'→cy'≤1→s+18446744073709551616*cy'=rd b i+cy→AddInv b a (i+1) cy' (cs.set i s)):=⟨fun s cy' h1 h2 h3 h4 h5 h6=>hI.out.step1 hil h1 h2 h3 h4 h5 h6 hx.out.1⟩
        have st2:Aside0 (∀ s cy':Int,i<a.length→0≤s→s<18446744073709551616→0≤cy'→cy'≤1→s+18446744073709551616*cy'=rd b i+rd a i+cy→AddInv b a (i+1) cy' (cs.set i s)):=⟨fun s cy' h1 h2 h3 h4 h5 h6=>hI.out.step2 hil h1 h2 h3 h4 h5 h6 hx.out.1 (DA.out.rd (i:=(i:Int)) (by omega) (by omega)).1⟩
        generalize rd b i=x at *
        obtain ⟨s,hs⟩:∃ s,IntKind.u64.wrap (x+cy)=s:=⟨_,rfl⟩
        have hS:=Aside0.mk (add_limb hx.out.1 hx.out.2 hc0 hc1 hs)
        have hs01:Aside0 (0≤s∧s<18446744073709551616):=⟨by have:=hx.out;rcases hS.out with h|h<;>(rw [u64_wrap] at hs;omega)⟩
        by_cases hib:i<a.length
        · have hib1:decide (i<a.length)=true:=decide_eq_true hib
          have hib2:decide ((i:Int)<(a.length:Int))=true:=decide_eq_true (by omega)
          obtain ⟨ad',rfl,hcell'⟩:=Kd.at_int (HR.out.below hB.out).2 (i:Int) (by omega) (by omega)
          simp only [Int.toNat_natCast] at hcell'
          have hy:=Aside0.mk (DA.out.rd (i:=(i:Int)) (by omega) (by omega))
          generalize rd a i=y at *
          obtain ⟨r,hr⟩:∃ r,IntKind.u64.wrap (s+y)=r:=⟨_,rfl⟩
          have hR:=Aside0.mk (add_limb2 hy.out.1 hy.out.2 hs01.out.1 hs01.out.2 hr)
          by_cases c1:s<x
          · have c1b:decide (s<x)=true:=decide_eq_true c1
            have c2:¬ r<y:=by have:=hR.out;have:=hS.out;have:=hy.out;omega
            have c2b:decide (r<y)=false:=decide_eq_false c2
            have fin:=Aside0.mk (st2.out r 1 hib (by have:=hR.out;omega) (by have:=hR.out;omega) (by omega) (by omega) (by have:=hR.out;have:=hS.out;have:=hx.out;omega))
            clear c1 c2
            go_wp2
            go_roundw
            case rel=>exact ⟨i+1,1,cs.set i r,by omega,by go_num,rfl,fin,⟨blk_put hblk.out i _ (lc_set cs i r)⟩,⟨below_set hB.out (Nat.le_refl _)⟩⟩
            case measure=>simp [intOf];omega
          · have c1b:decide (s<x)=false:=decide_eq_false c1
            by_cases c2:r<y
            · have c2b:decide (r<y)=true:=decide_eq_true c2
              have fin:=Aside0.mk (st2.out r 1 hib (by have:=hR.out;omega) (by have:=hR.out;omega) (by omega) (by omega) (by have:=hR.out;have:=hS.out;have:=hx.out;omega))
              clear c1 c2
              go_wp2
              go_roundw
              case rel=>exact ⟨i+1,1,cs.set i r,by omega,by go_num,rfl,fin,⟨blk_put hblk.out i _ (lc_set cs i r)⟩,⟨below_set hB.out (Nat.le_refl _)⟩⟩
              case measure=>simp [intOf];omega
            · have c2b:decide (r<y)=false:=decide_eq_false c2
              have fin:=Aside0.mk (st2.out r 0 hib (by have:=hR.out;omega) (by have:=hR.out;omega) (by omega) (by omega) (by have:=hR.out;have:=hS.out;have:=hx.out;omega))
              clear c1 c2
              go_wp2
              go_roundw
              case rel=>exact ⟨i+1,0,cs.set i r,by omega,by go_num,rfl,fin,⟨blk_put hblk.out i _ (lc_set cs i r)⟩,⟨below_set hB.out (Nat.le_refl _)⟩⟩
              case measure=>simp [intOf];omega
        · have hib1:decide (i<a.length)=false:=decide_eq_false hib
          have hib2:decide ((i:Int)<(a.length:Int))=false:=decide_eq_false (by omega)
          by_cases c1:s<x
          · have c1b:decide (s<x)=true:=decide_eq_true c1
            have fin:=Aside0.mk (st1.out s 1 (by omega) hs01.out.1 hs01.out.2 (by omega) (by omega) (by have:=hS.out;have:=hx.out;omega))
            clear c1
            go_wp2
            go_roundw
            case rel=>exact ⟨i+1,1,cs.set i s,by omega,by go_num,rfl,fin,⟨blk_put hblk.out i _ (lc_set cs i s)⟩,⟨below_set hB.out (Nat.le_refl _)⟩⟩
            case measure=>simp [intOf];omega
          · have c1b:decide (s<x)=false:=decide_eq_false c1
            have fin:=Aside0.mk (st1.out s 0 (by omega) hs01.out.1 hs01.out.2 (by omega) (by omega) (by have:=hS.out;have:=hx.out;omega))
            clear c1
            go_wp2
            go_roundw
            case rel=>exact ⟨i+1,0,cs.set i s,by omega,by go_num,rfl,fin,⟨blk_put hblk.out i _ (lc_set cs i s)⟩,⟨below_set hB.out (Nat.le_refl _)⟩⟩
            case measure=>simp [intOf];omega
      · obtain rfl:i=b.length:=by omega
        have hfin:=Aside0.mk (hI.out.done (by omega))
        have hnb:=Aside0.mk (blk_put hblk.out b.length (.int .u64 cy) (lc_set cs b.length cy))
        have hrd:=Aside0.mk ((Rd.of_block hnb.out (n:=b.length+1) (c:=b.length+1) (by have:=hfin.out.2.2;omega) (Nat.le_refl _) (by omega)).of_eq (List.take_of_length_le (by have:=hfin.out.2.2;omega)))
        have hlen:=hfin.out.2.2
        have HL:=Aside0.mk hlen
        clear hlen
        go_wp2_with fail
        have h:=trim_calls (cs.set b.length cy) (some ⟨w.heap.size,0,none⟩) (b.length+1) _ hfin.out.1 hrd.out
        rw [HL.out] at h
        refine h.mono ?_
        rintro e w2 ⟨A2,c2,rfl,hr2,hB2⟩
        go_wp2
        go_ret
        exact ⟨A2,c2,by rw [hfin.out.2.1];rfl,by rw [← hfin.out.2.1];exact hr2,(below_set hB.out (Nat.le_refl _)).trans (hB2.mono (by have:=hB.out.size;simpa using this))⟩
  · have hb : decide (a.length < b.length) = false := decide_eq_false hlt
    have hmk:=fun w=>mk_run (a.length+1) (by omega) ((a.length:Int)+1) (by omega) w
    go_enter Tryz.func106,Tryz.ntmps106
    go_wp2_with fail
    go_loopw [6,23] (fun v6 v23 wr=>∃ (i:Nat) (cy:Int) (cs:List Int),i≤a.length∧v23 = .int .i64 i∧v6 = .int .u64 cy∧Aside0 (AddInv a b i cy cs)∧Aside0 (wr.heap[w.heap.size]?=some (.cells (lc cs) 94 (0,0)))∧Aside0 (Below w.heap.size w wr)) (fun _ v23 _=>a.length-(intOf v23).toNat)
    case atStart=>exact ⟨0,0,_,by omega,rfl,rfl,⟨AddInv.start _ _⟩,⟨blk_new w _⟩,⟨below_alloc (Below.refl _ _) _⟩⟩
    case round =>
      obtain ⟨i,cy,cs,hi,rfl,rfl,hI,hblk,hB⟩:=hrel
      have hcl:=hI.out.1
      have hc0:=hI.out.2.2.1
      have hc1:=hI.out.2.2.2.1
      have hfz:=blk_frozen hblk.out i
      have hcw:wr.cell? ⟨w.heap.size,i,none⟩=some (.int .u64 (rd cs i)):=(blk_cell hblk.out i).trans (lc_at (by omega))
      clear hmk
      by_cases hil:i<a.length
      · obtain ⟨ad,rfl,hcell⟩:=Kd.at_int (HR.out.below hB.out).2 (i:Int) (by omega) (by omega)
        simp only [Int.toNat_natCast] at hcell
        have hx:=Aside0.mk (DA.out.rd (i:=(i:Int)) (by omega) (by omega))
        have st1:Aside0 (∀ s cy':Int,b.length≤i→0≤s→s<18446744073709551616→0≤cy'→cy'≤1→s+18446744073709551616*cy'=rd a i+cy→AddInv a b (i+1) cy' (cs.set i s)):=⟨fun s cy' h1 h2 h3 h4 h5 h6=>hI.out.step1 hil h1 h2 h3 h4 h5 h6 hx.out.1⟩
        have st2:Aside0 (∀ s cy':Int,i<b.length→0≤s→s<18446744073709551616→0≤cy'→cy'≤1→s+18446744073709551616*cy'=rd a i+rd b i+cy→AddInv a b (i+1) cy' (cs.set i s)):=⟨fun s cy' h1 h2 h3 h4 h5 h6=>hI.out.step2 hil h1 h2 h3 h4 h5 h6 hx.out.1 (DB.out.rd (i:=(i:Int)) (by omega) (by omega)).1⟩
        generalize rd a i=x at *
        obtain ⟨s,hs⟩:∃ s,IntKind.u64.wrap (x+cy)=s:=⟨_,rfl⟩
        have hS:=Aside0.mk (add_limb hx.out.1 hx.out.2 hc0 hc1 hs)
        have hs01:Aside0 (0≤s∧s<18446744073709551616):=⟨by have:=hx.out;rcases hS.out with h|h<;>(rw [u64_wrap] at hs;omega)⟩
        by_cases hib:i<b.length
        · have hib1:decide (i<b.length)=true:=decide_eq_true hib
          have hib2:decide ((i:Int)<(b.length:Int))=true:=decide_eq_true (by omega)
          obtain ⟨ad',rfl,hcell'⟩:=Kd.at_int (HR'.out.below hB.out).2 (i:Int) (by omega) (by omega)
          simp only [Int.toNat_natCast] at hcell'
          have hy:=Aside0.mk (DB.out.rd (i:=(i:Int)) (by omega) (by omega))
          generalize rd b i=y at *
          obtain ⟨r,hr⟩:∃ r,IntKind.u64.wrap (s+y)=r:=⟨_,rfl⟩
          have hR:=Aside0.mk (add_limb2 hy.out.1 hy.out.2 hs01.out.1 hs01.out.2 hr)
          by_cases c1:s<x
          · have c1b:decide (s<x)=true:=decide_eq_true c1
            have c2:¬ r<y:=by have:=hR.out;have:=hS.out;have:=hy.out;omega
            have c2b:decide (r<y)=false:=decide_eq_false c2
            have fin:=Aside0.mk (st2.out r 1 hib (by have:=hR.out;omega) (by have:=hR.out;omega) (by omega) (by omega) (by have:=hR.out;have:=hS.out;have:=hx.out;omega))
            clear c1 c2
            go_wp2
            go_roundw
            case rel=>exact ⟨i+1,1,cs.set i r,by omega,by go_num,rfl,fin,⟨blk_put hblk.out i _ (lc_set cs i r)⟩,⟨below_set hB.out (Nat.le_refl _)⟩⟩
            case measure=>simp [intOf];omega
          · have c1b:decide (s<x)=false:=decide_eq_false c1
            by_cases c2:r<y
            · have c2b:decide (r<y)=true:=decide_eq_true c2
              have fin:=Aside0.mk (st2.out r 1 hib (by have:=hR.out;omega) (by have:=hR.out;omega) (by omega) (by omega) (by have:=hR.out;have:=hS.out;have:=hx.out;omega))
              clear c1 c2
              go_wp2
              go_roundw
              case rel=>exact ⟨i+1,1,cs.set i r,by omega,by go_num,rfl,fin,⟨blk_put hblk.out i _ (lc_set cs i r)⟩,⟨below_set hB.out (Nat.le_refl _)⟩⟩
              case measure=>simp [intOf];omega
            · have c2b:decide (r<y)=false:=decide_eq_false c2
              have fin:=Aside0.mk (st2.out r 0 hib (by have:=hR.out;omega) (by have:=hR.out;omega) (by omega) (by omega) (by have:=hR.out;have:=hS.out;have:=hx.out;omega))
              clear c1 c2
              go_wp2
              go_roundw
              case rel=>exact ⟨i+1,0,cs.set i r,by omega,by go_num,rfl,fin,⟨blk_put hblk.out i _ (lc_set cs i r)⟩,⟨below_set hB.out (Nat.le_refl _)⟩⟩
              case measure=>simp [intOf];omega
        · have hib1:decide (i<b.length)=false:=decide_eq_false hib
          have hib2:decide ((i:Int)<(b.length:Int))=false:=decide_eq_false (by omega)
          by_cases c1:s<x
          · have c1b:decide (s<x)=true:=decide_eq_true c1
            have fin:=Aside0.mk (st1.out s 1 (by omega) hs01.out.1 hs01.out.2 (by omega) (by omega) (by have:=hS.out;have:=hx.out;omega))
            clear c1
            go_wp2
            go_roundw
            case rel=>exact ⟨i+1,1,cs.set i s,by omega,by go_num,rfl,fin,⟨blk_put hblk.out i _ (lc_set cs i s)⟩,⟨below_set hB.out (Nat.le_refl _)⟩⟩
            case measure=>simp [intOf];omega
          · have c1b:decide (s<x)=false:=decide_eq_false c1
            have fin:=Aside0.mk (st1.out s 0 (by omega) hs01.out.1 hs01.out.2 (by omega) (by omega) (by have:=hS.out;have:=hx.out;omega))
            clear c1
            go_wp2
            go_roundw
            case rel=>exact ⟨i+1,0,cs.set i s,by omega,by go_num,rfl,fin,⟨blk_put hblk.out i _ (lc_set cs i s)⟩,⟨below_set hB.out (Nat.le_refl _)⟩⟩
            case measure=>simp [intOf];omega
      · obtain rfl:i=a.length:=by omega
        have hfin:=Aside0.mk (hI.out.done (by omega))
        have hnb:=Aside0.mk (blk_put hblk.out a.length (.int .u64 cy) (lc_set cs a.length cy))
        have hrd:=Aside0.mk ((Rd.of_block hnb.out (n:=a.length+1) (c:=a.length+1) (by have:=hfin.out.2.2;omega) (Nat.le_refl _) (by omega)).of_eq (List.take_of_length_le (by have:=hfin.out.2.2;omega)))
        have hlen:=hfin.out.2.2
        have HL:=Aside0.mk hlen
        clear hlen
        go_wp2_with fail
        have h:=trim_calls (cs.set a.length cy) (some ⟨w.heap.size,0,none⟩) (a.length+1) _ hfin.out.1 hrd.out
        rw [HL.out] at h
        refine h.mono ?_
        rintro e w2 ⟨A2,c2,rfl,hr2,hB2⟩
        go_wp2
        go_ret
        exact ⟨A2,c2,by rw [hfin.out.2.1];rfl,by rw [← hfin.out.2.1];exact hr2,(below_set hB.out (Nat.le_refl _)).trans (hB2.mono (by have:=hB.out.size;simpa using this))⟩
end
end Go.Proofs.YtmnkaldemjdcoaaGreat.Limbs
end
section
set_option linter.unusedVariables false
namespace Go.Proofs.YtmnkaldemjdcoaaGreatW.Dig32
open RowKit YtmnkaldemjdcoaaGreatW.PrintWords YtmnkaldemjdcoaaGreatW.PrintMore YtmnkaldemjdcoaaGreatW.Aid YtmnkaldemjdcoaaGreatW.Big YtmnkaldemjdcoaaGreat.Limbs
def digs (n:Nat):List Int:=if h:n=0 then [] else ((n%4294967296:Nat):Int)::digs (n/4294967296)
termination_by n
decreasing_by omega
def v32:List Int→Nat
  | []=>0
  | x::r=>x.toNat+4294967296*v32 r
theorem digs_zero:digs 0=[]:=by rw [digs];simp
theorem digs_pos {n:Nat} (h:n≠0):digs n=((n%4294967296:Nat):Int)::digs (n/4294967296):=by rw [digs];simp [h]
theorem v32_digs (n:Nat):v32 (digs n)=n:=by
  induction n using Nat.strongRecOn with
  | _ n ih =>
    by_cases h:n=0
    · subst h;rw [digs_zero];rfl
    · rw [digs_pos h,v32,ih _ (by omega)]
      omega
def D32 (l:List Int):Prop:=∀ x∈l,0≤x∧x<4294967296
def C32 (l:List Int):Prop:=D32 l∧(∀ h:l≠[],l.getLast h≠0)
theorem digs_dig (n:Nat):D32 (digs n):=by
  induction n using Nat.strongRecOn with
  | _ n ih =>
    by_cases h:n=0
    · subst h;rw [digs_zero];intro x hx;simp at hx
    · rw [digs_pos h]
      intro x hx
      rcases List.mem_cons.1 hx with rfl|hx
      · omega
      · exact ih _ (by omega) x hx
theorem digs_ne {n:Nat}:digs n=[]↔n=0:=by
  constructor
  · intro h
    have:=v32_digs n
    rw [h] at this
    exact this.symm
  · rintro rfl;exact digs_zero
theorem C32.digs {l:List Int} (h:C32 l):l=digs (v32 l):=by
  induction l with
  | nil=>rw [v32,digs_zero]
  | cons x r ih =>
    have hx:=h.1 x (by simp)
    have hr:C32 r:=⟨fun y hy=>h.1 y (List.mem_cons_of_mem _ hy),fun hne=>by have:=h.2 (by simp);rw [List.getLast_cons hne] at this;exact this⟩
    have hv:v32 (x::r)≠0:=by
      intro e
      simp only [v32] at e
      cases r with
      | nil=>have:=h.2 (by simp);simp at this;omega
      | cons y r' =>
        have:Dig32.digs (v32 (y::r'))=[]:=digs_ne.2 (by omega)
        rw [← ih hr] at this
        simp at this
    rw [digs_pos hv]
    have e1:v32 (x::r)%4294967296=x.toNat:=by simp only [v32];omega
    have e2:v32 (x::r)/4294967296=v32 r:=by simp only [v32];omega
    rw [e1,e2,← ih hr]
    congr 1
    omega
theorem digs_len {n k:Nat} (h:n<4294967296 ^ k):(digs n).length≤k:=by
  induction k generalizing n with
  | zero => have : n = 0 := by simpa using h
            subst this;simp [digs_zero]
  | succ k ih =>
    by_cases hn:n=0
    · subst hn;simp [digs_zero]
    · rw [digs_pos hn,List.length_cons]
      have:n/4294967296<4294967296 ^ k:=by
        rw [Nat.div_lt_iff_lt_mul (by omega)]
        rw [Nat.pow_succ] at h
        exact h
      have:=ih this
      omega
theorem lt_digs (n:Nat):n<4294967296 ^ (digs n).length:=by
  induction n using Nat.strongRecOn with
  | _ n ih =>
    by_cases h:n=0
    · subst h;simp [digs_zero]
    · rw [digs_pos h,List.length_cons,Nat.pow_succ]
      have:=ih (n/4294967296) (by omega)
      rw [Nat.div_lt_iff_lt_mul (by omega)] at this
      exact this
theorem v32_append (a b:List Int):v32 (a++b)=v32 a+4294967296 ^ a.length*v32 b:=by
  induction a with
  | nil=>simp [v32]
  | cons x a ih =>
    simp only [List.cons_append,v32,ih,List.length_cons,Nat.pow_succ,Nat.mul_add]
    rw [Nat.mul_comm (4294967296 ^ a.length) 4294967296,Nat.mul_assoc,Nat.add_assoc]
theorem v32_zeros (n:Nat):v32 (List.replicate n 0)=0:=by
  induction n with
  | zero=>rfl
  | succ n ih=>simp [List.replicate_succ,v32,ih]
theorem D32.take {l:List Int} (h:D32 l) (n:Nat):D32 (l.take n):=fun x hx=>h x (List.mem_of_mem_take hx)
theorem D32.drop {l:List Int} (h:D32 l) (n:Nat):D32 (l.drop n):=fun x hx=>h x (List.mem_of_mem_drop hx)
theorem D32.append {a b:List Int} (h:D32 a) (h':D32 b):D32 (a++b):=fun x hx=>(List.mem_append.1 hx).elim (h x) (h' x)
theorem D32.set {l:List Int} (h:D32 l) (i:Nat) {v:Int} (h0:0≤v) (h1:v<4294967296):D32 (l.set i v):=fun x hx=>by
  rcases List.mem_or_eq_of_mem_set hx with hx|rfl
  · exact h x hx
  · exact ⟨h0,h1⟩
theorem D32.zeros (n:Nat):D32 (List.replicate n 0):=fun x hx=>by
  have:=List.eq_of_mem_replicate hx
  omega
theorem D32.rd {l:List Int} (h:D32 l) {i:Int} (h0:0≤i) (h1:i<(l.length:Int)):0≤rd l i∧rd l i<4294967296:=h _ (rd_mem h0 h1)
theorem v32_take_succ {l:List Int} {i:Nat} (h:i<l.length):v32 (l.take (i+1))=v32 (l.take i)+4294967296 ^ i*(rd l i).toNat:=by
  rw [take_succ_rd h,v32_append]
  simp [v32,Nat.min_eq_left (Nat.le_of_lt h)]
theorem v32_lt {l:List Int} (h:D32 l):v32 l<4294967296 ^ l.length:=by
  induction l with
  | nil=>simp [v32]
  | cons x l ih =>
    have hx:=h x (by simp)
    have:=ih (fun y hy=>h y (List.mem_cons_of_mem _ hy))
    rw [List.length_cons,Nat.pow_succ,v32]
    have:4294967296*(v32 l+1)≤4294967296 ^ l.length*4294967296:=by rw [Nat.mul_comm];exact Nat.mul_le_mul_right _ (by omega)
    omega
theorem v32_set_take {l:List Int} {i:Nat} {v:Int} (h:i<l.length):v32 ((l.set i v).take (i+1))=v32 (l.take i)+4294967296 ^ i*v.toNat:=by
  rw [set_take v h,v32_append]
  simp [v32,Nat.min_eq_left (Nat.le_of_lt h)]
theorem digs_of_take {l:List Int} (h:D32 l) {n:Nat} (hn:n≤l.length) (hz:∀ i,n≤i→i<l.length→rd l (i:Int)=0) (ht:0<n→rd l ((n-1:Nat):Int)≠0):l.take n=digs (v32 l):=by
  have e:l=l.take n++List.replicate (l.length-n) 0:=by
    refine List.ext_getElem (by simp;omega) (fun j h1 h2=>?_)
    by_cases hj:j<n
    · rw [List.getElem_append_left (by simp;omega)]
      simp
    · rw [List.getElem_append_right (by simp;omega),List.getElem_replicate,← rd_nat h1]
      exact hz j (by omega) h1
  have hv:v32 l=v32 (l.take n):=by
    have:=congrArg v32 e
    rw [v32_append,v32_zeros] at this
    simpa using this
  rw [hv]
  refine C32.digs ⟨h.take n,fun hne=>?_⟩
  have hn0:0<n:=by
    rcases Nat.eq_zero_or_pos n with r|r
    · subst r;simp at hne
    · exact r
  have:=ht hn0
  rw [rd_nat (by omega)] at this
  rw [List.getLast_eq_getElem]
  simp only [List.length_take,Nat.min_eq_left hn,List.getElem_take]
  exact this
def MulInv32 (a b:List Int) (i:Nat) (cs:List Int):Prop :=
  cs.length=a.length+b.length∧D32 cs∧(∀ j:Nat,i+b.length≤j→rd cs j=0)∧v32 (cs.take (i+b.length))=v32 (a.take i)*v32 b
def RowInv32 (b cs0:List Int) (i:Nat) (x:Int) (k:Nat) (cy:Int) (cs:List Int):Prop :=
  cs.length=cs0.length∧D32 cs∧0≤cy∧cy<4294967296∧(∀ j:Nat,i+k≤j→rd cs j=rd cs0 j) ∧
    v32 (cs.take (i+k))+4294967296 ^ (i+k)*cy.toNat=v32 (cs0.take (i+k))+4294967296 ^ i*(x.toNat*v32 (b.take k))
theorem MulInv32.start (a b:List Int):MulInv32 a b 0 (List.replicate (a.length+b.length) 0):=by
  refine ⟨by simp,D32.zeros _,fun j _=>rd_zeros,?_⟩
  rw [List.take_replicate,v32_zeros]
  simp [v32]
theorem RowInv32.start {a b cs:List Int} {i:Nat} (h:MulInv32 a b i cs) (x:Int):RowInv32 b cs i x 0 0 cs:=by
  refine ⟨rfl,h.2.1,by omega,by omega,fun _ _=>rfl,?_⟩
  simp [v32]
theorem RowInv32.step {b cs0 cs:List Int} {i k:Nat} {x cy y z s cy':Int} (h:RowInv32 b cs0 i x k cy cs) (hk:k<b.length) (hl:i+k<cs0.length) (hx0:0≤x) (hy:rd b k=y) (hy0:0≤y) (hz:rd cs0 ((i+k:Nat):Int)=z) (hz0:0≤z) (hs0:0≤s) (hs1:s<4294967296) (hc0:0≤cy') (hc1:cy'<4294967296)
    (e:s+4294967296*cy'=z+x*y+cy):RowInv32 b cs0 i x (k+1) cy' (cs.set (i+k) s):=by
  obtain ⟨h1,h2,h3,h4,h5,h6⟩:=h
  refine ⟨by simpa using h1,h2.set _ hs0 hs1,hc0,hc1,fun j hj=>?_,?_⟩
  · rw [rd_set_ne _ (by omega)];exact h5 j (by omega)
  · rw [show i+(k+1)=i+k+1 by omega,v32_set_take (by omega),v32_take_succ hk,v32_take_succ hl,hy,hz]
    have e':s.toNat+4294967296*cy'.toNat=z.toNat+x.toNat*y.toNat+cy.toNat:=by
      have hp:((x.toNat*y.toNat:Nat):Int)=x*y:=by rw [Int.natCast_mul,Int.toNat_of_nonneg hx0,Int.toNat_of_nonneg hy0]
      omega
    have t:=congrArg (4294967296 ^ (i+k)*·) e'
    simp only [Nat.mul_add] at t
    have q1:4294967296 ^ (i+k+1)*cy'.toNat=4294967296 ^ (i+k)*(4294967296*cy'.toNat):=by rw [Nat.pow_succ,Nat.mul_assoc]
    have q2:4294967296 ^ i*(x.toNat*(4294967296 ^ k*y.toNat))=4294967296 ^ (i+k)*(x.toNat*y.toNat):=by
      rw [Nat.pow_add];ac_rfl
    rw [Nat.mul_add x.toNat,Nat.mul_add,q1,q2]
    omega
theorem MulInv32.step {a b cs0 cs:List Int} {i:Nat} {x cy:Int} (h:MulInv32 a b i cs0) (hi:i<a.length) (hx:rd a i=x) (hr:RowInv32 b cs0 i x b.length cy cs):MulInv32 a b (i+1) (cs.set (i+b.length) cy):=by
  obtain ⟨h1,h2,h3,h4⟩:=h
  obtain ⟨r1,r2,r3,r4,r5,r6⟩:=hr
  refine ⟨by rw [List.length_set];omega,r2.set _ r3 r4,fun j hj=>?_,?_⟩
  · rw [rd_set_ne _ (by omega),r5 j (by omega)];exact h3 j (by omega)
  · rw [show i+1+b.length=i+b.length+1 by omega,v32_set_take (by omega),r6,h4,v32_take_succ hi,hx,List.take_length,Nat.add_mul]
    ac_rfl
theorem MulInv32.done {a b cs:List Int} (h:MulInv32 a b a.length cs):D32 cs∧v32 cs=v32 a*v32 b:=by
  obtain ⟨h1,h2,h3,h4⟩:=h
  rw [List.take_of_length_le (by omega),List.take_length] at h4
  exact ⟨h2,h4⟩
end Go.Proofs.YtmnkaldemjdcoaaGreatW.Dig32
end
section
set_option linter.unusedVariables false
namespace Go.Proofs.YtmnkaldemjdcoaaGreat.CloneW
open RowKit YtmnkaldemjdcoaaGreatW.PrintWords YtmnkaldemjdcoaaGreatW.PrintLast YtmnkaldemjdcoaaGreatW.PrintMore YtmnkaldemjdcoaaGreatW.Aid
theorem info:(Tryz.prog.info? 94).map (fun i=>(i.zero,i.size,i.bytes))=some (some (.int .u64 0),1,8):=by kernel_rfl
set_option maxRecDepth 10000 in
set_option maxHeartbeats 400000 in
theorem bytes_calls (l:List Int) (A:Option Addr) (c:Nat) (w:World) (hr:Kd.C (Kd.int .u64) w A l.length l) (hle:l.length≤c) (hm:l.length*8≤140737488355328) :
    Calls Tryz.prog 113 #[.slice A l.length c] w fun e w'=>∃ v,e = .returned v∧Kd.R (Kd.int .u64) 94 w' w.heap.size (fun _=>True) v l∧Below w.heap.size w w':=by
  have HR:=Aside0.mk hr
  have HM:=Aside0.mk hm
  have HL:=Aside0.mk hle
  clear hr hm hle
  cases A with
  | none =>
    have hn1:=Lib.run_eql_slice_nil (P:=Tryz.prog) w 62 94 none 0 c 0 0 Tryz.underlying62
    have e:l=[]:=by
      have h:=HR.out.2.2
      by_cases hl:0<l.length
      · obtain ⟨ad,h1,_⟩:=h hl
        cases h1
      · exact List.length_eq_zero_iff.1 (by omega)
    subst e
    go_enter Tryz.func113,Tryz.ntmps113
    go_wp2
    go_ret
    exact ⟨.slice none 0 0,rfl,Kd.R_nil _ _ _ _ _,Below.refl _ _⟩
  | some ad =>
    have hn1:=Lib.run_eql_slice_nil (P:=Tryz.prog) w 62 94 (some ad) l.length c 0 0 Tryz.underlying62
    go_enter Tryz.func113,Tryz.ntmps113
    have h0:Kd.R (Kd.int .u64) 94 (w.alloc (.cells #[] 94)) w.heap.size (fun _=>True) (.slice (some ⟨w.heap.size,0,none⟩) 0 0) [] :=
      Kd.R_of_own ⟨rfl,.inr ⟨w.heap.size,0,#[],rfl,Nat.le_refl _,blk_new _ _,Nat.le_refl _,by decide,rfl,rfl⟩⟩ (fun _ _=>trivial)
    have H0:=Aside0.mk h0
    clear h0
    go_wp2_with (first|((with_reducible refine gate_builtin (b := .append) (xs:=#[.tmp 5,.tmp 6]) rfl ?_);at_builtin;refine Kd.R_append_rows (Kd.int .u64) (w0:=w) w.heap.size rfl (.tmp 5) (.tmp 6) 62 94 (.int .u64 0) 8 rfl Tryz.underlying62 info rfl (by decide) (by omega) (.slice (some ⟨w.heap.size,0,none⟩) 0 0) [] l _ _ _ (fun _=>True) (fun _=>False) rfl rfl H0.out (Kd.C_alloc HR.out _) (fun _ _ h=>h) (fun _ h=>h.elim) (fun _ _=>trivial) (below_alloc (Below.refl _ _) _) (by simp) (by have:=HM.out;simp;omega) ?_;intro v1 w1 ho hb hg hat;have HO:=Aside0.mk ho;have HB:=Aside0.mk hb;clear ho hb hg hat))
    go_ret
    exact ⟨v1,rfl,HO.out,HB.out⟩
end Go.Proofs.YtmnkaldemjdcoaaGreat.CloneW
set_option linter.unusedVariables false
namespace Go.Proofs.YtmnkaldemjdcoaaGreat.Limbs
open RowKit YtmnkaldemjdcoaaGreatW.PrintWords YtmnkaldemjdcoaaGreatW.PrintLast YtmnkaldemjdcoaaGreatW.PrintMore YtmnkaldemjdcoaaGreatW.Aid YtmnkaldemjdcoaaGreatW.Big
def Blk (w:World) (g:Nat) (l:List Int):Prop:=∃ ex:Array Value,w.heap[g]?=some (.cells (lc l++ex) 94 (0,0))
theorem Blk.cell {w:World} {g:Nat} {l:List Int} (h:Blk w g l) {i:Nat} (hi:i<l.length):w.cell? ⟨g,i,none⟩=some (.int .u64 (rd l i)):=by
  obtain ⟨ex,h⟩:=h
  refine (blk_cell h i).trans ?_
  rw [Array.getElem?_append_left (by rw [lc_size];exact hi)]
  exact lc_at hi
theorem Blk.frozen {w:World} {g:Nat} {l:List Int} (h:Blk w g l) (i:Nat):w.frozen? ⟨g,i,none⟩=false:=by
  obtain ⟨ex,h⟩:=h
  exact blk_frozen h i
theorem Blk.put {w:World} {g:Nat} {l:List Int} (h:Blk w g l) {i:Nat} (hi:i<l.length) (v:Int):Blk (w.setCell ⟨g,i,none⟩ (.int .u64 v)) g (l.set i v):=by
  obtain ⟨ex,h⟩:=h
  refine ⟨ex,blk_put h i _ ?_⟩
  rw [← lc_set,Array.setIfInBounds_append_left]
  rw [lc_size];exact hi
theorem Blk.rdn {w:World} {g:Nat} {l:List Int} (h:Blk w g l) {n c:Nat} (hn:n≤l.length) (hc:n≤c) (hm:n≤9223372036854775807):Rd w (l.take n) (some ⟨g,0,none⟩) c:=by
  have hl:(l.take n).length=n:=by simp;omega
  refine ⟨by omega,?_⟩
  refine ⟨rfl,by omega,fun _=>⟨_,rfl,fun j p hj=>⟨[.int .u64 p],rfl,rfl,fun i u hu=>?_⟩⟩⟩
  have hi:i=0:=by
    cases i with
    | zero=>rfl
    | succ i=>simp at hu
  subst hi
  simp at hu
  subst hu
  have hjn:j<n:=by have:=(List.getElem?_eq_some_iff.1 hj).1;omega
  have e:p=rd l (j:Int):=by
    rw [rd_nat (by omega)]
    rw [List.getElem?_take_of_lt hjn,List.getElem?_eq_getElem (by omega)] at hj
    exact (Option.some.inj hj).symm
  have:=h.cell (i:=j) (by omega)
  rw [e,← this]
  show w.cell? ((⟨g,0,none⟩:Addr).add (j*1+0))=_
  congr 1
  simp [Addr.add]
  omega
theorem Blk.all {w:World} {g:Nat} {l:List Int} (h:Blk w g l) {c:Nat} (hc:l.length≤c) (hm:l.length≤9223372036854775807):Rd w l (some ⟨g,0,none⟩) c:=(h.rdn (Nat.le_refl _) hc hm).of_eq (List.take_length)
theorem Blk.drop {w:World} {g:Nat} {l:List Int} (h:Blk w g l) {k c:Nat} (hk:k≤l.length) (hc:l.length-k≤c) (hm:l.length≤9223372036854775807):Rd w (l.drop k) (some ⟨g,k,none⟩) c:=by
  have hl:(l.drop k).length=l.length-k:=by simp
  refine ⟨by omega,?_⟩
  refine ⟨rfl,by omega,fun _=>⟨_,rfl,fun j p hj=>⟨[.int .u64 p],rfl,rfl,fun i u hu=>?_⟩⟩⟩
  have hi:i=0:=by
    cases i with
    | zero=>rfl
    | succ i=>simp at hu
  subst hi
  simp at hu
  subst hu
  have hjn:j<l.length-k:=by have:=(List.getElem?_eq_some_iff.1 hj).1;omega
  have e:p=rd l ((k+j:Nat):Int):=by
    rw [rd_nat (by omega)]
    rw [List.getElem?_drop,List.getElem?_eq_getElem (by omega)] at hj
    exact (Option.some.inj hj).symm
  have:=h.cell (i:=k+j) (by omega)
  rw [e,← this]
  show w.cell? ((⟨g,k,none⟩:Addr).add (j*1+0))=_
  congr 1
  simp [Addr.add]
theorem Blk.below {w w1:World} {g:Nat} {l:List Int} (h:Blk w g l) (hb:Below w.heap.size w w1):Blk w1 g l:=by
  obtain ⟨ex,h⟩:=h
  refine ⟨ex,?_⟩
  rw [hb.block g (by exact (Array.getElem?_eq_some_iff.1 h).1)]
  exact h
theorem Blk.new (w:World) (l:List Int):Blk (w.alloc (.cells (lc l) 94)) w.heap.size l:=⟨#[],by rw [Array.append_empty];exact blk_new w _⟩
theorem Blk.lt {w:World} {g:Nat} {l:List Int} (h:Blk w g l):g<w.heap.size:=by
  obtain ⟨ex,h⟩:=h
  exact (Array.getElem?_eq_some_iff.1 h).1
def CloneRet (l:List Int) (w:World) (e:Ending) (w':World):Prop :=
  Below w.heap.size w w'∧((l=[]∧e = .returned (.slice none 0 0))∨∃ g c,e = .returned (.slice (some ⟨g,0,none⟩) l.length c)∧w.heap.size≤g∧l.length≤c∧l.length≤9223372036854775807∧Blk w' g l)
theorem clone_calls (l:List Int) (A:Option Addr) (c:Nat) (w:World) (hr:Rd w l A c) (hm:l.length≤100000):Calls Tryz.prog 113 #[.slice A l.length c] w (CloneRet l w):=by
  refine (CloneW.bytes_calls l A c w hr.2 hr.1 (by omega)).mono ?_
  rintro e w' ⟨v,rfl,hR,hB⟩
  refine ⟨hB,?_⟩
  have hO:=Kd.own_of_R hR
  obtain ⟨h1,h2|⟨g,cap,cur,hv,hg,hcur,hn,hcap,hsz,htk⟩⟩:=hO
  · refine .inl ⟨List.length_eq_zero_iff.1 h2.2,by rw [h2.1]⟩
  · refine .inr ⟨g,cap,by rw [hv],hg,hn,by omega,cur.extract l.length cur.size,?_⟩
    rw [hcur]
    congr 2
    apply Array.ext'
    rw [Array.toList_append,Array.toList_extract]
    simp only [Nat.mul_one] at htk
    have e1:(lc l).toList=cur.toList.take l.length:=by rw [htk];simp [lc,encs]
    rw [e1]
    have:(cur.toList.drop l.length).take (cur.size-l.length)=cur.toList.drop l.length:=List.take_of_length_le (by simp)
    rw [List.extract_eq_take_drop,this,List.take_append_drop]
end Go.Proofs.YtmnkaldemjdcoaaGreat.Limbs
set_option linter.unusedVariables false
namespace Go.Proofs.YtmnkaldemjdcoaaGreat.Limbs
open RowKit YtmnkaldemjdcoaaGreatW.PrintWords YtmnkaldemjdcoaaGreatW.PrintLast YtmnkaldemjdcoaaGreatW.PrintMore YtmnkaldemjdcoaaGreatW.Aid YtmnkaldemjdcoaaGreatW.Big
section
set_option maxRecDepth 10000
set_option maxHeartbeats 1000000
def SubInv (a b:List Int) (i:Nat) (bw:Int) (cs:List Int):Prop :=
  cs.length=a.length∧Dig cs∧0≤bw∧bw≤1∧(∀ j:Nat,i≤j→rd cs j=rd a j)∧val (cs.take i)+val (b.take i)=val (a.take i)+18446744073709551616 ^ i*bw.toNat
theorem SubInv.start {a b:List Int} (h:Dig a):SubInv a b 0 0 a:=⟨rfl,h,by omega,by omega,fun _ _=>rfl,by simp [val]⟩
theorem SubInv.step {a b cs:List Int} {i:Nat} {bw:Int} (h:SubInv a b i bw cs) (hi:i<a.length) {x y r bw':Int} (hx:rd a i=x) (hy:(i<b.length∧rd b i=y∧0≤y)∨(b.length≤i∧y=0)) (hx0:0≤x) (hr0:0≤r) (hr1:r<18446744073709551616) (hb0:0≤bw') (hb1:bw'≤1)
    (e:r+y+bw=x+18446744073709551616*bw'):SubInv a b (i+1) bw' (cs.set i r):=by
  obtain ⟨h1,h2,h3,h4,h5,h6⟩:=h
  refine ⟨by simpa using h1,h2.set i hr0 hr1,hb0,hb1,fun j hj=>?_,?_⟩
  · rw [rd_set_ne _ (by omega)]
    exact h5 j (by omega)
  · have eb:val (b.take (i+1))=val (b.take i)+18446744073709551616 ^ i*y.toNat:=by
      rcases hy with ⟨h,rfl,_⟩|⟨h,rfl⟩
      · exact val_take_succ h
      · rw [take_ge h];simp
    have hy0:0≤y:=by rcases hy with ⟨_,_,h⟩|⟨_,h⟩<;>omega
    rw [val_set_take (by omega),val_take_succ hi,eb,hx,Nat.pow_succ,Nat.mul_assoc]
    have e':r.toNat+y.toNat+bw.toNat=x.toNat+18446744073709551616*bw'.toNat:=by omega
    have:=congrArg (18446744073709551616 ^ i*·) e'
    simp only [Nat.mul_add] at this
    omega
theorem SubInv.done {a b cs:List Int} {bw:Int} (h:SubInv a b a.length bw cs) (hv:val b≤val a) (hl:b.length≤a.length):Dig cs∧val cs=val a-val b∧cs.length=a.length:=by
  obtain ⟨h1,h2,h3,h4,h5,h6⟩:=h
  have hlt:=val_lt h2
  rw [List.take_of_length_le (by omega),List.take_of_length_le hl,List.take_length] at h6
  rw [h1] at hlt
  have hbw:bw.toNat=0:=by
    rcases Nat.eq_zero_or_pos bw.toNat with h|h
    · exact h
    · have:bw.toNat=1:=by omega
      rw [this] at h6
      omega
  rw [hbw] at h6
  exact ⟨h2,by omega,h1⟩
theorem sub_y {y bw s:Int} (hy0:0≤y) (hy1:y<18446744073709551616) (hc0:0≤bw) (hc1:bw≤1) (h:IntKind.u64.wrap (bw+y)=s):(¬ s<y∧s=bw+y∧0≤s∧s<18446744073709551616)∨(s<y∧bw=1∧y=18446744073709551615∧s=0):=by
  rw [u64_wrap] at h
  omega
theorem sub_x {x s r:Int} (hx0:0≤x) (hx1:x<18446744073709551616) (hs0:0≤s) (hs1:s<18446744073709551616) (h:IntKind.u64.wrap (x-s)=r):0≤r∧r<18446744073709551616∧((¬ x<s∧r=x-s)∨(x<s∧r=x-s+18446744073709551616)):=by
  rw [u64_wrap] at h
  omega
theorem sub_calls (a b:List Int) (A A':Option Addr) (c c':Nat) (w:World) (hda:Dig a) (hdb:Dig b) (hr:Rd w a A c) (hr':Rd w b A' c') (hla:a.length≤1000) (hl:b.length≤a.length) (hv:val b≤val a) :
    Calls Tryz.prog 108 #[.slice A a.length c,.slice A' b.length c'] w (RetRd (limbs (val a-val b)) w):=by
  have HR:=Aside0.mk hr
  have HR':=Aside0.mk hr'
  have DA:=Aside0.mk hda
  have DB:=Aside0.mk hdb
  have HV:=Aside0.mk hv
  clear hr hr' hda hdb hv
  go_enter Tryz.func108,Tryz.ntmps108
  go_wp2_with fail
  refine (clone_calls a A c _ HR.out (by omega)).mono ?_
  rintro e w1 ⟨hB1,⟨hnil,rfl⟩|⟨g,cp,rfl,hg,hcp,hm,hblk1⟩⟩
  · have HB1:=Aside0.mk hB1
    have e0:Aside0 (limbs (val a-val b)=[]):=⟨by rw [hnil,show val []=0 from rfl,Nat.zero_sub,limbs_zero]⟩
    clear hB1
    subst hnil
    go_wp2_with fail
    go_loopw [6,13] (fun v6 v13 wr=>v13 = .int .i64 0∧w1=wr) (fun _ _ _=>0)
    case atStart=>exact ⟨rfl,rfl⟩
    case round =>
      obtain ⟨rfl,rfl⟩:=hrel
      go_wp2_with fail
      refine (trim_calls [] none 0 _ (fun x hx=>by simp at hx) (Rd.nil _)).mono ?_
      rintro e w2 ⟨A2,c2,rfl,hr2,hB2⟩
      go_wp2
      go_ret
      refine ⟨A2,c2,?_,?_,HB1.out.trans (hB2.mono HB1.out.size)⟩
      · rw [e0.out,show limbs (val [])=[] from limbs_zero];rfl
      · rw [e0.out];exact hr2.of_eq limbs_zero
  · have HB1:=Aside0.mk hB1
    have hg:=Aside0.mk hg
    have hcp:=Aside0.mk hcp
    have hblk1:=Aside0.mk hblk1
    have hm:=Aside0.mk hm
    clear hB1
    go_wp2_with fail
    go_loopw [6,13] (fun v6 v13 wr=>∃ (i:Nat) (bw:Int) (cs:List Int),i≤a.length∧v13 = .int .i64 i∧v6 = .int .u64 bw∧Aside0 (SubInv a b i bw cs)∧Aside0 (Blk wr g cs)∧Aside0 (Below w.heap.size w wr)) (fun _ v13 _=>a.length-(intOf v13).toNat)
    case atStart=>exact ⟨0,0,a,by omega,rfl,rfl,⟨SubInv.start DA.out⟩,hblk1,HB1⟩
    case round =>
      obtain ⟨i,bw,cs,hi,rfl,rfl,hI,hblk,hB⟩:=hrel
      have hcl:=hI.out.1
      have hc0:=hI.out.2.2.1
      have hc1:=hI.out.2.2.2.1
      by_cases hil:i<a.length
      · have hfz:=hblk.out.frozen i
        have hcw:wr.cell? ⟨g,i,none⟩=some (.int .u64 (rd a i)):=by rw [← hI.out.2.2.2.2.1 i (Nat.le_refl _)];exact hblk.out.cell (by omega)
        have hx:=Aside0.mk (DA.out.rd (i:=(i:Int)) (by omega) (by omega))
        generalize hxx:rd a i=x at *
        have hxx:=Aside0.mk hxx
        by_cases hib:i<b.length
        · have hib1:decide (i<b.length)=true:=decide_eq_true hib
          have hib2:decide ((i:Int)<(b.length:Int))=true:=decide_eq_true (by omega)
          obtain ⟨ad',rfl,hcell'⟩:=Kd.at_int (HR'.out.below hB.out).2 (i:Int) (by omega) (by omega)
          simp only [Int.toNat_natCast] at hcell'
          have hy:=Aside0.mk (DB.out.rd (i:=(i:Int)) (by omega) (by omega))
          generalize hyy:rd b i=y at *
          have hyy:=Aside0.mk hyy
          obtain ⟨s,hs⟩:∃ s,IntKind.u64.wrap (bw+y)=s:=⟨_,rfl⟩
          have hS:=Aside0.mk (sub_y hy.out.1 hy.out.2 hc0 hc1 hs)
          obtain ⟨r,hr⟩:∃ r,IntKind.u64.wrap (x-s)=r:=⟨_,rfl⟩
          have hR:=Aside0.mk (sub_x hx.out.1 hx.out.2 (by have:=hS.out;omega) (by have:=hS.out;omega) hr)
          by_cases c1:s<y
          · have c1b:decide (s<y)=true:=decide_eq_true c1
            have c2:¬ x<s:=by have:=hR.out;have:=hS.out;have:=hx.out;omega
            have c2b:decide (x<s)=false:=decide_eq_false c2
            have fin:=Aside0.mk (hI.out.step hil (x:=x) (y:=y) (r:=r) (bw':=1) hxx.out (.inl ⟨hib,hyy.out,hy.out.1⟩) hx.out.1 hR.out.1 hR.out.2.1 (by omega) (by omega) (by have:=hR.out;have:=hS.out;have:=hy.out;have:=hx.out;omega))
            clear c1 c2
            go_wp2
            go_roundw
            case rel=>exact ⟨i+1,1,cs.set i r,by omega,by go_num,rfl,fin,⟨hblk.out.put (by omega) r⟩,⟨below_set hB.out hg.out⟩⟩
            case measure=>simp [intOf];omega
          · have c1b:decide (s<y)=false:=decide_eq_false c1
            by_cases c2:x<s
            · have c2b:decide (x<s)=true:=decide_eq_true c2
              have fin:=Aside0.mk (hI.out.step hil (x:=x) (y:=y) (r:=r) (bw':=1) hxx.out (.inl ⟨hib,hyy.out,hy.out.1⟩) hx.out.1 hR.out.1 hR.out.2.1 (by omega) (by omega) (by have:=hR.out;have:=hS.out;have:=hy.out;have:=hx.out;omega))
              clear c1 c2
              go_wp2
              go_roundw
              case rel=>exact ⟨i+1,1,cs.set i r,by omega,by go_num,rfl,fin,⟨hblk.out.put (by omega) r⟩,⟨below_set hB.out hg.out⟩⟩
              case measure=>simp [intOf];omega
            · have c2b:decide (x<s)=false:=decide_eq_false c2
              have fin:=Aside0.mk (hI.out.step hil (x:=x) (y:=y) (r:=r) (bw':=0) hxx.out (.inl ⟨hib,hyy.out,hy.out.1⟩) hx.out.1 hR.out.1 hR.out.2.1 (by omega) (by omega) (by have:=hR.out;have:=hS.out;have:=hy.out;have:=hx.out;omega))
              clear c1 c2
              go_wp2
              go_roundw
              case rel=>exact ⟨i+1,0,cs.set i r,by omega,by go_num,rfl,fin,⟨hblk.out.put (by omega) r⟩,⟨below_set hB.out hg.out⟩⟩
              case measure=>simp [intOf];omega
        · have hib1:decide (i<b.length)=false:=decide_eq_false hib
          have hib2:decide ((i:Int)<(b.length:Int))=false:=decide_eq_false (by omega)
          obtain ⟨r,hr⟩:∃ r,IntKind.u64.wrap (x-bw)=r:=⟨_,rfl⟩
          have hR:=Aside0.mk (sub_x hx.out.1 hx.out.2 hc0 (by omega) hr)
          by_cases c2:x<bw
          · have c2b:decide (x<bw)=true:=decide_eq_true c2
            have fin:=Aside0.mk (hI.out.step hil (x:=x) (y:=0) (r:=r) (bw':=1) hxx.out (.inr ⟨by omega,rfl⟩) hx.out.1 hR.out.1 hR.out.2.1 (by omega) (by omega) (by have:=hR.out;have:=hx.out;omega))
            clear c2
            go_wp2
            go_roundw
            case rel=>exact ⟨i+1,1,cs.set i r,by omega,by go_num,rfl,fin,⟨hblk.out.put (by omega) r⟩,⟨below_set hB.out hg.out⟩⟩
            case measure=>simp [intOf];omega
          · have c2b:decide (x<bw)=false:=decide_eq_false c2
            have fin:=Aside0.mk (hI.out.step hil (x:=x) (y:=0) (r:=r) (bw':=0) hxx.out (.inr ⟨by omega,rfl⟩) hx.out.1 hR.out.1 hR.out.2.1 (by omega) (by omega) (by have:=hR.out;have:=hx.out;omega))
            clear c2
            go_wp2
            go_roundw
            case rel=>exact ⟨i+1,0,cs.set i r,by omega,by go_num,rfl,fin,⟨hblk.out.put (by omega) r⟩,⟨below_set hB.out hg.out⟩⟩
            case measure=>simp [intOf];omega
      · obtain rfl:i=a.length:=by omega
        have hfin:=Aside0.mk (hI.out.done HV.out hl)
        have hrd:=Aside0.mk (hblk.out.all (c:=cp) (by have:=hcp.out;omega) (by have:=hm.out;omega))
        go_wp2_with fail
        have h:=trim_calls cs (some ⟨g,0,none⟩) cp _ hfin.out.1 hrd.out
        rw [hcl] at h
        refine h.mono ?_
        rintro e w2 ⟨A2,c2,rfl,hr2,hB2⟩
        go_wp2
        go_ret
        exact ⟨A2,c2,by rw [hfin.out.2.1];rfl,by rw [← hfin.out.2.1];exact hr2,hB.out.trans (hB2.mono hB.out.size)⟩
end
end Go.Proofs.YtmnkaldemjdcoaaGreat.Limbs
end
section
set_option linter.unusedVariables false
namespace Go.Proofs.YtmnkaldemjdcoaaGreat.BitsWalk
open RowKit YtmnkaldemjdcoaaGreatW.PrintWords YtmnkaldemjdcoaaGreatW.PrintLast YtmnkaldemjdcoaaGreatW.PrintMore YtmnkaldemjdcoaaGreatW.Aid
theorem wraps_u64 (n:Int) (h₀:0≤n) (h₁:n<2 ^ 64):IntKind.u64.wrap n=n:=by rw [u64_wrap];omega
theorem and32 {x:Int} (h0:0≤x) (h1:x<18446744073709551616):Go.bits .and .u64 x 4294967295=x%4294967296 :=
  bits_mask .u64 64 (by decide) wraps_u64 32 (by decide) x h0 h1
theorem ret2 {k k':IntKind} {a b a' b':Int} (h:a=a') (h':b=b'):Ending.returned (.tuple #[.int k a,.int k' b]) = .returned (.tuple #[.int k a',.int k' b']):=by rw [h,h']
theorem prod_bd {a b:Int} (ha:0≤a) (ha1:a<4294967296) (hb:0≤b) (hb1:b<4294967296):0≤a*b∧a*b≤18446744065119617025:=by
  refine ⟨Int.mul_nonneg ha hb,?_⟩
  have h:a*b≤4294967295*4294967295:=Int.mul_le_mul (by omega) (by omega) hb (by omega)
  omega
theorem mul64_hi {x y:Int} (hx:0≤x) (hx1:x<18446744073709551616) (hy:0≤y) (hy1:y<18446744073709551616) :
    x / 4294967296 * (y / 4294967296) + (x / 4294967296 * (y % 4294967296) + (x % 4294967296) * (y % 4294967296) / 4294967296) / 4294967296 +
      ((x/4294967296*(y%4294967296)+(x%4294967296)*(y%4294967296)/4294967296)%4294967296+(x%4294967296)*(y/4294967296))/4294967296=x*y/18446744073709551616:=by
  have e:x*y=(x/4294967296*(y/4294967296))*18446744073709551616+((x/4294967296*(y%4294967296))+(x%4294967296)*(y/4294967296))*4294967296+(x%4294967296)*(y%4294967296):=by
    have hx':x=x/4294967296*4294967296+x%4294967296:=by omega
    have hy':y=y/4294967296*4294967296+y%4294967296:=by omega
    generalize x/4294967296=x1 at *
    generalize x%4294967296=x0 at *
    generalize y/4294967296=y1 at *
    generalize y%4294967296=y0 at *
    subst hx' hy'
    simp only [Int.add_mul,Int.mul_add]
    have e1:x1*4294967296*(y1*4294967296)=x1*y1*18446744073709551616:=by
      rw [show x1*4294967296*(y1*4294967296)=x1*y1*(4294967296*4294967296) by simp only [Int.mul_assoc,Int.mul_left_comm,Int.mul_comm]];rfl
    have e2:x1*4294967296*y0=x1*y0*4294967296:=by simp only [Int.mul_assoc,Int.mul_comm,Int.mul_left_comm]
    have e3:x0*(y1*4294967296)=x0*y1*4294967296:=by simp only [Int.mul_assoc]
    rw [e1,e2,e3]
    omega
  rw [e]
  generalize x/4294967296*(y/4294967296)=p at *
  generalize x/4294967296*(y%4294967296)=q at *
  generalize x%4294967296*(y/4294967296)=r at *
  generalize x%4294967296*(y%4294967296)=s at *
  omega
section
set_option maxRecDepth 100000
set_option maxHeartbeats 1000000
theorem mul64_calls (x y:Int) (w:World) (hx:0≤x) (hx1:x<18446744073709551616) (hy:0≤y) (hy1:y<18446744073709551616) :
    Calls Tryz.prog 135 #[.int .u64 x,.int .u64 y] w fun e w'=>e = .returned (.tuple #[.int .u64 (x*y/18446744073709551616),.int .u64 (x*y%18446744073709551616)])∧w=w':=by
  have M:=Aside0.mk (mul64_hi hx hx1 hy hy1)
  have P1:=Aside0.mk (prod_bd (a:=x/4294967296) (b:=y/4294967296) (by omega) (by omega) (by omega) (by omega))
  have P2:=Aside0.mk (prod_bd (a:=x/4294967296) (b:=y%4294967296) (by omega) (by omega) (by omega) (by omega))
  have P3:=Aside0.mk (prod_bd (a:=x%4294967296) (b:=y/4294967296) (by omega) (by omega) (by omega) (by omega))
  have P4:=Aside0.mk (prod_bd (a:=x%4294967296) (b:=y%4294967296) (by omega) (by omega) (by omega) (by omega))
  have X:=Aside0.mk (and32 hx hx1)
  have Y:=Aside0.mk (and32 hy hy1)
  have HX:=Aside0.mk (And.intro hx hx1)
  have HY:=Aside0.mk (And.intro hy hy1)
  clear hx hx1 hy hy1
  go_enter Tryz.func135,Tryz.ntmps135
  go_wp2
  go_ret2
  obtain ⟨p10,p11⟩:=P1.out
  obtain ⟨p20,p21⟩:=P2.out
  obtain ⟨p30,p31⟩:=P3.out
  obtain ⟨p40,p41⟩:=P4.out
  have hm:=M.out
  have hX:=X.out
  have hY:=Y.out
  refine ⟨ret2 ?_ ?_,rfl⟩
  · simp only [hX,hY,u64_wrap]
    generalize x/4294967296*(y/4294967296)=p at *
    generalize x/4294967296*(y%4294967296)=q at *
    generalize x%4294967296*(y/4294967296)=r at *
    generalize x%4294967296*(y%4294967296)=s at *
    have h1:p%18446744073709551616=p:=by omega
    have h2:q%18446744073709551616=q:=by omega
    have h3:r%18446744073709551616=r:=by omega
    have h4:s%18446744073709551616=s:=by omega
    have h5:(q+s/4294967296)%18446744073709551616=q+s/4294967296:=by omega
    rw [h1,h2,h3,h4,h5,and32 (by omega) (by omega),← hm]
    omega
  · rw [u64_wrap]
end
theorem add64_run (x y c:Int) (hx:0≤x) (hy:0≤y) (hc0:0≤c) (hc:c≤1) (w:World) :
    (callFunc 136 #[.int .u64 x,.int .u64 y,.int .u64 c]).run Tryz.prog w = .ok (.value (.tuple #[.int .u64 ((x+y+c)%18446744073709551616),.int .u64 ((x+y+c)/18446744073709551616)])) w:=by
  rw [run_callFunc_extern Tryz.func136 (by kernel_rfl) (by kernel_rfl) (by kernel_rfl) (e:=add64Entry) (by kernel_rfl),run_add64 x y c hx hy hc0 hc]
  rfl
end Go.Proofs.YtmnkaldemjdcoaaGreat.BitsWalk
end
section
set_option linter.unusedVariables false
namespace Go.Proofs.YtmnkaldemjdcoaaGreat.Long
open RowKit YtmnkaldemjdcoaaGreatW.PrintWords YtmnkaldemjdcoaaGreatW.Aid
structure Ctx (u d y1 y0:Int):Prop where
  a:2147483648≤y1
  b:y1<4294967296
  c:0≤y0
  e:y0<4294967296
  f:0≤d
  g:d<4294967296
  h:0≤u
  i:u<y1*4294967296+y0
structure Guess (u d y1 y0 q r:Int):Prop where
  q0:0≤q
  q1:q≤4294967297
  r0:0≤r
  r1:r<4294967296
  eq:q*y1+r=u
  hi:u*4294967296+d<(q+1)*(y1*4294967296+y0)
structure Quo (u d y1 y0 q:Int):Prop where
  q0:0≤q
  q1:q<4294967296
  lo:q*(y1*4294967296+y0)≤u*4294967296+d
  hi:u*4294967296+d<(q+1)*(y1*4294967296+y0)
theorem mul_parts (q y1 y0:Int):q*(y1*4294967296+y0)=q*y1*4294967296+q*y0:=by rw [Int.mul_add,Int.mul_assoc]
theorem start {u d y1 y0:Int} (C:Ctx u d y1 y0):Guess u d y1 y0 (u/y1) (u-u/y1*y1):=by
  obtain ⟨a,b,c,e,f,g,h,i⟩:=C
  have hy:0<y1:=by omega
  have e1:u/y1*y1+u%y1=u:=by rw [Int.mul_comm];exact Int.mul_ediv_add_emod u y1
  have e2:=Int.emod_nonneg u (b:=y1) (by omega)
  have e3:=Int.emod_lt_of_pos u hy
  have e4:0≤u/y1:=Int.ediv_nonneg h (by omega)
  have e5:u/y1≤4294967297:=by
    rcases Int.lt_or_le 4294967297 (u/y1) with hq|hq
    · have:=Int.mul_le_mul_of_nonneg_right (show (4294967298:Int)≤u/y1 by omega) (show 0≤y1 by omega)
      omega
    · exact hq
  refine ⟨e4,e5,by omega,by omega,by omega,?_⟩
  rw [Int.add_mul,Int.one_mul,mul_parts]
  have e6:0≤u/y1*y0:=Int.mul_nonneg e4 c
  generalize u/y1*y1=p at *
  generalize u/y1*y0=p0 at *
  omega
theorem stop {u d y1 y0 q r:Int} (C:Ctx u d y1 y0) (G:Guess u d y1 y0 q r) (h1:q<4294967296) (h2:q*y0≤4294967296*r+d):Quo u d y1 y0 q:=by
  obtain ⟨a,b,c,e,f,g,h,i⟩:=C
  obtain ⟨k0,k1,k2,k3,k4,k5⟩:=G
  refine ⟨k0,h1,?_,k5⟩
  rw [mul_parts]
  generalize q*y1=p at *
  generalize q*y0=p0 at *
  omega
theorem down {u d y1 y0 q r:Int} (C:Ctx u d y1 y0) (G:Guess u d y1 y0 q r) (h1:4294967296≤q∨4294967296*r+d<q*y0) :
    0<q∧(r+y1<4294967296→Guess u d y1 y0 (q-1) (r+y1))∧(4294967296≤r+y1→Quo u d y1 y0 (q-1)):=by
  obtain ⟨a,b,c,e,f,g,h,i⟩:=C
  obtain ⟨k0,k1,k2,k3,k4,k5⟩:=G
  have hq:0<q:=by
    rcases h1 with h1|h1
    · omega
    · rcases Int.lt_or_le 0 q with hq|hq
      · exact hq
      · have:q=0:=by omega
        subst this
        omega
  have hlt:u*4294967296+d<q*(y1*4294967296+y0):=by
    rcases h1 with h1|h1
    · have:=Int.mul_le_mul_of_nonneg_right h1 (show 0≤y1*4294967296+y0 by omega)
      omega
    · rw [mul_parts]
      generalize q*y1=p at *
      generalize q*y0=p0 at *
      omega
  have e1:(q-1)*y1=q*y1-y1:=by rw [Int.sub_mul,Int.one_mul]
  have e2:(q-1+1)=q:=by omega
  refine ⟨hq,fun hr=>⟨by omega,by omega,by omega,by omega,by rw [e1];omega,by rw [e2];exact hlt⟩,fun hr=>?_⟩
  have hqb:q-1<4294967296:=by
    rcases Int.lt_or_le (q-1) 4294967296 with hh|hh
    · exact hh
    · have:=Int.mul_le_mul_of_nonneg_right hh (show 0≤y1 by omega)
      omega
  refine ⟨by omega,hqb,?_,by rw [e2];exact hlt⟩
  have e3:=Int.mul_le_mul (show q-1≤4294967295 by omega) (show y0≤4294967295 by omega) c (by omega)
  rw [mul_parts,e1]
  generalize q*y1=p at *
  generalize (q-1)*y0=p0 at *
  omega
theorem both {u d1 d0 y1 y0 q1 q0 v:Int} (C:Ctx u d1 y1 y0) (Q1:Quo u d1 y1 y0 q1) (hv:v=u*4294967296+d1-q1*(y1*4294967296+y0)) (Q0:Quo v d0 y1 y0 q0) :
    0 ≤ v * 4294967296 + d0 - q0 * (y1 * 4294967296 + y0) ∧ v * 4294967296 + d0 - q0 * (y1 * 4294967296 + y0) < y1 * 4294967296 + y0 ∧
      u*18446744073709551616+(d1*4294967296+d0)=(q1*4294967296+q0)*(y1*4294967296+y0)+(v*4294967296+d0-q0*(y1*4294967296+y0)):=by
  obtain ⟨a1,a2,a3,a4⟩:=Q1
  obtain ⟨b1,b2,b3,b4⟩:=Q0
  rw [Int.add_mul,Int.one_mul] at b4
  refine ⟨by omega,by omega,?_⟩
  rw [Int.add_mul,Int.mul_assoc,Int.mul_comm 4294967296,← Int.mul_assoc,hv]
  omega
theorem nextCtx {u d1 d0 y1 y0 q1:Int} (C:Ctx u d1 y1 y0) (Q1:Quo u d1 y1 y0 q1) (h0:0≤d0) (h1:d0<4294967296):Ctx (u*4294967296+d1-q1*(y1*4294967296+y0)) d0 y1 y0:=by
  obtain ⟨a1,a2,a3,a4⟩:=Q1
  obtain ⟨a,b,c,e,f,g,h,i⟩:=C
  rw [Int.add_mul,Int.one_mul] at a4
  exact ⟨a,b,c,e,h0,h1,by omega,by omega⟩
theorem unshift {hi lo y S u low Q R:Int} (hS:0<S) (hy:0<y) (e1:(hi*18446744073709551616+lo)*S=u*18446744073709551616+low) (e2:u*18446744073709551616+low=Q*(y*S)+R) (h0:0≤R) (h1:R<y*S) :
    Q=(hi*18446744073709551616+lo)/y∧R/S=(hi*18446744073709551616+lo)%y:=by
  generalize hi*18446744073709551616+lo=N at *
  have e3:(N-Q*y)*S=R:=by rw [Int.sub_mul,Int.mul_assoc];omega
  have e4:R/S=N-Q*y:=by rw [← e3];exact Int.mul_ediv_cancel _ (by omega)
  have h2:0≤N-Q*y:=by rw [← e4];exact Int.ediv_nonneg h0 (by omega)
  have h3:N-Q*y<y:=by
    rw [← e4]
    exact Int.ediv_lt_of_lt_mul hS h1
  have e5:N=(N-Q*y)+y*Q:=by rw [Int.mul_comm y Q];omega
  constructor
  · conv=>rhs;rw [e5]
    rw [Int.add_mul_ediv_left _ _ (by omega),Int.ediv_eq_zero_of_lt h2 h3]
    omega
  · rw [e4]
    conv=>rhs;rw [e5]
    rw [Int.add_mul_emod_self_left,Int.emod_eq_of_lt h2 h3]
end Go.Proofs.YtmnkaldemjdcoaaGreat.Long
set_option linter.unusedVariables false
namespace Go.Proofs.YtmnkaldemjdcoaaGreat.Long
open RowKit Go.Shelf YtmnkaldemjdcoaaGreatW.PrintWords YtmnkaldemjdcoaaGreatW.Aid
def ren:Ren:=⟨fun n=>if n=129 then 127 else if n=134 then 133 else 0,fun n=>if n=3 then 3 else if n=4 then 4 else if n=5 then 5 else if n=9 then 9 else if n=46 then 113 else if n=53 then 94 else 0,fun n=>n⟩
theorem lays129:Lays.n129 Tryz.prog ren where
  mixed:=by kernel_rfl
  f129:=by kernel_rfl
  t3:=by kernel_rfl
  a3:=fun _=>by kernel_rfl
  z3:=fun _=>by kernel_rfl
  v3:=fun _=>by kernel_rfl
  t4:=by kernel_rfl
  a4:=fun _=>by kernel_rfl
  z4:=fun _=>by kernel_rfl
  v4:=fun _=>by kernel_rfl
  t5:=by kernel_rfl
  a5:=fun _=>by kernel_rfl
  z5:=fun _=>by kernel_rfl
  v5:=fun _=>by kernel_rfl
  t9:=by kernel_rfl
  a9:=fun _=>by kernel_rfl
  z9:=fun _=>by kernel_rfl
  v9:=fun _=>by kernel_rfl
  t46:=by kernel_rfl
  a46:=fun _=>by kernel_rfl
  z46:=fun _=>by kernel_rfl
  v46:=fun _=>by kernel_rfl
  t53:=by kernel_rfl
  a53:=fun _=>by kernel_rfl
  z53:=fun _=>by kernel_rfl
  v53:=fun _=>by kernel_rfl
theorem lays134:Lays.n134 Tryz.prog ren:={ lays129 with f134:=by kernel_rfl }
theorem len64_calls (x:Int) (w:World) (h0:0≤x) (h1:x<18446744073709551616) :
    Calls Tryz.prog 127 #[.int .u64 x] w fun e w'=>e = .returned (.int .i64 (Lib.bitLen x.toNat))∧w=w' :=
  (Any.bits_Len64 lays129 x w h0 (by omega)).mono fun _ _ h=>⟨h.1,h.2.symm⟩
theorem lead64_calls (x:Int) (w:World) (h0:0≤x) (h1:x<18446744073709551616) :
    Calls Tryz.prog 133 #[.int .u64 x] w fun e w'=>e = .returned (.int .i64 (64-(Lib.bitLen x.toNat:Int)))∧w=w' :=
  (Any.bits_LeadingZeros64 lays134 x w h0 (by omega)).mono fun _ _ h=>⟨h.1,h.2.symm⟩
end Go.Proofs.YtmnkaldemjdcoaaGreat.Long
set_option linter.unusedVariables false
namespace Go.Proofs.YtmnkaldemjdcoaaGreat.Long
open RowKit YtmnkaldemjdcoaaGreatW.PrintWords YtmnkaldemjdcoaaGreatW.PrintLast YtmnkaldemjdcoaaGreatW.PrintMore YtmnkaldemjdcoaaGreatW.Aid YtmnkaldemjdcoaaGreat.BitsWalk
section
theorem or_shift (s:Nat) (hs:s<64) {a b:Int} (ha:0≤a) (ha1:a*2 ^ s<18446744073709551616) (hb:0≤b) (hb1:b<2 ^ s):Go.bits .or .u64 (a*2 ^ s) b=a*2 ^ s+b:=by
  have hp:(0:Int)<2 ^ s:=Int.pow_pos (by omega)
  have e:(2:Int) ^ s≤2 ^ 63:=by exact_mod_cast Nat.pow_le_pow_right (by omega) (show s≤63 by omega)
  refine bits_join .u64 64 (by decide) wraps_u64 s (a*2 ^ s) b (Int.mul_nonneg ha (by omega)) ?_ ?_ hb hb1 ?_
  · exact Int.mul_emod_left _ _
  · omega
  · omega
theorem prep (hi lo y:Int) (h0:0<hi) (h1:hi<y) (h2:0≤lo) (h3:lo<18446744073709551616) (h5:y<18446744073709551616) :
    ∃ (s:Nat) (Y y1 y0 u L d1 d0:Int),(64-(Go.Lib.bitLen y.toNat:Int))=(s:Int)∧s<64∧IntKind.u64.wrap (y*2 ^ s)=Y∧Y/4294967296=y1∧Go.bits .and .u64 Y 4294967295=y0 ∧
      Go.bits .or .u64 (IntKind.u64.wrap (hi*2 ^ s)) (lo/2 ^ (64-s))=u∧IntKind.u64.wrap (lo*2 ^ s)=L∧L/4294967296=d1∧Go.bits .and .u64 L 4294967295=d0∧Ctx u d1 y1 y0 ∧
      (0≤d0∧d0<4294967296∧Y=y1*4294967296+y0∧Y=y*2 ^ s∧(hi*18446744073709551616+lo)*2 ^ s=u*18446744073709551616+(d1*4294967296+d0)):=by
  have hy:0<y:=by omega
  obtain ⟨a,b,c⟩:=Go.Lib.bitLenAux_bounds 64 y.toNat (by omega) (by omega)
  have d:Go.Lib.bitLen y.toNat≤64:=Go.Lib.bitLen_le y.toNat 64 (by omega) (by omega)
  have e:Go.Lib.bitLenAux 64 y.toNat=Go.Lib.bitLen y.toNat:=rfl
  rw [e] at a b c
  generalize Go.Lib.bitLen y.toNat=n at *
  obtain ⟨s,rfl⟩:∃ s,n=64-s:=⟨64-n,by omega⟩
  have hs:s<64:=by omega
  have hS:(0:Int)<2 ^ s:=Int.pow_pos (by omega)
  have hT:(0:Int)<2 ^ (64-s):=Int.pow_pos (by omega)
  have hST:(2:Int) ^ s*2 ^ (64-s)=18446744073709551616:=by rw [← Int.pow_add,show s+(64-s)=64 by omega];rfl
  have hY1:y*2 ^ s<18446744073709551616:=by
    have h : y < 2 ^ (64 - s) := by have : (y.toNat : Int) < ((2 ^ (64 - s) : Nat) : Int) := by exact_mod_cast c
                                    rw [Int.toNat_of_nonneg (by omega)] at this;exact_mod_cast this
    rw [← hST,Int.mul_comm (2 ^ s)]
    exact Int.mul_lt_mul_of_pos_right h hS
  have hY0 : 9223372036854775808 ≤ y * 2 ^ s := by
    have h : (2 : Int) ^ (64 - s - 1) ≤ y := by have : ((2 ^ (64 - s - 1) : Nat) : Int) ≤ (y.toNat : Int) := by exact_mod_cast b
                                                rw [Int.toNat_of_nonneg (by omega)] at this;exact_mod_cast this
    have h':=Int.mul_le_mul_of_nonneg_right h (show (0:Int)≤2 ^ s by omega)
    rw [← Int.pow_add,show 64-s-1+s=63 by omega] at h'
    exact h'
  have hhi:hi*2 ^ s+2 ^ s≤y*2 ^ s:=by
    have:=Int.mul_le_mul_of_nonneg_right (show hi+1≤y by omega) (show (0:Int)≤2 ^ s by omega)
    rw [Int.add_mul,Int.one_mul] at this
    exact this
  have hhi0:0≤hi*2 ^ s:=Int.mul_nonneg (by omega) (by omega)
  have hq0:0≤lo/2 ^ (64-s):=Int.ediv_nonneg h2 (by omega)
  have hq1:lo/2 ^ (64-s)<2 ^ s:=Int.ediv_lt_of_lt_mul hT (by rw [hST];exact h3)
  have e1:IntKind.u64.wrap (y*2 ^ s)=y*2 ^ s:=wraps_u64 _ (by omega) (by omega)
  have e2:IntKind.u64.wrap (hi*2 ^ s)=hi*2 ^ s:=wraps_u64 _ (by omega) (by omega)
  have e3:Go.bits .or .u64 (hi*2 ^ s) (lo/2 ^ (64-s))=hi*2 ^ s+lo/2 ^ (64-s):=or_shift s hs (by omega) (by omega) hq0 hq1
  have e4:lo*2 ^ s=lo/2 ^ (64-s)*18446744073709551616+lo*2 ^ s%18446744073709551616:=by
    have h:=Int.mul_ediv_add_emod (lo*2 ^ s) 18446744073709551616
    have h':lo*2 ^ s/18446744073709551616=lo/2 ^ (64-s):=by
      rw [← hST,Int.mul_comm lo]
      exact Int.mul_ediv_mul_of_pos _ _ hS
    rw [h'] at h
    omega
  have e5:IntKind.u64.wrap (lo*2 ^ s)=lo*2 ^ s%18446744073709551616:=u64_wrap _
  refine ⟨s,_,_,_,_,_,_,_,by omega,hs,rfl,rfl,rfl,rfl,rfl,rfl,rfl,?_⟩
  rw [e1,e2,e3,e5,Int.add_mul,Int.mul_assoc hi,Int.mul_comm 18446744073709551616,← Int.mul_assoc hi]
  generalize lo/2 ^ (64-s)=t at *
  generalize hi*2 ^ s=p at *
  generalize hYY:y*2 ^ s=Y at *
  generalize hZ:lo*2 ^ s=Z at *
  rw [and32 (by omega) (by omega),and32 (by omega) (by omega)]
  exact ⟨⟨by omega,by omega,by omega,by omega,by omega,by omega,by omega,by omega⟩,by omega,by omega,by omega,rfl,by omega⟩
theorem first {u d y1 y0:Int} (C:Ctx u d y1 y0):∃ q r:Int,IntKind.u64.wrap (Int.tdiv u y1)=q∧IntKind.u64.wrap (u-IntKind.u64.wrap (q*y1))=r∧Guess u d y1 y0 q r:=by
  have G:=start C
  have h:=G.eq
  have h0:=G.r0
  have h1:=G.r1
  have h2:0≤u/y1*y1:=Int.mul_nonneg G.q0 (by have:=C.a;omega)
  have c1:=C.b
  have c2:=C.e
  have c3:=C.i
  have hq:IntKind.u64.wrap (Int.tdiv u y1)=u/y1:=by
    rw [Int.tdiv_eq_ediv_of_nonneg C.h,u64_wrap]
    have a:=G.q0
    have b:=G.q1
    omega
  refine ⟨_,_,hq,?_,G⟩
  rw [u64_wrap,u64_wrap]
  generalize u/y1*y1=p at *
  omega
theorem second {u d1 d0 y1 y0 q1 Y y S N:Int} (C:Ctx u d1 y1 y0) (Q:Quo u d1 y1 y0 q1) (hn:0≤d0∧d0<4294967296∧Y=y1*4294967296+y0∧Y=y*S∧N*S=u*18446744073709551616+(d1*4294967296+d0)) :
    ∃ v q r:Int,IntKind.u64.wrap (IntKind.u64.wrap (IntKind.u64.wrap (u*4294967296)+d1)-IntKind.u64.wrap (q1*Y))=v∧IntKind.u64.wrap (Int.tdiv v y1)=q∧IntKind.u64.wrap (v-IntKind.u64.wrap (q*y1))=r∧v=u*4294967296+d1-q1*(y1*4294967296+y0)∧Ctx v d0 y1 y0∧Guess v d0 y1 y0 q r:=by
  have C2:=nextCtx C Q hn.1 hn.2.1
  obtain ⟨q,r,a,b,c⟩:=first C2
  refine ⟨_,q,r,?_,a,b,rfl,C2,c⟩
  have h0:=C2.h
  have h1:=C2.i
  have h2:=C2.b
  have h3:=C2.e
  rw [u64_wrap,u64_wrap,u64_wrap,u64_wrap,hn.2.2.1]
  generalize q1*(y1*4294967296+y0)=p at *
  omega
theorem final {u v d1 d0 y1 y0 q1 q2 Y hi lo y:Int} {s:Nat} (C:Ctx u d1 y1 y0) (Q:Quo u d1 y1 y0 q1) (hv:v=u*4294967296+d1-q1*(y1*4294967296+y0)) (Q2:Quo v d0 y1 y0 q2)
    (hn:0≤d0∧d0<4294967296∧Y=y1*4294967296+y0∧Y=y*2 ^ s∧(hi*18446744073709551616+lo)*2 ^ s=u*18446744073709551616+(d1*4294967296+d0)) (h0:0<hi) (h1:hi<y) :
    IntKind.u64.wrap (IntKind.u64.wrap (q1*4294967296)+q2)=(hi*18446744073709551616+lo)/y∧IntKind.u64.wrap (IntKind.u64.wrap (IntKind.u64.wrap (v*4294967296)+d0)-IntKind.u64.wrap (q2*Y))/2 ^ s=(hi*18446744073709551616+lo)%y:=by
  obtain ⟨a,b,c⟩:=both C Q hv Q2
  have hS:(0:Int)<2 ^ s:=Int.pow_pos (by omega)
  have e:=hn.2.2.1
  have h2:=C.b
  have h3:=C.e
  have hU:=unshift (hi:=hi) (lo:=lo) (y:=y) (S:=2 ^ s) (low:=d1*4294967296+d0) (u:=u) (Q:=q1*4294967296+q2) (R:=v*4294967296+d0-q2*(y1*4294967296+y0)) hS (by omega) hn.2.2.2.2 (by rw [← hn.2.2.2.1,e];exact c) a (by rw [← hn.2.2.2.1,e];exact b)
  have k0:=Q.q0
  have k1:=Q.q1
  have k2:=Q2.q0
  have k3:=Q2.q1
  rw [← hU.1,← hU.2,e]
  constructor
  · rw [wraps_u64 (q1*4294967296) (by omega) (by omega)]
    exact wraps_u64 _ (by omega) (by omega)
  · congr 1
    rw [u64_wrap,u64_wrap,u64_wrap,u64_wrap]
    generalize q2*(y1*4294967296+y0)=p at *
    omega
set_option maxRecDepth 100000
set_option maxHeartbeats 1000000
theorem div64_zero (lo y:Int) (w:World) (h2:0≤lo) (h3:lo<18446744073709551616) (h4:0<y) (h5:y<18446744073709551616) :
    Calls Tryz.prog 137 #[.int .u64 0,.int .u64 lo,.int .u64 y] w fun e w'=>e = .returned (.tuple #[.int .u64 (lo/y),.int .u64 (lo%y)])∧∃ n,w'=w.drewN n:=by
  have b1:(y == 0)=false:=by simp;omega
  have b2:decide (y≤0)=false:=decide_eq_false (by omega)
  have hy0:¬ y=0:=by omega
  go_enter Tryz.func137,Tryz.ntmps137
  go_wp2_with fail
  go_quiet (fail)
  go_wp2
  go_ret2
  exact ⟨rfl,_,rfl⟩
theorem div64_pos (hi lo y:Int) (w:World) (h0:0<hi) (h1:hi<y) (h2:0≤lo) (h3:lo<18446744073709551616) (h5:y<18446744073709551616) :
    Calls Tryz.prog 137 #[.int .u64 hi,.int .u64 lo,.int .u64 y] w fun e w'=>e = .returned (.tuple #[.int .u64 ((hi*18446744073709551616+lo)/y),.int .u64 ((hi*18446744073709551616+lo)%y)])∧∃ n,w'=w.drewN n:=by
  have b1:(y == 0)=false:=by simp;omega
  have b2:decide (y≤hi)=false:=decide_eq_false (by omega)
  have b3:(hi == 0)=false:=by simp;omega
  have HL:=Aside0.mk (lead64_calls y w (by omega) h5)
  obtain ⟨s,Y,y1,y0,u,L,d1,d0,hs,hs64,eY,eY1,eY0,eU,eL,eL1,eL0,hC,hn⟩:=prep hi lo y h0 h1 h2 h3 h5
  rw [hs] at HL
  have HC:=Aside0.mk hC
  have HN:=Aside0.mk hn
  have hy1:¬ y1=0:=by have:=hC.a;omega
  have hy1b:(y1 == 0)=false:=by simp;exact hy1
  obtain ⟨q,r,eq,er,hG⟩:=first hC
  have HG:=Aside0.mk hG
  have HH:=Aside0.mk (And.intro h0 h1)
  clear hC hn hG hs h0 h1 h2 h3 h5
  go_enter Tryz.func137,Tryz.ntmps137
  go_upto_block 0 with (go_at_call 133;refine HL.out.mono ?_;rintro e w1 ⟨rfl,rfl⟩)
  go_cut [15,16] (fun v15 v16 wx=>∃ q1:Int,v15 = .int .u64 q1∧Aside0 (Quo u d1 y1 y0 q1)∧w=wx)
  case first =>
    go_wp2_with fail
    go_loopw [15,16] (fun vq vr wr=>∃ q r:Int,vq = .int .u64 q∧vr = .int .u64 r∧Aside0 (Guess u d1 y1 y0 q r)∧w=wr) (fun vq _ _=>(intOf vq).toNat)
    case atStart=>exact ⟨q,r,rfl,rfl,HG,rfl⟩
    case round =>
      obtain ⟨q,r,rfl,rfl,hG,rfl⟩:=hrel
      have hq:=Aside0.mk (And.intro hG.out.q0 hG.out.q1)
      have hr:=Aside0.mk (And.intro hG.out.r0 hG.out.r1)
      have DN:Aside0 ((4294967296≤q∨4294967296*r+d1<q*y0)→0<q∧IntKind.u64.wrap (q-1)=q-1∧IntKind.u64.wrap (r+y1)=r+y1∧(r+y1<4294967296→Guess u d1 y1 y0 (q-1) (r+y1))∧(4294967296≤r+y1→Quo u d1 y1 y0 (q-1))) :=
        ⟨fun h=>by
          obtain ⟨a,b,c⟩:=down HC.out hG.out h
          have k0:=hq.out
          have k1:=hr.out
          have k2:=HC.out.a
          have k3:=HC.out.b
          exact ⟨a,wraps_u64 _ (by omega) (by omega),wraps_u64 _ (by omega) (by omega),b,c⟩⟩
      by_cases c1:4294967296≤q
      · have c1b:decide (4294967296≤q)=true:=decide_eq_true c1
        obtain ⟨a,e1,e2,b,c⟩:=DN.out (.inl c1)
        have hb:=Aside0.mk b
        have hc:=Aside0.mk c
        have ha:=Aside0.mk a
        clear a b c
        by_cases c3:4294967296≤r+y1
        · have c3b:decide (4294967296≤r+y1)=true:=decide_eq_true c3
          have hQ:=Aside0.mk (hc.out c3)
          clear hb hc DN c1 c3
          go_wp2_with fail
          go_meet
          case rel=>exact ⟨q-1,rfl,hQ,by trivial⟩
        · have c3b:decide (4294967296≤r+y1)=false:=decide_eq_false c3
          have hQ:=Aside0.mk (hb.out (by omega))
          clear hb hc DN c1 c3
          go_wp2_with fail
          go_roundw
          case rel=>exact ⟨q-1,r+y1,rfl,rfl,hQ,by trivial⟩
          case measure=>simp [intOf];have:=ha.out;omega
      · have c1b:decide (4294967296≤q)=false:=decide_eq_false c1
        have hP:IntKind.u64.wrap (q*y0)=q*y0:=by
          have k0:=hq.out
          have h1:=Int.mul_le_mul (show q≤4294967295 by omega) (show y0≤4294967295 by have:=HC.out.e;omega) HC.out.c (by omega)
          exact wraps_u64 _ (Int.mul_nonneg k0.1 HC.out.c) (by omega)
        have hT:IntKind.u64.wrap (IntKind.u64.wrap (4294967296*r)+d1)=4294967296*r+d1:=by
          have k1:=hr.out
          have k2:=HC.out.f
          have k3:=HC.out.g
          rw [wraps_u64 (4294967296*r) (by omega) (by omega)]
          exact wraps_u64 _ (by omega) (by omega)
        have ST:Aside0 (¬ 4294967296*r+d1<q*y0→Quo u d1 y1 y0 q):=⟨fun h=>stop HC.out hG.out (by omega) (by omega)⟩
        by_cases c2:4294967296*r+d1<q*y0
        · have c2b:decide (4294967296*r+d1<q*y0)=true:=decide_eq_true c2
          obtain ⟨a,e1,e2,b,c⟩:=DN.out (.inr c2)
          have hb:=Aside0.mk b
          have hc:=Aside0.mk c
          have ha:=Aside0.mk a
          clear a b c
          by_cases c3:4294967296≤r+y1
          · have c3b:decide (4294967296≤r+y1)=true:=decide_eq_true c3
            have hQ:=Aside0.mk (hc.out c3)
            clear hb hc DN c1 c3
            go_wp2_with fail
            go_meet
            case rel=>exact ⟨q-1,rfl,hQ,by trivial⟩
          · have c3b:decide (4294967296≤r+y1)=false:=decide_eq_false c3
            have hQ:=Aside0.mk (hb.out (by omega))
            clear hb hc DN c1 c3
            go_wp2_with fail
            go_roundw
            case rel=>exact ⟨q-1,r+y1,rfl,rfl,hQ,by trivial⟩
            case measure=>simp [intOf];have:=ha.out;omega
        · have c2b:decide (4294967296*r+d1<q*y0)=false:=decide_eq_false c2
          have hQ:=Aside0.mk (ST.out c2)
          clear DN ST c1 c2
          go_wp2_with fail
          go_meet
          case rel=>exact ⟨q,rfl,hQ,by trivial⟩
  case rest =>
    obtain ⟨q1,rfl,hQ1,rfl⟩:=hcut
    obtain ⟨v,q0,r0,ev,eq0,er0,hv,hC2,hG2⟩:=second HC.out hQ1.out HN.out
    have HC2:=Aside0.mk hC2
    have HG2:=Aside0.mk hG2
    have HV:=Aside0.mk hv
    clear hC2 hG2 hv HL
    go_upto_block 2 with fail
    go_cut [18,16] (fun v18 v16 wx=>∃ q2:Int,v18 = .int .u64 q2∧Aside0 (Quo v d0 y1 y0 q2)∧w=wx)
    case first =>
      go_wp2_with fail
      go_loopw [18,16] (fun vq vr wr=>∃ q r:Int,vq = .int .u64 q∧vr = .int .u64 r∧Aside0 (Guess v d0 y1 y0 q r)∧w=wr) (fun vq _ _=>(intOf vq).toNat)
      case atStart=>exact ⟨q0,r0,rfl,rfl,HG2,rfl⟩
      case round =>
        obtain ⟨q,r,rfl,rfl,hG,rfl⟩:=hrel
        have hq:=Aside0.mk (And.intro hG.out.q0 hG.out.q1)
        have hr:=Aside0.mk (And.intro hG.out.r0 hG.out.r1)
        have DN:Aside0 ((4294967296≤q∨4294967296*r+d0<q*y0)→0<q∧IntKind.u64.wrap (q-1)=q-1∧IntKind.u64.wrap (r+y1)=r+y1∧(r+y1<4294967296→Guess v d0 y1 y0 (q-1) (r+y1))∧(4294967296≤r+y1→Quo v d0 y1 y0 (q-1))) :=
          ⟨fun h=>by
            obtain ⟨a,b,c⟩:=down HC2.out hG.out h
            have k0:=hq.out
            have k1:=hr.out
            have k2:=HC2.out.a
            have k3:=HC2.out.b
            exact ⟨a,wraps_u64 _ (by omega) (by omega),wraps_u64 _ (by omega) (by omega),b,c⟩⟩
        by_cases c1:4294967296≤q
        · have c1b:decide (4294967296≤q)=true:=decide_eq_true c1
          obtain ⟨a,e1,e2,b,c⟩:=DN.out (.inl c1)
          have hb:=Aside0.mk b
          have hc:=Aside0.mk c
          have ha:=Aside0.mk a
          clear a b c
          by_cases c3:4294967296≤r+y1
          · have c3b:decide (4294967296≤r+y1)=true:=decide_eq_true c3
            have hQ:=Aside0.mk (hc.out c3)
            clear hb hc DN c1 c3
            go_wp2_with fail
            go_meet
            case rel=>exact ⟨q-1,rfl,hQ,by trivial⟩
          · have c3b:decide (4294967296≤r+y1)=false:=decide_eq_false c3
            have hQ:=Aside0.mk (hb.out (by omega))
            clear hb hc DN c1 c3
            go_wp2_with fail
            go_roundw
            case rel=>exact ⟨q-1,r+y1,rfl,rfl,hQ,by trivial⟩
            case measure=>simp [intOf];have:=ha.out;omega
        · have c1b:decide (4294967296≤q)=false:=decide_eq_false c1
          have hP:IntKind.u64.wrap (q*y0)=q*y0:=by
            have k0:=hq.out
            have h1:=Int.mul_le_mul (show q≤4294967295 by omega) (show y0≤4294967295 by have:=HC2.out.e;omega) HC2.out.c (by omega)
            exact wraps_u64 _ (Int.mul_nonneg k0.1 HC2.out.c) (by omega)
          have hT:IntKind.u64.wrap (IntKind.u64.wrap (4294967296*r)+d0)=4294967296*r+d0:=by
            have k1:=hr.out
            have k2:=HC2.out.f
            have k3:=HC2.out.g
            rw [wraps_u64 (4294967296*r) (by omega) (by omega)]
            exact wraps_u64 _ (by omega) (by omega)
          have ST:Aside0 (¬ 4294967296*r+d0<q*y0→Quo v d0 y1 y0 q):=⟨fun h=>stop HC2.out hG.out (by omega) (by omega)⟩
          by_cases c2:4294967296*r+d0<q*y0
          · have c2b:decide (4294967296*r+d0<q*y0)=true:=decide_eq_true c2
            obtain ⟨a,e1,e2,b,c⟩:=DN.out (.inr c2)
            have hb:=Aside0.mk b
            have hc:=Aside0.mk c
            have ha:=Aside0.mk a
            clear a b c
            by_cases c3:4294967296≤r+y1
            · have c3b:decide (4294967296≤r+y1)=true:=decide_eq_true c3
              have hQ:=Aside0.mk (hc.out c3)
              clear hb hc DN c1 c3
              go_wp2_with fail
              go_meet
              case rel=>exact ⟨q-1,rfl,hQ,by trivial⟩
            · have c3b:decide (4294967296≤r+y1)=false:=decide_eq_false c3
              have hQ:=Aside0.mk (hb.out (by omega))
              clear hb hc DN c1 c3
              go_wp2_with fail
              go_roundw
              case rel=>exact ⟨q-1,r+y1,rfl,rfl,hQ,by trivial⟩
              case measure=>simp [intOf];have:=ha.out;omega
          · have c2b:decide (4294967296*r+d0<q*y0)=false:=decide_eq_false c2
            have hQ:=Aside0.mk (ST.out c2)
            clear DN ST c1 c2
            go_wp2_with fail
            go_meet
            case rel=>exact ⟨q,rfl,hQ,by trivial⟩
    case rest =>
      obtain ⟨q2,rfl,hQ2,rfl⟩:=hcut
      have FIN:=Aside0.mk (final HC.out hQ1.out HV.out hQ2.out HN.out HH.out.1 HH.out.2)
      go_wp2
      go_ret2
      refine ⟨ret2 ?_ ?_,0,rfl⟩
      · exact FIN.out.1
      · exact FIN.out.2
theorem div64_calls (hi lo y:Int) (w:World) (h0:0≤hi) (h1:hi<y) (h2:0≤lo) (h3:lo<18446744073709551616) (h5:y<18446744073709551616) :
    Calls Tryz.prog 137 #[.int .u64 hi,.int .u64 lo,.int .u64 y] w fun e w'=>e = .returned (.tuple #[.int .u64 ((hi*18446744073709551616+lo)/y),.int .u64 ((hi*18446744073709551616+lo)%y)])∧∃ n,w'=w.drewN n:=by
  by_cases h:hi=0
  · subst h
    have:=div64_zero lo y w h2 h3 h1 h5
    rwa [show (0:Int)*18446744073709551616+lo=lo by omega]
  · exact div64_pos hi lo y w (by omega) h1 h2 h3 h5
end
end Go.Proofs.YtmnkaldemjdcoaaGreat.Long
end
section
set_option linter.unusedVariables false
namespace Go.Proofs.YtmnkaldemjdcoaaGreat.Limbs
open RowKit YtmnkaldemjdcoaaGreatW.PrintWords YtmnkaldemjdcoaaGreatW.PrintLast YtmnkaldemjdcoaaGreatW.PrintMore YtmnkaldemjdcoaaGreatW.Aid YtmnkaldemjdcoaaGreatW.Big YtmnkaldemjdcoaaGreat.BitsWalk
def LeftInv (a:List Int) (k s i:Nat) (cs:List Int):Prop :=
  cs.length=a.length+k+1∧Dig cs∧(∀ j:Nat,j<k→rd cs j=0)∧rd cs ((i+k:Nat):Int)<2 ^ s∧(∀ j:Nat,i+k<j→rd cs j=0)∧val (cs.take (k+i+1))=18446744073709551616 ^ k*(val (a.take i)*2 ^ s)
theorem LeftInv.start (a:List Int) (k s:Nat):LeftInv a k s 0 (List.replicate (a.length+k+1) 0):=by
  refine ⟨by simp,Dig.zeros _,fun j _=>rd_zeros,by rw [rd_zeros];exact Int.pow_pos (by omega),fun j _=>rd_zeros,?_⟩
  rw [List.take_replicate,val_zeros]
  simp [val]
theorem bits_comm_or (a b:Int):Go.bits .or .u64 a b=Go.bits .or .u64 b a:=by
  simp [Go.bits,Nat.or_comm]
theorem below_drew1 {B:Nat} {w w1:World} (h:Below B w w1):Below B w w1.drew:=⟨h.os,h.tape,h.output,h.size,h.block⟩
theorem Blk.drew {w:World} {g:Nat} {l:List Int} (h:Blk w g l):Blk w.drew g l:=h
theorem left_parts {s:Nat} {x y:Int} (hs:s<64) (hx0:0≤x) (hx1:x<18446744073709551616) (hy0:0≤y) (hy1:y<2 ^ s) :
    0 ≤ Go.bits .or .u64 y (IntKind.u64.wrap (x * 2 ^ s)) ∧ Go.bits .or .u64 y (IntKind.u64.wrap (x * 2 ^ s)) < 18446744073709551616 ∧ 0 ≤ x / 2 ^ (64 - s) ∧ x / 2 ^ (64 - s) < 2 ^ s ∧ x / 2 ^ (64 - s) < 18446744073709551616 ∧
      Go.bits .or .u64 y (IntKind.u64.wrap (x*2 ^ s))+18446744073709551616*(x/2 ^ (64-s))=y+x*2 ^ s:=by
  have hS:(0:Int)<2 ^ s:=Int.pow_pos (by omega)
  have hT:(0:Int)<2 ^ (64-s):=Int.pow_pos (by omega)
  have hST:(2:Int) ^ s*2 ^ (64-s)=18446744073709551616:=by rw [← Int.pow_add,show s+(64-s)=64 by omega];rfl
  have e:(2:Int) ^ s≤2 ^ 63:=by exact_mod_cast Nat.pow_le_pow_right (by omega) (show s≤63 by omega)
  have hdiv:x*2 ^ s/18446744073709551616=x/2 ^ (64-s):=by
    rw [← hST,Int.mul_comm x]
    exact Int.mul_ediv_mul_of_pos _ _ hS
  have hmod:x*2 ^ s%18446744073709551616=x%2 ^ (64-s)*2 ^ s:=by
    rw [← hST,Int.mul_comm x,Int.mul_emod_mul_of_pos _ _ hS,Int.mul_comm]
  have hm0:=Int.emod_nonneg x (b:=2 ^ (64-s)) (by omega)
  have hm1:=Int.emod_lt_of_pos x hT
  have hml:x%2 ^ (64-s)*2 ^ s+2 ^ s≤18446744073709551616:=by
    have:=Int.mul_le_mul_of_nonneg_right (show x%2 ^ (64-s)+1≤2 ^ (64-s) by omega) (show (0:Int)≤2 ^ s by omega)
    rw [Int.add_mul,Int.one_mul,Int.mul_comm (2 ^ (64-s)),hST] at this
    exact this
  have ho:Go.bits .or .u64 y (IntKind.u64.wrap (x*2 ^ s))=y+x*2 ^ s%18446744073709551616:=by
    rw [u64_wrap,hmod,bits_comm_or,Go.Proofs.YtmnkaldemjdcoaaGreat.Long.or_shift s hs hm0 (by omega) hy0 hy1]
    omega
  have hq0:0≤x/2 ^ (64-s):=Int.ediv_nonneg hx0 (by omega)
  have hq1:x/2 ^ (64-s)<2 ^ s:=Int.ediv_lt_of_lt_mul hT (by rw [hST];exact hx1)
  have hsum:=Int.mul_ediv_add_emod (x*2 ^ s) 18446744073709551616
  rw [hdiv] at hsum
  rw [ho]
  refine ⟨?_,?_,hq0,hq1,by omega,by omega⟩
  · have:=Int.emod_nonneg (x*2 ^ s) (b:=18446744073709551616) (by omega)
    omega
  · rw [hmod];omega
theorem LeftInv.step {a cs:List Int} {k s i:Nat} {x y v1 v2:Int} (h:LeftInv a k s i cs) (hi:i<a.length) (hx:rd a i=x) (hy:rd cs ((i+k:Nat):Int)=y) (hx0:0≤x)
    (hv:0≤v1∧v1<18446744073709551616∧0≤v2∧v2<2 ^ s∧v2<18446744073709551616∧v1+18446744073709551616*v2=y+x*2 ^ s):LeftInv a k s (i+1) ((cs.set (i+k) v1).set (i+k+1) v2):=by
  obtain ⟨h1,h2,h3,h4,h5,h6⟩:=h
  obtain ⟨b1,b2,b3,b4,b5,b6⟩:=hv
  have hy0:0≤y:=hy ▸ (h2.rd (i:=((i+k:Nat):Int)) (by omega) (by omega)).1
  refine ⟨by simpa using h1,(h2.set _ b1 b2).set _ b3 b5,fun j hj=>?_,?_,fun j hj=>?_,?_⟩
  · rw [rd_set_ne _ (by omega),rd_set_ne _ (by omega)];exact h3 j hj
  · rw [show i+1+k=i+k+1 by omega,rd_set_eq _ (by simp;omega)];exact b4
  · rw [rd_set_ne _ (by omega),rd_set_ne _ (by omega)];exact h5 j (by omega)
  · rw [show k+(i+1)+1=i+k+1+1 by omega,val_set_take (by simp;omega),val_set_take (by omega),val_take_succ hi,hx]
    rw [show k+i+1=i+k+1 by omega,val_take_succ (by omega),hy] at h6
    have e:v1.toNat+18446744073709551616*v2.toNat=y.toNat+x.toNat*2 ^ s:=by
      have p:((x.toNat*2 ^ s:Nat):Int)=x*2 ^ s:=by rw [Int.natCast_mul,Int.toNat_of_nonneg hx0];norm_cast
      omega
    have t:=congrArg (18446744073709551616 ^ (i+k)*·) e
    simp only [Nat.mul_add] at t
    have q1:18446744073709551616 ^ (i+k)*(x.toNat*2 ^ s)=18446744073709551616 ^ k*(18446744073709551616 ^ i*x.toNat*2 ^ s):=by
      rw [Nat.pow_add];ac_rfl
    have q2:18446744073709551616 ^ (i+k+1)*v2.toNat=18446744073709551616 ^ (i+k)*(18446744073709551616*v2.toNat):=by rw [Nat.pow_succ,Nat.mul_assoc]
    rw [Nat.add_mul,Nat.mul_add,← q1,q2]
    omega
theorem LeftInv.done {a cs:List Int} {k s n:Nat} (h:LeftInv a k s a.length cs) (hn:n=64*k+s):Dig cs∧val cs=val a*2 ^ n:=by
  obtain ⟨h1,h2,h3,h4,h5,h6⟩:=h
  rw [List.take_of_length_le (by omega),List.take_length] at h6
  refine ⟨h2,?_⟩
  rw [h6,hn,Nat.pow_add,Nat.pow_mul]
  show 18446744073709551616 ^ k*(val a*2 ^ s)=val a*(18446744073709551616 ^ k*2 ^ s)
  ac_rfl
section
set_option maxRecDepth 10000
set_option maxHeartbeats 1000000
theorem left_calls (a:List Int) (n:Nat) (A:Option Addr) (c:Nat) (w:World) (hda:Dig a) (hr:Rd w a A c) (hla:a.length≤1000) (hn:n≤6400) :
    Calls Tryz.prog 111 #[.slice A a.length c,.int .i64 n] w (RetRd (limbs (val a*2 ^ n)) w):=by
  have HR:=Aside0.mk hr
  have DA:=Aside0.mk hda
  clear hr hda
  obtain ⟨k,hk⟩:∃ k,n/64=k:=⟨_,rfl⟩
  obtain ⟨s,hs⟩:∃ s,n%64=s:=⟨_,rfl⟩
  by_cases h0:a.length=0
  · have hb:((a.length:Int) == 0)=true:=by simp [h0]
    have e:Aside0 (limbs (val a*2 ^ n)=[]):=⟨by rw [List.length_eq_zero_iff.1 h0];simp [val,limbs_zero]⟩
    go_enter Tryz.func111,Tryz.ntmps111
    go_wp2
    go_ret
    exact ⟨none,0,by rw [e.out];rfl,by rw [e.out];exact Rd.nil _,Below.refl _ _⟩
  · have hb:((a.length:Int) == 0)=false:=beq_eq_false_iff_ne.2 (by omega)
    have hki:(n:Int)/64=(k:Int):=by omega
    have hsi:(n:Int)%64=(s:Int):=by omega
    have hk100:k≤100:=by omega
    have hs64:s<64:=by omega
    have HN:Aside0 (n=64*k+s):=⟨by omega⟩
    clear hk hs hn
    have hmk:=fun w=>mk_run (a.length+k+1) (by omega) ((a.length:Int)+(k:Int)+1) (by omega) w
    go_enter Tryz.func111,Tryz.ntmps111
    go_wp2_with fail
    go_loopw [20] (fun v20 wr=>∃ (i:Nat) (cs:List Int),i≤a.length∧v20 = .int .i64 i∧Aside0 (LeftInv a k s i cs)∧Aside0 (Blk wr w.heap.size cs)∧Aside0 (Below w.heap.size w wr)) (fun v20 _=>a.length-(intOf v20).toNat)
    case atStart=>exact ⟨0,_,by omega,rfl,⟨LeftInv.start _ _ _⟩,⟨Blk.new w _⟩,⟨below_alloc (Below.refl _ _) _⟩⟩
    case round =>
      obtain ⟨i,cs,hi,rfl,hI,hblk,hB⟩:=hrel
      have hcl:=hI.out.1
      clear hmk
      by_cases hil:i<a.length
      · obtain ⟨ad,rfl,hcell⟩:=Kd.at_int (HR.out.below hB.out).2 (i:Int) (by omega) (by omega)
        simp only [Int.toNat_natCast] at hcell
        have hx:=Aside0.mk (DA.out.rd (i:=(i:Int)) (by omega) (by omega))
        have hfz:=hblk.out.frozen (i+k)
        have hcw:wr.cell? ⟨w.heap.size,i+k,none⟩=some (.int .u64 (rd cs ((i+k:Nat):Int))):=hblk.out.cell (by omega)
        have hfz':=hblk.out.frozen (i+k+1)
        have hcw':wr.cell? ⟨w.heap.size,i+k+1,none⟩=some (.int .u64 (rd cs ((i+k+1:Nat):Int))):=hblk.out.cell (by omega)
        generalize hxx:rd a i=x at *
        have hxx:=Aside0.mk hxx
        generalize hyy:rd cs ((i+k:Nat):Int)=y at *
        have hyy:=Aside0.mk hyy
        generalize hzz:rd cs ((i+k+1:Nat):Int)=z at *
        have hv:=Aside0.mk (left_parts hs64 hx.out.1 hx.out.2 (hyy.out ▸ (hI.out.2.1.rd (i:=((i+k:Nat):Int)) (by omega) (by omega)).1) (hyy.out ▸ hI.out.2.2.2.1))
        obtain ⟨v1,ev1⟩:∃ v1,Go.bits .or .u64 y (IntKind.u64.wrap (x*2 ^ s))=v1:=⟨_,rfl⟩
        obtain ⟨v2,ev2⟩:∃ v2,x/2 ^ (64-s)=v2:=⟨_,rfl⟩
        rw [ev1,ev2] at hv
        have fin:=Aside0.mk (hI.out.step hil hxx.out hyy.out hx.out.1 hv.out)
        go_wp2_with fail
        go_region
        go_wp2
        go_roundw
        case rel=>exact ⟨i+1,_,by omega,by go_num,fin,⟨((hblk.out.put (by omega) v1).drew).put (by simp;omega) v2⟩,⟨below_set (below_drew1 (below_set hB.out (Nat.le_refl _))) (Nat.le_refl _)⟩⟩
        case measure=>simp [intOf];omega
      · obtain rfl:i=a.length:=by omega
        have hfin:=Aside0.mk (hI.out.done HN.out)
        have hrd:=Aside0.mk (hblk.out.all (c:=a.length+k+1) (by omega) (by omega))
        go_wp2_with fail
        have h:=trim_calls cs (some ⟨w.heap.size,0,none⟩) (a.length+k+1) _ hfin.out.1 hrd.out
        rw [hcl] at h
        refine h.mono ?_
        rintro e w2 ⟨A2,c2,rfl,hr2,hB2⟩
        go_wp2
        go_ret
        exact ⟨A2,c2,by rw [hfin.out.2];rfl,by rw [← hfin.out.2];exact hr2,hB.out.trans (hB2.mono hB.out.size)⟩
end
end Go.Proofs.YtmnkaldemjdcoaaGreat.Limbs
set_option linter.unusedVariables false
namespace Go.Proofs.YtmnkaldemjdcoaaGreat.Limbs
open RowKit YtmnkaldemjdcoaaGreatW.PrintWords YtmnkaldemjdcoaaGreatW.PrintLast YtmnkaldemjdcoaaGreatW.PrintMore YtmnkaldemjdcoaaGreatW.Aid YtmnkaldemjdcoaaGreatW.Big YtmnkaldemjdcoaaGreat.BitsWalk
theorem Rd.drop {w:World} {l:List Int} {ad:Addr} {c k:Nat} (h:Rd w l (some ad) c) (hk:k≤l.length):Rd w (l.drop k) (some (ad.add k)) (c-k):=by
  have hl:(l.drop k).length=l.length-k:=by simp
  refine ⟨by have:=h.1;omega,?_⟩
  refine ⟨rfl,by have:=h.2.2.1;omega,fun hpos=>⟨_,rfl,fun j p hj=>?_⟩⟩
  obtain ⟨ad',hA,hc⟩:=h.2.2.2 (by omega)
  cases hA
  rw [List.getElem?_drop] at hj
  obtain ⟨cs,h1,h2,h3⟩:=hc (k+j) p hj
  refine ⟨cs,h1,h2,fun i u hu=>?_⟩
  rw [← h3 i u hu]
  have e:(ad.add k).add (j*(Kd.int .u64).sz+i)=ad.add ((k+j)*(Kd.int .u64).sz+i):=by
    show (ad.add k).add (j*1+i)=ad.add ((k+j)*1+i)
    rw [Addr.add_add]
    congr 1
    omega
  rw [e]
theorem drop_val {b:List Int} {i:Nat} (h:i<b.length):val (b.drop i)=(rd b i).toNat+18446744073709551616*val (b.drop (i+1)):=by
  rw [List.drop_eq_getElem_cons h,← rd_nat h]
  rfl
def rdig (s:Nat) (x R:Nat):Nat:=x/2 ^ s+2 ^ (64-s)*(R%2 ^ s)
theorem down_val {s x R:Nat} (hs:s<64) (hx:x<18446744073709551616):(x+18446744073709551616*R)/2 ^ s=rdig s x R+18446744073709551616*(R/2 ^ s)∧rdig s x R<18446744073709551616:=by
  have hS:0<2 ^ s:=Nat.pow_pos (by omega)
  have hST:2 ^ s*2 ^ (64-s)=18446744073709551616:=by rw [← Nat.pow_add,show s+(64-s)=64 by omega]
  have e1:(x+18446744073709551616*R)/2 ^ s=x/2 ^ s+2 ^ (64-s)*R:=by
    rw [← hST,Nat.mul_assoc,Nat.add_mul_div_left _ _ hS]
  have e2:2 ^ (64-s)*R=18446744073709551616*(R/2 ^ s)+2 ^ (64-s)*(R%2 ^ s):=by
    have h:=Nat.div_add_mod R (2 ^ s)
    have h':=congrArg (2 ^ (64-s)*·) h
    simp only [Nat.mul_add] at h'
    rw [← h',← Nat.mul_assoc,Nat.mul_comm (2 ^ (64-s)) (2 ^ s),hST]
  have e3:x/2 ^ s<2 ^ (64-s):=by
    rw [Nat.div_lt_iff_lt_mul hS,Nat.mul_comm,hST];exact hx
  have e4:2 ^ (64-s)*(R%2 ^ s)+2 ^ (64-s)≤18446744073709551616:=by
    have:=Nat.mul_le_mul_left (2 ^ (64-s)) (show R%2 ^ s+1≤2 ^ s from Nat.mod_lt _ hS)
    rw [Nat.mul_add,Nat.mul_one,Nat.mul_comm (2 ^ (64-s)) (2 ^ s),hST] at this
    exact this
  unfold rdig
  generalize 2 ^ (64-s)*(R%2 ^ s)=t at *
  exact ⟨by omega,by omega⟩
def RightInv (b:List Int) (s i:Nat) (cs:List Int):Prop :=
  cs.length=b.length∧Dig cs∧(∀ j:Nat,i≤j→rd cs j=rd b j)∧val (cs.take i)+18446744073709551616 ^ i*(val (b.drop i)/2 ^ s)=val b/2 ^ s
theorem RightInv.start {b:List Int} {s:Nat} (h:Dig b):RightInv b s 0 b:=⟨rfl,h,fun _ _=>rfl,by simp [val]⟩
theorem RightInv.step {b cs:List Int} {s i:Nat} {v:Int} (h:RightInv b s i cs) (hi:i<b.length) (hs:s<64) (hx0:0≤rd b i) (hx1:rd b i<18446744073709551616) (hv:v=(rdig s (rd b i).toNat (val (b.drop (i+1))):Nat)):RightInv b s (i+1) (cs.set i v):=by
  obtain ⟨h1,h2,h3,h4⟩:=h
  obtain ⟨e1,e2⟩:=down_val (s:=s) (x:=(rd b i).toNat) (R:=val (b.drop (i+1))) hs (by omega)
  refine ⟨by simpa using h1,h2.set _ (by omega) (by omega),fun j hj=>?_,?_⟩
  · rw [rd_set_ne _ (by omega)];exact h3 j (by omega)
  · rw [drop_val hi,e1,Nat.mul_add] at h4
    rw [val_set_take (by omega),Nat.pow_succ,Nat.mul_assoc,hv,Int.toNat_natCast]
    omega
theorem RightInv.done {b cs:List Int} {s:Nat} (h:RightInv b s b.length cs):Dig cs∧val cs=val b/2 ^ s:=by
  obtain ⟨h1,h2,h3,h4⟩:=h
  rw [List.take_of_length_le (by omega),List.drop_length] at h4
  exact ⟨h2,by rw [← h4];simp [val]⟩
theorem digit_of {s:Nat} (hs:s<64) {x y:Int} {R:Nat} (hx0:0≤x) (hx1:x<18446744073709551616) (hy0:0≤y):Go.bits .or .u64 (x/2 ^ s) (IntKind.u64.wrap (y*2 ^ (64-s)))=(rdig s x.toNat (y.toNat+18446744073709551616*R):Nat):=by
  have hS:(0:Int)<2 ^ s:=Int.pow_pos (by omega)
  have hT:(0:Int)<2 ^ (64-s):=Int.pow_pos (by omega)
  have hST:(2:Int) ^ s*2 ^ (64-s)=18446744073709551616:=by rw [← Int.pow_add,show s+(64-s)=64 by omega];rfl
  have hSN:2 ^ s*2 ^ (64-s)=18446744073709551616:=by rw [← Nat.pow_add,show s+(64-s)=64 by omega]
  have hmod:y*2 ^ (64-s)%18446744073709551616=y%2 ^ s*2 ^ (64-s):=by
    rw [← hST,Int.mul_comm y,Int.mul_comm (2 ^ s),Int.mul_emod_mul_of_pos _ _ hT,Int.mul_comm]
  have e1:(y.toNat+18446744073709551616*R)%2 ^ s=y.toNat%2 ^ s:=by
    rw [← hSN,Nat.mul_assoc,Nat.add_mul_mod_self_left]
  have hm0:=Int.emod_nonneg y (b:=2 ^ s) (by omega)
  have hm1:=Int.emod_lt_of_pos y hS
  have hq0:0≤x/2 ^ s:=Int.ediv_nonneg hx0 (by omega)
  have hq1:x/2 ^ s<2 ^ (64-s):=Int.ediv_lt_of_lt_mul hS (by rw [Int.mul_comm,hST];exact hx1)
  have ecast:((rdig s x.toNat (y.toNat+18446744073709551616*R):Nat):Int)=x/2 ^ s+2 ^ (64-s)*(y%2 ^ s):=by
    unfold rdig
    rw [e1,Int.natCast_add,Int.natCast_mul,Int.natCast_ediv,Int.natCast_emod,Int.toNat_of_nonneg hx0,Int.toNat_of_nonneg hy0]
    norm_cast
  rw [ecast,u64_wrap,hmod]
  by_cases h0:s=0
  · subst h0
    have:y%2 ^ 0=0:=by rw [Int.pow_zero];omega
    rw [this]
    simp only [Int.zero_mul,Int.mul_zero,Int.add_zero]
    rw [Int.pow_zero,Int.ediv_one]
    have:=Go.Proofs.YtmnkaldemjdcoaaGreat.Long.or_shift 0 (by omega) (a:=x) (b:=0) hx0 (by rw [Int.pow_zero,Int.mul_one];exact hx1) (by omega) (by decide)
    rw [Int.pow_zero,Int.mul_one] at this
    rw [this];omega
  · have hml:y%2 ^ s*2 ^ (64-s)<18446744073709551616:=by
      have:=Int.mul_lt_mul_of_pos_right hm1 hT
      rw [hST] at this
      exact this
    rw [bits_comm_or,Go.Proofs.YtmnkaldemjdcoaaGreat.Long.or_shift (64-s) (by omega) hm0 hml hq0 hq1,Int.mul_comm (2 ^ (64-s))]
    omega
theorem digit_last {s x:Nat}:((rdig s x 0:Nat):Int)=(x:Int)/2 ^ s:=by
  unfold rdig
  simp
section
set_option maxRecDepth 100000
set_option maxHeartbeats 1000000
theorem right_calls (a:List Int) (n:Nat) (A:Option Addr) (c:Nat) (w:World) (hda:Dig a) (hr:Rd w a A c) (hla:a.length≤1000) (hn:n≤6400) :
    Calls Tryz.prog 128 #[.slice A a.length c,.int .i64 n] w (RetRd (limbs (val a/2 ^ n)) w):=by
  have HR:=Aside0.mk hr
  have DA:=Aside0.mk hda
  obtain ⟨k,hk⟩:∃ k,n/64=k:=⟨_,rfl⟩
  obtain ⟨s,hs⟩:∃ s,n%64=s:=⟨_,rfl⟩
  have hki:(n:Int)/64=(k:Int):=by omega
  have hsi:(n:Int)%64=(s:Int):=by omega
  have hs64:s<64:=by omega
  have HN:Aside0 (n=64*k+s):=⟨by omega⟩
  have hv:=val_lt hda
  clear hr hda hk hs
  by_cases h0:a.length≤k
  · have hb:decide (a.length≤k)=true:=decide_eq_true h0
    have hb2:decide ((a.length:Int)≤(k:Int))=true:=decide_eq_true (by omega)
    have e:Aside0 (limbs (val a/2 ^ n)=[]):=⟨by
      rw [Nat.div_eq_of_lt,limbs_zero]
      refine Nat.lt_of_lt_of_le hv ?_
      have h1:18446744073709551616 ^ a.length≤18446744073709551616 ^ k:=Nat.pow_le_pow_right (by omega) h0
      have h2:18446744073709551616 ^ k≤2 ^ n:=by
        show (2 ^ 64) ^ k≤2 ^ n
        rw [← Nat.pow_mul]
        exact Nat.pow_le_pow_right (by omega) (by have:=HN.out;omega)
      omega⟩
    clear hv
    go_enter Tryz.func128,Tryz.ntmps128
    go_wp2
    go_ret
    exact ⟨none,0,by rw [e.out];rfl,by rw [e.out];exact Rd.nil _,Below.refl _ _⟩
  · have hb:decide (a.length≤k)=false:=decide_eq_false h0
    have hb2:decide ((a.length:Int)≤(k:Int))=false:=decide_eq_false (by omega)
    have e:Aside0 (val a/2 ^ n=val (a.drop k)/2 ^ s):=⟨by
      have h1:=val_append (a.take k) (a.drop k)
      rw [List.take_append_drop,List.length_take,Nat.min_eq_left (by omega)] at h1
      have h2:=val_lt (DA.out.take k)
      rw [List.length_take,Nat.min_eq_left (by omega)] at h2
      rw [HN.out,Nat.pow_add,← Nat.div_div_eq_div_mul,Nat.pow_mul]
      show val a/18446744073709551616 ^ k/2 ^ s=_
      rw [h1,Nat.add_mul_div_left _ _ (Nat.pow_pos (by omega)),Nat.div_eq_of_lt h2,Nat.zero_add]⟩
    rw [e.out]
    obtain ⟨ad,rfl⟩:∃ ad,A=some ad:=by
      obtain ⟨ad,h,_⟩:=HR.out.2.2.2 (by omega)
      exact ⟨ad,h⟩
    have HD:=Aside0.mk (Rd.drop HR.out (k:=k) (by omega))
    have hlen:(a.drop k).length=a.length-k:=by simp
    have HC:=Aside0.mk (clone_calls (a.drop k) (some (ad.add k)) (c-k) w HD.out (by omega))
    rw [hlen] at HC
    have hac:a.length≤c:=HR.out.1
    have Db:=Aside0.mk (DA.out.drop k)
    clear hv e
    generalize a.drop k=b at *
    have hkl:k≤a.length:=by omega
    have hkl':(k:Int)≤(a.length:Int):=by omega
    have HL:=Aside0.mk hlen
    clear hlen
    go_enter Tryz.func128,Tryz.ntmps128
    go_wp2_with fail
    refine HC.out.mono ?_
    rintro e w1 ⟨hB1,⟨hnil,rfl⟩|⟨g,cp,rfl,hg,hcp,hm,hblk1⟩⟩
    · exact absurd (show b.length=0 by rw [hnil];rfl) (by have:=HL.out;omega)
    have HB1:=Aside0.mk hB1
    have hg:=Aside0.mk hg
    have hcp:=Aside0.mk hcp
    have hblk1:=Aside0.mk hblk1
    have hm:=Aside0.mk hm
    have hbl:b.length≤1000:=by have:=HL.out;omega
    clear hB1 HC h0 hb hb2 hkl hkl'
    go_wp2_with fail
    go_loopw [19] (fun v19 wr=>∃ (i:Nat) (cs:List Int),i≤b.length∧v19 = .int .i64 i∧Aside0 (RightInv b s i cs)∧Aside0 (Blk wr g cs)∧Aside0 (Below w.heap.size w wr)) (fun v19 _=>b.length-(intOf v19).toNat)
    case atStart=>exact ⟨0,_,by omega,rfl,⟨RightInv.start Db.out⟩,hblk1,HB1⟩
    case round =>
      obtain ⟨i,cs,hi,rfl,hI,hblk,hB⟩:=hrel
      have hcl:=hI.out.1
      by_cases hil:i<b.length
      · have hx:=Aside0.mk (Db.out.rd (i:=(i:Int)) (by omega) (by omega))
        have hfz:=hblk.out.frozen i
        have hcw:wr.cell? ⟨g,i,none⟩=some (.int .u64 (rd b i)):=by rw [← hI.out.2.2.1 i (Nat.le_refl _)];exact hblk.out.cell (by omega)
        by_cases hin:i+1<b.length
        · have hin1:decide (i+1<b.length)=true:=decide_eq_true hin
          have hin2:decide ((i:Int)+1<(b.length:Int))=true:=decide_eq_true (by omega)
          have hcw':wr.cell? ⟨g,i+1,none⟩=some (.int .u64 (rd b ((i+1:Nat):Int))):=by rw [← hI.out.2.2.1 (i+1) (by omega)];exact hblk.out.cell (by omega)
          have hy:=Aside0.mk (Db.out.rd (i:=((i+1:Nat):Int)) (by omega) (by omega))
          have hci:Aside0 (rd cs ((i+1:Nat):Int)=rd b ((i+1:Nat):Int)):=⟨hI.out.2.2.1 (i+1) (by omega)⟩
          have hdv:=Aside0.mk (digit_of (s:=s) hs64 (x:=rd b i) (y:=rd b ((i+1:Nat):Int)) (R:=val (b.drop (i+1+1))) hx.out.1 hx.out.2 hy.out.1)
          have st:=Aside0.mk (fun v=>hI.out.step (v:=v) hil hs64 hx.out.1 hx.out.2)
          rw [← drop_val hin] at hdv
          generalize rd b i=x at *
          generalize rd b ((i+1:Nat):Int)=y at *
          obtain ⟨v,ev⟩:∃ v,Go.bits .or .u64 (x/2 ^ s) (IntKind.u64.wrap (y*2 ^ (64-s)))=v:=⟨_,rfl⟩
          rw [ev] at hdv
          have fin:=Aside0.mk (st.out v hdv.out)
          clear hdv st
          go_wp2_with fail
          have hblk2:=Aside0.mk (hblk.out.put (i:=i) (by omega) (x/2 ^ s))
          have hB2:=Aside0.mk (below_set hB.out hg.out:Below w.heap.size w (wr.setCell ⟨g,i,none⟩ (.int .u64 (x/2 ^ s))))
          generalize wr.setCell ⟨g,i,none⟩ (.int .u64 (x/2 ^ s))=wq at *
          have hfz2:=hblk2.out.frozen i
          have hcw2:wq.cell? ⟨g,i,none⟩=some (.int .u64 (x/2 ^ s)):=(hblk2.out.cell (i:=i) (by simp;omega)).trans (by rw [rd_set_eq _ (by omega)])
          have hcw2':wq.cell? ⟨g,i+1,none⟩=some (.int .u64 y):=(hblk2.out.cell (i:=i+1) (by simp;omega)).trans (by rw [rd_set_ne _ (by omega),hci.out])
          clear hcw hcw' hfz
          go_region
          go_wp2
          go_roundw
          case rel=>exact ⟨i+1,_,by omega,by go_num,fin,⟨by have h:=(hblk2.out.put (i:=i) (by simp;omega) v).drew;rw [List.set_set] at h;exact h⟩,⟨below_drew1 (below_set hB2.out hg.out)⟩⟩
          case measure=>simp [intOf];omega
        · have hin1:decide (i+1<b.length)=false:=decide_eq_false hin
          have hin2:decide ((i:Int)+1<(b.length:Int))=false:=decide_eq_false (by omega)
          have hdv:Aside0 (rd b i/2 ^ s=(rdig s (rd b i).toNat (val (b.drop (i+1))):Nat)):=⟨by rw [List.drop_of_length_le (by omega),show val []=0 from rfl,digit_last,Int.toNat_of_nonneg hx.out.1]⟩
          have fin:=Aside0.mk (hI.out.step hil hs64 hx.out.1 hx.out.2 hdv.out)
          generalize rd b i=x at *
          clear hdv
          go_wp2
          go_roundw
          case rel=>exact ⟨i+1,_,by omega,by go_num,fin,⟨hblk.out.put (i:=i) (by omega) _⟩,⟨below_set hB.out hg.out⟩⟩
          case measure=>simp [intOf];omega
      · obtain rfl:i=b.length:=by omega
        have hfin:=Aside0.mk (hI.out.done)
        have hrd:=Aside0.mk (hblk.out.all (c:=cp) (by have:=hcp.out;omega) (by have:=hm.out;omega))
        go_wp2_with fail
        have h:=trim_calls cs (some ⟨g,0,none⟩) cp _ hfin.out.1 hrd.out
        rw [hcl] at h
        refine h.mono ?_
        rintro e w2 ⟨A2,c2,rfl,hr2,hB2⟩
        go_wp2
        go_ret
        exact ⟨A2,c2,by rw [hfin.out.2];rfl,by rw [← hfin.out.2];exact hr2,hB.out.trans (hB2.mono hB.out.size)⟩
end
end Go.Proofs.YtmnkaldemjdcoaaGreat.Limbs
set_option linter.unusedVariables false
namespace Go.Proofs.YtmnkaldemjdcoaaGreat.Limbs
open RowKit YtmnkaldemjdcoaaGreatW.PrintWords YtmnkaldemjdcoaaGreatW.PrintLast YtmnkaldemjdcoaaGreatW.PrintMore YtmnkaldemjdcoaaGreatW.Aid YtmnkaldemjdcoaaGreatW.Big YtmnkaldemjdcoaaGreat.BitsWalk
def DivInv (a:List Int) (d:Nat) (j:Nat) (r:Int) (cs:List Int):Prop :=
  cs.length=a.length∧Dig cs∧0≤r∧r<d∧val (a.drop j)=d*val (cs.drop j)+r.toNat
theorem DivInv.start (a:List Int) {d:Nat} (hd:0<d):DivInv a d a.length 0 (List.replicate a.length 0) :=
  ⟨by simp,Dig.zeros _,by omega,by omega,by simp [val]⟩
theorem set_drop_self {l:List Int} {i:Nat} {v:Int} (h:i<l.length):(l.set i v).drop i=v::l.drop (i+1):=by
  rw [List.drop_eq_getElem_cons (by simpa using h)]
  congr 1
  · simp
  · rw [List.drop_set_of_lt (by omega)]
theorem DivInv.step {a cs:List Int} {d i:Nat} {r:Int} (h:DivInv a d (i+1) r cs) (hi:i<a.length) (hda:Dig a) :
    0≤(r*18446744073709551616+rd a i)/(d:Int)∧(r*18446744073709551616+rd a i)/(d:Int)<18446744073709551616∧0≤(r*18446744073709551616+rd a i)%(d:Int)∧(r*18446744073709551616+rd a i)%(d:Int)<d ∧
    DivInv a d i ((r*18446744073709551616+rd a i)%(d:Int)) (cs.set i ((r*18446744073709551616+rd a i)/(d:Int))):=by
  obtain ⟨h1,h2,h3,h4,h5⟩:=h
  obtain ⟨x0,x1⟩:=hda.rd (i:=(i:Int)) (by omega) (by omega)
  have hd:(0:Int)<d:=by omega
  have e:=Int.mul_ediv_add_emod (r*18446744073709551616+rd a i) (d:Int)
  have e0:0≤(r*18446744073709551616+rd a i)/(d:Int):=Int.ediv_nonneg (by omega) (by omega)
  have e1:(r*18446744073709551616+rd a i)/(d:Int)<18446744073709551616:=by
    refine Int.ediv_lt_of_lt_mul hd ?_
    have:=Int.mul_le_mul_of_nonneg_right (show r+1≤(d:Int) by omega) (show (0:Int)≤18446744073709551616 by omega)
    rw [Int.mul_comm 18446744073709551616]
    omega
  have e2:=Int.emod_nonneg (r*18446744073709551616+rd a i) (b:=(d:Int)) (by omega)
  have e3:=Int.emod_lt_of_pos (r*18446744073709551616+rd a i) hd
  refine ⟨e0,e1,e2,e3,by simpa using h1,h2.set _ e0 e1,e2,e3,?_⟩
  rw [drop_val hi,set_drop_self (by omega),h5]
  simp only [val]
  generalize (r*18446744073709551616+rd a i)/(d:Int)=q at *
  generalize (r*18446744073709551616+rd a i)%(d:Int)=m at *
  have hq:((d*q.toNat:Nat):Int)=(d:Int)*q:=by rw [Int.natCast_mul,Int.toNat_of_nonneg e0]
  rw [Nat.mul_add,Nat.mul_add,Nat.mul_left_comm d]
  generalize val (cs.drop (i+1))=V at *
  generalize d*V=p at *
  generalize d*q.toNat=p' at *
  generalize (d:Int)*q=p'' at *
  omega
theorem DivInv.done {a cs:List Int} {d:Nat} {r:Int} (h:DivInv a d 0 r cs):Dig cs∧val cs=val a/d∧r=((val a%d:Nat):Int):=by
  obtain ⟨h1,h2,h3,h4,h5⟩:=h
  simp only [List.drop_zero] at h5
  refine ⟨h2,?_,?_⟩
  · rw [h5,Nat.mul_add_div (by omega),Nat.div_eq_of_lt (by omega)];omega
  · rw [h5,Nat.mul_add_mod,Nat.mod_eq_of_lt (by omega)];omega
def DivWRet (q r:Nat) (w:World) (e:Ending) (w':World):Prop:=∃ A c,e = .returned (.tuple #[.slice A (limbs q).length c,.int .u64 r])∧Rd w' (limbs q) A c∧Below w.heap.size w w'
section
set_option maxRecDepth 100000
set_option maxHeartbeats 1000000
theorem below_drewN1 {B n:Nat} {w w1:World} (h:Below B w w1):Below B w (w1.drewN n):=⟨h.os,h.tape,h.output,h.size,h.block⟩
theorem Blk.drewN {w:World} {g n:Nat} {l:List Int} (h:Blk w g l):Blk (w.drewN n) g l:=h
theorem divWord_calls (a:List Int) (d:Nat) (A:Option Addr) (c:Nat) (w:World) (hda:Dig a) (hr:Rd w a A c) (hla:a.length≤1000) (hd0:0<d) (hd1:d<18446744073709551616) :
    Calls Tryz.prog 132 #[.slice A a.length c,.int .u64 d] w (DivWRet (val a/d) (val a%d) w):=by
  have HR:=Aside0.mk hr
  have DA:=Aside0.mk hda
  have HD:=Aside0.mk hd0
  have HD1:=Aside0.mk hd1
  have hmk:=fun w=>mk_run a.length (by omega) (a.length:Int) rfl w
  clear hr hda hd1 hd0
  go_enter Tryz.func132,Tryz.ntmps132
  go_wp2_with fail
  go_loopw [7,8] (fun v7 v8 wr=>∃ (j:Nat) (r:Int) (cs:List Int),j≤a.length∧v8 = .int .i64 ((j:Int)-1)∧v7 = .int .u64 r∧Aside0 (DivInv a d j r cs)∧Aside0 (Blk wr w.heap.size cs)∧Aside0 (Below w.heap.size w wr)) (fun _ v8 _=>(intOf v8+1).toNat)
  case atStart=>exact ⟨a.length,0,_,Nat.le_refl _,by go_num,rfl,⟨DivInv.start a HD.out⟩,⟨Blk.new w _⟩,⟨below_alloc (Below.refl _ _) _⟩⟩
  case round =>
    obtain ⟨j,r,cs,hj,rfl,rfl,hI,hblk,hB⟩:=hrel
    have hcl:=hI.out.1
    clear hmk
    cases j with
    | succ i =>
      have hb:decide ((0:Int)≤((i+1:Nat):Int)-1)=true:=decide_eq_true (by omega)
      have ei:((i+1:Nat):Int)-1=(i:Int):=by omega
      rw [ei]
      have hil:i<a.length:=by omega
      obtain ⟨ad,rfl,hcell⟩:=Kd.at_int (HR.out.below hB.out).2 (i:Int) (by omega) (by omega)
      simp only [Int.toNat_natCast] at hcell
      have hx:=Aside0.mk (DA.out.rd (i:=(i:Int)) (by omega) (by omega))
      have st:=Aside0.mk (hI.out.step hil DA.out)
      generalize rd a i=x at *
      have DV:=Aside0.mk (Go.Proofs.YtmnkaldemjdcoaaGreat.Long.div64_calls r x d wr hI.out.2.2.1 hI.out.2.2.2.1 hx.out.1 hx.out.2 (by have:=HD1.out;omega))
      clear hb ei
      go_wp2_with fail
      refine DV.out.mono ?_
      rintro e w1 ⟨rfl,nd,rfl⟩
      have hfz:=hblk.out.frozen i
      have hcw:wr.cell? ⟨w.heap.size,i,none⟩=some (.int .u64 (rd cs i)):=hblk.out.cell (by omega)
      go_wp2
      go_roundw
      case rel=>exact ⟨i,_,_,by omega,by go_num,rfl,⟨st.out.2.2.2.2⟩,⟨(hblk.out.drewN).put (by omega) _⟩,⟨below_set (below_drewN1 hB.out) (Nat.le_refl _)⟩⟩
      case measure=>simp [intOf]<;>omega
    | zero =>
      have hb:decide ((0:Int)≤((0:Nat):Int)-1)=false:=decide_eq_false (by omega)
      have hfin:=Aside0.mk (hI.out.done)
      have hrd:=Aside0.mk (hblk.out.all (c:=a.length) (by omega) (by omega))
      go_wp2_with fail
      have h:=trim_calls cs (some ⟨w.heap.size,0,none⟩) a.length _ hfin.out.1 hrd.out
      rw [hcl] at h
      refine h.mono ?_
      rintro e w2 ⟨A2,c2,rfl,hr2,hB2⟩
      go_wp2
      go_ret2
      exact ⟨A2,c2,by rw [hfin.out.2.1,hfin.out.2.2];rfl,by rw [← hfin.out.2.1];exact hr2,hB.out.trans (hB2.mono hB.out.size)⟩
theorem limbs_word {n:Nat} (h0:n≠0) (h1:n<18446744073709551616):limbs n=[(n:Int)]:=by
  rw [limbs_pos h0,Nat.mod_eq_of_lt h1,Nat.div_eq_of_lt h1,limbs_zero]
theorem word_calls (n:Nat) (w:World) (h:n<18446744073709551616):Calls Tryz.prog 90 #[.int .u64 n] w (RetRd (limbs n) w):=by
  by_cases h0:n=0
  · subst h0
    have e:Aside0 (limbs 0=[]):=⟨limbs_zero⟩
    go_enter Tryz.func90,Tryz.ntmps90
    go_wp2
    go_ret
    exact ⟨none,0,by rw [e.out];rfl,by rw [e.out];exact Rd.nil _,Below.refl _ _⟩
  · have hb:((n:Int) == 0)=false:=beq_eq_false_iff_ne.2 (by omega)
    have e:Aside0 (limbs n=[(n:Int)]):=⟨limbs_word h0 h⟩
    go_enter Tryz.func90,Tryz.ntmps90
    go_wp2
    go_ret
    exact ⟨some ⟨w.heap.size,0,none⟩,1,by rw [e.out];rfl,by rw [e.out];exact (Blk.new w [(n:Int)]).all (by simp) (by simp),below_alloc (Below.refl _ _) _⟩
def DivRet (q r:Nat) (w:World) (e:Ending) (w':World):Prop:=∃ A c A' c',e = .returned (.tuple #[.slice A (limbs q).length c,.slice A' (limbs r).length c'])∧Rd w' (limbs q) A c∧Rd w' (limbs r) A' c'∧Below w.heap.size w w'
theorem CloneRet.rd {l:List Int} {w:World} {e:Ending} {w':World} (h:CloneRet l w e w'):RetRd l w e w':=by
  obtain ⟨hB,⟨hnil,rfl⟩|⟨g,cp,rfl,hg,hcp,hm,hblk⟩⟩:=h
  · subst hnil;exact ⟨none,0,rfl,Rd.nil _,hB⟩
  · exact ⟨_,_,rfl,hblk.all hcp hm,hB⟩
theorem div_calls_word (a b:Nat) (A A':Option Addr) (c c':Nat) (w:World) (hr:Rd w (limbs a) A c) (hr':Rd w (limbs b) A' c') (hla:(limbs a).length≤1000) (hb0:0<b) (hb1:b<18446744073709551616) :
    Calls Tryz.prog 125 #[.slice A (limbs a).length c,.slice A' (limbs b).length c'] w (DivRet (a/b) (a%b) w):=by
  have HR:=Aside0.mk hr
  have HR':=Aside0.mk hr'
  have HB:=Aside0.mk (And.intro hb0 hb1)
  have CM:=Aside0.mk (cmp_calls a b A A' c c' w hr hr')
  clear hr hr' hb0 hb1
  by_cases hlt:a<b
  · have e1:Aside0 (a/b=0∧a%b=a):=⟨Nat.div_eq_of_lt hlt,Nat.mod_eq_of_lt hlt⟩
    have e2:cmpR a b = -1:=if_pos hlt
    have hl0:Aside0 (limbs 0=[]):=⟨limbs_zero⟩
    rw [e2] at CM
    rw [e1.out.1,e1.out.2]
    have CL:=Aside0.mk (fun n=>clone_calls (limbs a) A c (w.drewN n) (HR.out.below (below_drewN1 (Below.refl _ _))) (by omega))
    clear e2 hlt
    go_enter Tryz.func125,Tryz.ntmps125
    go_wp2_with fail
    refine CM.out.mono ?_
    rintro e w1 ⟨rfl,nd,rfl⟩
    go_wp2_with fail
    refine (CL.out nd).mono ?_
    rintro e w1 hcl
    obtain ⟨A2,c2,rfl,hr2,hB2⟩:=hcl.rd
    go_wp2
    go_ret2
    exact ⟨none,0,A2,c2,by rw [hl0.out];rfl,by rw [hl0.out];exact Rd.nil _,hr2,(below_drewN1 (Below.refl w.heap.size w)).trans hB2⟩
  · have e2:cmpR a b=(if b<a then 1 else 0):=if_neg hlt
    obtain ⟨k,hk,hk0⟩:∃ k:Int,cmpR a b=k∧0≤k:=⟨_,rfl,by rw [e2];split<;>omega⟩
    have hkb:decide (k<0)=false:=decide_eq_false (by omega)
    have hlb:=limbs_word (n:=b) (by have:=HB.out;omega) HB.out.2
    have hl1:Aside0 ((limbs b).length=1):=⟨by rw [hlb];rfl⟩
    rw [hk] at CM
    rw [hl1.out] at CM
    rw [hl1.out]
    have DW:=Aside0.mk (fun n=>divWord_calls (limbs a) b A c (w.drewN n) (limbs_dig a) (HR.out.below (below_drewN1 (Below.refl _ _))) hla HB.out.1 HB.out.2)
    rw [val_limbs] at DW
    obtain ⟨ad,rfl,hcell⟩:=Kd.at_int HR'.out.2 (0:Int) (by omega) (by rw [hl1.out];omega)
    have hc0:rd (limbs b) 0=(b:Int):=by rw [hlb];rfl
    rw [hc0] at hcell
    have hcell0:w.cell? ad=some (.int .u64 (b:Int)):=hcell
    clear hcell
    have hone:decide ((1:Int)=1)=true:=rfl
    have MB:=Aside0.mk (Nat.lt_trans (Nat.mod_lt a HB.out.1) HB.out.2)
    clear e2 hlt hk hk0 hc0 hlb
    go_enter Tryz.func125,Tryz.ntmps125
    go_wp2_with fail
    refine CM.out.mono ?_
    rintro e w1 ⟨rfl,nd,rfl⟩
    go_wp2_with fail
    refine (DW.out nd).mono ?_
    rintro e w1 ⟨A2,c2,rfl,hr2,hB2⟩
    go_wp2_with fail
    refine (word_calls (a%b) w1 MB.out).mono ?_
    rintro e w2 ⟨A3,c3,rfl,hr3,hB3⟩
    have hB3:=Aside0.mk hB3
    have hB2:=Aside0.mk hB2
    go_wp2
    go_ret2
    exact ⟨A2,c2,A3,c3,rfl,hr2.below hB3.out,hr3,((below_drewN1 (Below.refl w.heap.size w)).trans hB2.out).trans (hB3.out.mono hB2.out.size)⟩
end
end Go.Proofs.YtmnkaldemjdcoaaGreat.Limbs
end
section
set_option linter.unusedVariables false
set_option linter.unusedSimpArgs false
namespace Go.Proofs.YtmnkaldemjdcoaaGreat.R90
open Go RowKit YtmnkaldemjdcoaaGreat.QN90 YtmnkaldemjdcoaaGreatW.PrintWords YtmnkaldemjdcoaaGreatW.PrintMore YtmnkaldemjdcoaaGreatW.PrintLast YtmnkaldemjdcoaaGreatW.Aid YtmnkaldemjdcoaaGreatW.Big YtmnkaldemjdcoaaGreatW.Dig32 YtmnkaldemjdcoaaGreat.Limbs
theorem ifT {α:Type} {c:Prop} [Decidable c] {g f:Nat→Option α} {r:α} (h:c) (e:Ev g r):Ev (fun k=>if c then g k else f k) r:=by
  simp only [h,if_true];exact e
theorem ifF {α:Type} {c:Prop} [Decidable c] {g f:Nat→Option α} {r:α} (h:¬ c) (e:Ev f r):Ev (fun k=>if c then g k else f k) r:=by
  simp only [h,if_false];exact e
theorem cut_l0 {l:List Int} (h:D32 l) (hn:l.length<4611686018427387904):∀ i:Nat,i≤l.length→(∀ j,i≤j→j<l.length→rd l (j:Int)=0)→Ev (fun k=>gimbalref90_cut.l0 k l (i:Int)) (digs (v32 l)):=by
  intro i
  induction i with
  | zero =>
    intro _ hz
    refine Ev.shift ?_
    simp only [gimbalref90_cut.l0]
    repeat (first|refine ifT (by omega) ?_|refine ifF (by omega) ?_)
    refine Ev.pure fun _=>?_
    rw [← digs_of_take h (Nat.zero_le _) hz (fun h0=>absurd h0 (by omega))]
    rfl
  | succ i ih =>
    intro hi hz
    refine Ev.shift ?_
    have w:wrap64 (((i+1:Nat):Int)-1)=(i:Int):=by rw [wrap64_id (by omega) (by omega)];omega
    simp only [gimbalref90_cut.l0,w]
    repeat (first|refine ifT (by omega) ?_|refine ifF (by omega) ?_)
    by_cases h0:rd l (i:Int)=0
    · simp only [h0,if_true]
      refine ih (by omega) (fun j h1 h2=>?_)
      by_cases e:j=i
      · subst e;exact h0
      · exact hz j (by omega) h2
    · simp only [h0,if_false]
      repeat (first|refine ifT (by omega) ?_|refine ifF (by omega) ?_)
      refine Ev.pure fun _=>?_
      rw [← digs_of_take h hi hz (fun _=>by simpa using h0),Int.toNat_natCast]
theorem cut_ev {l:List Int} (h:D32 l) (hn:l.length<4611686018427387904):Ev (fun k=>gimbalref90_cut.f k l) (digs (v32 l)) :=
  cut_l0 h hn l.length (Nat.le_refl _) (fun j h1 h2=>by omega)
theorem trim_l0 {l:List Int} (h:Dig l) (hn:l.length<4611686018427387904):∀ i:Nat,i≤l.length→(∀ j,i≤j→j<l.length→rd l (j:Int)=0)→Ev (fun k=>gimbalref90_NTrim.l0 k l (i:Int)) (limbs (val l)):=by
  intro i
  induction i with
  | zero =>
    intro _ hz
    refine Ev.shift ?_
    simp only [gimbalref90_NTrim.l0]
    repeat (first|refine ifT (by omega) ?_|refine ifF (by omega) ?_)
    refine Ev.pure fun _=>?_
    rw [← limbs_of_take h (Nat.zero_le _) hz (fun h0=>absurd h0 (by omega))]
    rfl
  | succ i ih =>
    intro hi hz
    refine Ev.shift ?_
    have w:wrap64 (((i+1:Nat):Int)-1)=(i:Int):=by rw [wrap64_id (by omega) (by omega)];omega
    simp only [gimbalref90_NTrim.l0,w]
    repeat (first|refine ifT (by omega) ?_|refine ifF (by omega) ?_)
    by_cases h0:rd l (i:Int)=0
    · simp only [h0,if_true]
      refine ih (by omega) (fun j h1 h2=>?_)
      by_cases e:j=i
      · subst e;exact h0
      · exact hz j (by omega) h2
    · simp only [h0,if_false]
      repeat (first|refine ifT (by omega) ?_|refine ifF (by omega) ?_)
      refine Ev.pure fun _=>?_
      rw [← limbs_of_take h hi hz (fun _=>by simpa using h0),Int.toNat_natCast]
theorem trim_ev {l:List Int} (h:Dig l) (hn:l.length<4611686018427387904):Ev (fun k=>gimbalref90_NTrim.f k l) (limbs (val l)) :=
  trim_l0 h hn l.length (Nat.le_refl _) (fun j h1 h2=>by omega)
theorem of_ev {x:Int} (h0:0≤x) (h1:x<18446744073709551616):Ev (fun k=>gimbalref90_NOf.f k x) (limbs x.toNat):=by
  unfold gimbalref90_NOf.f
  refine Ev.to (Ev.bind (trim_ev (l:=[x]) (fun y hy=>by rw [List.mem_singleton] at hy;subst hy;exact ⟨h0,h1⟩) (by simp)) (Ev.pure fun _=>rfl)) ?_
  simp [val]
theorem pow32 (i:Nat):(4294967296:Nat) ^ (2*i)=18446744073709551616 ^ i:=by rw [Nat.pow_mul]
theorem halves_l0 {l:List Int} (h:Dig l) (hn:l.length<1000000):∀ (d i:Nat) (acc:List Int),l.length-i≤d→i≤l.length→acc.length=2*i→D32 acc→v32 acc=val (l.take i)→Ev (fun k=>gimbalref90_halves.l0 k l acc (i:Int)) (digs (val l)):=by
  intro d
  induction d with
  | zero =>
    intro i acc h1 h2 h3 h4 h5
    have:i=l.length:=by omega
    subst this
    refine Ev.shift ?_
    simp only [gimbalref90_halves.l0]
    repeat (first|refine ifT (by omega) ?_|refine ifF (by omega) ?_)
    refine Ev.to (Ev.bind (cut_ev h4 (by omega)) (Ev.pure fun _=>rfl)) ?_
    rw [h5,List.take_length]
  | succ d ih =>
    intro i acc h1 h2 h3 h4 h5
    by_cases hi:i<l.length
    · refine Ev.shift ?_
      have w:wrap64 ((i:Int)+1)=((i+1:Nat):Int):=by rw [wrap64_id (by omega) (by omega)];omega
      simp only [gimbalref90_halves.l0,w,Option.bind_some]
      repeat (first|refine ifT (by omega) ?_|refine ifF (by omega) ?_)
      obtain ⟨g0,g1⟩:=h.rd (i:=(i:Int)) (by omega) (by omega)
      have e:rd l (i:Int)/4294967296%4294967296=rd l (i:Int)/4294967296:=by omega
      refine ifT (show (acc.length+[rd l (i:Int)%4294967296,rd l (i:Int)/4294967296%4294967296].length<35184372088832) by simp only [List.length_cons,List.length_nil];omega) ?_
      refine ih (i+1) _ (by omega) (by omega) (by simp [h3];omega) (h4.append (fun x hx=>?_)) ?_
      · rcases List.mem_cons.1 hx with rfl|hx
        · omega
        · rw [List.mem_singleton] at hx;subst hx;omega
      · rw [v32_append,h3,pow32,h5,val_take_succ hi]
        congr 1
        congr 1
        simp only [v32,e]
        omega
    · exact ih i acc (by omega) h2 h3 h4 h5
theorem halves_ev {l:List Int} (h:Dig l) (hn:l.length<1000000):Ev (fun k=>gimbalref90_halves.f k l) (digs (val l)) :=
  halves_l0 h hn l.length 0 [] (by omega) (by omega) rfl (fun x hx=>by simp at hx) rfl
theorem or32 {a b:Int} (ha:0≤a) (ha1:a<4294967296) (hb:0≤b) (hb1:b<4294967296):Go.bits .or .u64 (IntKind.u64.wrap a) (IntKind.u64.wrap (IntKind.u64.wrap b*4294967296))=a+b*4294967296:=by
  rw [u64_id ha (by omega),u64_id hb (by omega),u64_id (by omega) (by omega),bits_comm_or]
  have:=Long.or_shift 32 (by omega) (a:=b) (b:=a) hb (by show b*4294967296<_;omega) ha (by show a<4294967296;omega)
  rw [show (b*4294967296:Int)=b*2 ^ 32 from rfl,this]
  show b*4294967296+a=a+b*4294967296
  omega
theorem whole_l0 {l:List Int} (h:D32 l) (hn:l.length<1000000):∀ (d i:Nat) (acc:List Int),l.length-2*i≤d→2*i≤l.length+1→acc.length=i→Dig acc→val acc=v32 (l.take (2*i))→Ev (fun k=>gimbalref90_whole.l0 k l acc ((2*i:Nat):Int)) (limbs (v32 l)):=by
  have fin:∀ (i:Nat) (acc:List Int),¬ 2*i<l.length→acc.length<1000000→Dig acc→val acc=v32 (l.take (2*i))→Ev (fun k=>gimbalref90_whole.l0 k l acc ((2*i:Nat):Int)) (limbs (v32 l)):=by
    intro i acc h1 h2 h3 h4
    refine Ev.shift ?_
    simp only [gimbalref90_whole.l0]
    repeat (first|refine ifT (by omega) ?_|refine ifF (by omega) ?_)
    refine Ev.to (Ev.bind (trim_ev h3 (by omega)) (Ev.pure fun _=>rfl)) ?_
    rw [h4,List.take_of_length_le (by omega)]
  intro d
  induction d with
  | zero =>
    intro i acc h1 hb h2 h3 h4
    exact fin i acc (by omega) (by omega) h3 h4
  | succ d ih =>
    intro i acc h1 hb h2 h3 h4
    by_cases hi:2*i<l.length
    · refine Ev.shift ?_
      have w1:wrap64 (((2*i:Nat):Int)+1)=((2*i+1:Nat):Int):=by rw [wrap64_id (by omega) (by omega)];omega
      have w2:wrap64 (((2*i:Nat):Int)+2)=((2*(i+1):Nat):Int):=by rw [wrap64_id (by omega) (by omega)];omega
      obtain ⟨a0,a1⟩:=h.rd (i:=((2*i:Nat):Int)) (by omega) (by omega)
      simp only [gimbalref90_whole.l0,w1,w2]
      repeat (first|refine ifT (by omega) ?_|refine ifF (by omega) ?_)
      by_cases hj:2*i+1<l.length
      · obtain ⟨b0,b1⟩:=h.rd (i:=((2*i+1:Nat):Int)) (by omega) (by omega)
        repeat (first|refine ifT (by omega) ?_|refine ifF (by omega) ?_)
        rw [or32 a0 a1 b0 b1]
        refine ih (i+1) _ (by omega) (by omega) (by simp [h2]) (h3.append (fun x hx=>by rw [List.mem_singleton] at hx;subst hx;omega)) ?_
        rw [val_append,h2,h4,show 2*(i+1)=2*i+1+1 by omega,v32_take_succ hj,v32_take_succ hi,Nat.pow_succ,pow32]
        simp only [val]
        generalize rd l ((2*i:Nat):Int)=a at *
        generalize rd l ((2*i+1:Nat):Int)=b at *
        rw [show (a+b*4294967296).toNat=a.toNat+4294967296*b.toNat by omega,Nat.mul_zero,Nat.add_zero,Nat.mul_add,Nat.mul_assoc,Nat.add_assoc]
      · repeat (first|refine ifT (by omega) ?_|refine ifF (by omega) ?_)
        rw [u64_id a0 (by omega)]
        refine ih (i+1) _ (by omega) (by omega) (by simp [h2]) (h3.append (fun x hx=>by rw [List.mem_singleton] at hx;subst hx;omega)) ?_
        rw [val_append,h2,h4,List.take_of_length_le (show l.length≤2*(i+1) by omega)]
        have e:l=l.take (2*i+1):=(List.take_of_length_le (by omega)).symm
        conv=>rhs;rw [e]
        rw [v32_take_succ hi,pow32]
        simp only [val]
        rw [Nat.mul_zero,Nat.add_zero]
    · exact fin i acc hi (by omega) h3 h4
theorem whole_ev {l:List Int} (h:D32 l) (hn:l.length<1000000):Ev (fun k=>gimbalref90_whole.f k l) (limbs (v32 l)) :=
  whole_l0 h hn l.length 0 [] (by omega) (by omega) rfl (fun x hx=>by simp at hx) rfl
theorem rd_over {l:List Int} {i:Nat} (h:l.length≤i):rd l (i:Int)=0:=by
  unfold rd
  rw [List.getD_eq_getElem?_getD,Int.toNat_natCast,List.getElem?_eq_none h]
  rfl
theorem v32_take_any {l:List Int} (i:Nat):v32 (l.take (i+1))=v32 (l.take i)+4294967296 ^ i*(rd l (i:Int)).toNat:=by
  by_cases h:i<l.length
  · exact v32_take_succ h
  · rw [List.take_of_length_le (by omega),List.take_of_length_le (by omega),rd_over (by omega)]
    simp
theorem rd_any {l:List Int} (h:D32 l) (i:Nat):0≤rd l (i:Int)∧rd l (i:Int)<4294967296:=by
  by_cases hi:i<l.length
  · exact h.rd (by omega) (by omega)
  · rw [rd_over (by omega)];omega
structure PInv (x y:List Int) (i:Nat) (acc:List Int) (c:Int):Prop where
  len:acc.length=i
  dig:D32 acc
  c0:0≤c
  c1:c≤1
  eq:v32 acc+4294967296 ^ i*c.toNat=v32 (x.take i)+v32 (y.take i)
theorem PInv.step {x y acc:List Int} {i:Nat} {c t:Int} (hx:D32 x) (hy:D32 y) (h:PInv x y i acc c) (ht:t=c+rd x (i:Int)+rd y (i:Int)):PInv x y (i+1) (acc++[t%4294967296]) (t/4294967296):=by
  obtain ⟨a0,a1⟩:=rd_any hx i
  obtain ⟨b0,b1⟩:=rd_any hy i
  obtain ⟨h1,h2,h3,h4,h5⟩:=h
  refine ⟨by simp [h1],h2.append (fun z hz=>by rw [List.mem_singleton] at hz;subst hz;omega),by omega,by omega,?_⟩
  rw [v32_append,h1,v32_take_any,v32_take_any,Nat.pow_succ]
  simp only [v32]
  rw [Nat.mul_zero,Nat.add_zero,Nat.mul_assoc,Nat.add_assoc,← Nat.mul_add,show (t%4294967296).toNat+4294967296*(t/4294967296).toNat=c.toNat+(rd x (i:Int)).toNat+(rd y (i:Int)).toNat by omega,Nat.mul_add,Nat.mul_add]
  omega
theorem plus_l0 {x y:List Int} (hx:D32 x) (hy:D32 y) (nx:x.length<900000) (ny:y.length<900000):∀ (d i:Nat) (acc:List Int) (c:Int),(x.length-i)+(y.length-i)≤d→i≤900000→PInv x y i acc c→Ev (fun k=>gimbalref90_NPlus.l0 k x y acc c (i:Int)) (limbs (v32 x+v32 y)):=by
  have fin:∀ (i:Nat) (acc:List Int) (c:Int),x.length≤i→y.length≤i→i≤900000→PInv x y i acc c→Ev (fun k=>gimbalref90_NPlus.l0 k x y acc c (i:Int)) (limbs (v32 x+v32 y)):=by
    intro i acc c h1 h2 h3 h
    have e0:decide ((i:Int)<(y.length:Int))=false:=decide_eq_false (by omega)
    refine Ev.shift ?_
    simp only [gimbalref90_NPlus.l0,e0]
    refine ifF (by omega) ?_
    refine Ev.shift ?_
    simp only [gimbalref90_NPlus.j1,Bool.false_eq_true,if_false]
    have hl:=h.len
    refine ifT (by omega) ?_
    have hd:D32 (acc++[c%4294967296]):=h.dig.append (fun z hz=>by rw [List.mem_singleton] at hz;subst hz;omega)
    refine Ev.bind (cut_ev hd (by simp;omega)) ?_
    refine Ev.to (Ev.bind (whole_ev (digs_dig _) ?_) (Ev.pure fun _=>rfl)) ?_
    · have:=digs_len (v32_lt hd)
      simp at this
      omega
    · rw [v32_digs,v32_append,h.len]
      simp only [v32]
      have:=h.eq
      rw [List.take_of_length_le h1,List.take_of_length_le h2] at this
      rw [← this,Nat.mul_zero,Nat.add_zero,show (c%4294967296).toNat=c.toNat by have:=h.c0;have:=h.c1;omega]
  intro d
  induction d with
  | zero=>intro i acc c h1 h2 h;exact fin i acc c (by omega) (by omega) h2 h
  | succ d ih =>
    intro i acc c h1 h2 h
    by_cases hi:i<x.length∨i<y.length
    · have hl:=h.len
      have w:wrap64 ((i:Int)+1)=((i+1:Nat):Int):=by rw [wrap64_id (by omega) (by omega)];omega
      obtain ⟨a0,a1⟩:=rd_any hx i
      obtain ⟨b0,b1⟩:=rd_any hy i
      have c0:=h.c0
      have c1:=h.c1
      have ua:IntKind.u64.wrap (rd x (i:Int))=rd x (i:Int):=u64_id a0 (by omega)
      have ub:IntKind.u64.wrap (rd y (i:Int))=rd y (i:Int):=u64_id b0 (by omega)
      have u1:IntKind.u64.wrap (c+rd x (i:Int))=c+rd x (i:Int):=u64_id (by omega) (by omega)
      have u2:IntKind.u64.wrap (c+rd y (i:Int))=c+rd y (i:Int):=u64_id (by omega) (by omega)
      have u3:IntKind.u64.wrap (c+rd x (i:Int)+rd y (i:Int))=c+rd x (i:Int)+rd y (i:Int):=u64_id (by omega) (by omega)
      have next:∀ t,t=c+rd x (i:Int)+rd y (i:Int)→Ev (fun k=>gimbalref90_NPlus.l0 k x y (acc++[t%4294967296]) (t/4294967296) ((i+1:Nat):Int)) (limbs (v32 x+v32 y)):=fun t ht=>ih (i+1) _ _ (by omega) (by omega) (h.step hx hy ht)
      have go:Ev (fun k=>gimbalref90_NPlus.j1 k x y acc c (i:Int) true) (limbs (v32 x+v32 y)):=by
        refine Ev.shift ?_
        simp only [gimbalref90_NPlus.j1,if_true,ua,ub,u1,u2,u3,w]
        by_cases hxi:i<x.length
        · by_cases hyi:i<y.length
          · repeat (first|refine ifT (by omega) ?_|refine ifF (by omega) ?_)
            exact next _ rfl
          · repeat (first|refine ifT (by omega) ?_|refine ifF (by omega) ?_)
            exact next _ (by rw [rd_over (l:=y) (by omega)];omega)
        · repeat (first|refine ifT (by omega) ?_|refine ifF (by omega) ?_)
          exact next _ (by rw [rd_over (l:=x) (by omega)];omega)
      refine Ev.shift ?_
      simp only [gimbalref90_NPlus.l0]
      by_cases hxi:i<x.length
      · exact ifT (by omega) go
      · rw [show decide ((i:Int)<(y.length:Int))=true from decide_eq_true (by omega)]
        exact ifF (by omega) go
    · exact fin i acc c (by omega) (by omega) h2 h
theorem digs_limbs_len (n:Nat):(digs n).length≤2*(limbs n).length:=by
  refine digs_len ?_
  rw [pow32]
  exact lt_limbs n
theorem plus_ev {a b:Nat} (ha:(limbs a).length≤400000) (hb:(limbs b).length≤400000):Ev (fun k=>gimbalref90_NPlus.f k (limbs a) (limbs b)) (limbs (a+b)):=by
  unfold gimbalref90_NPlus.f
  have h1:=halves_ev (limbs_dig a) (by omega)
  have h2:=halves_ev (limbs_dig b) (by omega)
  rw [val_limbs] at h1 h2
  refine Ev.bind h1 (Ev.bind h2 ?_)
  have la:=digs_limbs_len a
  have lb:=digs_limbs_len b
  have:=plus_l0 (digs_dig a) (digs_dig b) (by omega) (by omega) _ 0 [] 0 (Nat.le_refl _) (by omega) ⟨rfl,fun x hx=>by simp at hx,by omega,by omega,rfl⟩
  rw [v32_digs,v32_digs] at this
  exact this
structure LInv (x y:List Int) (i:Nat) (acc:List Int) (c:Int):Prop where
  len:acc.length=i
  dig:D32 acc
  c0 : -1≤c
  c1:c≤0
  eq:(v32 acc:Int)+4294967296 ^ i*c=(v32 (x.take i):Int)-(v32 (y.take i):Int)
theorem LInv.step {x y acc:List Int} {i:Nat} {c t:Int} (hx:D32 x) (hy:D32 y) (h:LInv x y i acc c) (ht:t=c+rd x (i:Int)-rd y (i:Int)):LInv x y (i+1) (acc++[t%4294967296]) (t/4294967296):=by
  obtain ⟨a0,a1⟩:=rd_any hx i
  obtain ⟨b0,b1⟩:=rd_any hy i
  obtain ⟨h1,h2,h3,h4,h5⟩:=h
  refine ⟨by simp [h1],h2.append (fun z hz=>by rw [List.mem_singleton] at hz;subst hz;omega),by omega,by omega,?_⟩
  rw [v32_append,h1,v32_take_any,v32_take_any]
  simp only [v32,Int.natCast_add,Int.natCast_mul,Int.natCast_pow,Nat.mul_zero,Nat.add_zero,Int.toNat_of_nonneg a0,Int.toNat_of_nonneg b0,Int.toNat_of_nonneg (show 0≤t%4294967296 by omega),Int.pow_succ,Int.mul_assoc]
  have e:(4294967296:Int)*(t/4294967296)=t-t%4294967296:=by omega
  rw [show ((4294967296:Nat):Int)=4294967296 from rfl,e,Int.mul_sub,ht]
  have e2:(4294967296:Int) ^ i*(c+rd x (i:Int)-rd y (i:Int))=4294967296 ^ i*c+4294967296 ^ i*rd x (i:Int)-4294967296 ^ i*rd y (i:Int):=by rw [Int.mul_sub,Int.mul_add]
  rw [e2]
  generalize (4294967296:Int) ^ i*((c+rd x (i:Int)-rd y (i:Int))%4294967296)=p at *
  omega
theorem less_l0 {x y:List Int} (hx:D32 x) (hy:D32 y) (nx:x.length<900000) (hxy:y.length≤x.length) (hle:v32 y≤v32 x):∀ (d i:Nat) (acc:List Int) (c:Int),x.length-i≤d→i≤x.length→LInv x y i acc c→Ev (fun k=>gimbalref90_NLess.l0 k x y acc c (i:Int)) (limbs (v32 x-v32 y)):=by
  have fin:∀ (acc:List Int) (c:Int),LInv x y x.length acc c→Ev (fun k=>gimbalref90_NLess.l0 k x y acc c (x.length:Int)) (limbs (v32 x-v32 y)):=by
    intro acc c h
    refine Ev.shift ?_
    simp only [gimbalref90_NLess.l0]
    refine ifF (by omega) ?_
    have hl:=h.len
    refine Ev.bind (cut_ev h.dig (by omega)) ?_
    have hd:=v32_lt h.dig
    refine Ev.to (Ev.bind (whole_ev (digs_dig _) ?_) (Ev.pure fun _=>rfl)) ?_
    · have:=digs_len hd
      omega
    · rw [v32_digs]
      have e:=h.eq
      rw [List.take_of_length_le (Nat.le_refl _),List.take_of_length_le hxy] at e
      have c0:c=0:=by
        have h0:=h.c0
        have h1:=h.c1
        by_cases hc:c = -1
        · exfalso
          rw [hc] at e
          rw [hl] at hd
          have hd':(v32 acc:Int)<4294967296 ^ x.length:=by have h2:=Int.ofNat_lt.2 hd;rw [Int.natCast_pow] at h2;exact h2
          omega
        · omega
      rw [c0] at e
      congr 1
      omega
  intro d
  induction d with
  | zero =>
    intro i acc c h1 h2 h
    have:i=x.length:=by omega
    subst this
    exact fin acc c h
  | succ d ih =>
    intro i acc c h1 h2 h
    by_cases hi:i<x.length
    · have hl:=h.len
      have w:wrap64 ((i:Int)+1)=((i+1:Nat):Int):=by rw [wrap64_id (by omega) (by omega)];omega
      obtain ⟨a0,a1⟩:=rd_any hx i
      obtain ⟨b0,b1⟩:=rd_any hy i
      have c0:=h.c0
      have c1:=h.c1
      have ua:wrap64 (rd x (i:Int))=rd x (i:Int):=wrap64_id (by omega) (by omega)
      have ub:wrap64 (rd y (i:Int))=rd y (i:Int):=wrap64_id (by omega) (by omega)
      have u1:wrap64 (c+rd x (i:Int))=c+rd x (i:Int):=wrap64_id (by omega) (by omega)
      have u3:wrap64 (c+rd x (i:Int)-rd y (i:Int))=c+rd x (i:Int)-rd y (i:Int):=wrap64_id (by omega) (by omega)
      have um:∀ t:Int,IntKind.u64.wrap t%4294967296=t%4294967296:=fun t=>by rw [u64_wrap];omega
      have next:∀ t,t=c+rd x (i:Int)-rd y (i:Int)→Ev (fun k=>gimbalref90_NLess.l0 k x y (acc++[t%4294967296]) (t/4294967296) ((i+1:Nat):Int)) (limbs (v32 x-v32 y)):=fun t ht=>ih (i+1) _ _ (by omega) (by omega) (h.step hx hy ht)
      refine Ev.shift ?_
      simp only [gimbalref90_NLess.l0,ua,ub,u1,u3,um,w]
      by_cases hyi:i<y.length
      · repeat (first|refine ifT (by omega) ?_|refine ifF (by omega) ?_)
        exact next _ rfl
      · repeat (first|refine ifT (by omega) ?_|refine ifF (by omega) ?_)
        exact next _ (by rw [rd_over (l:=y) (by omega)];omega)
    · have:i=x.length:=by omega
      subst this
      exact fin acc c h
theorem digs_mono {a b:Nat} (h:b≤a):(digs b).length≤(digs a).length:=digs_len (Nat.lt_of_le_of_lt h (lt_digs a))
theorem less_ev {a b:Nat} (ha:(limbs a).length≤400000) (hb:b≤a):Ev (fun k=>gimbalref90_NLess.f k (limbs a) (limbs b)) (limbs (a-b)):=by
  unfold gimbalref90_NLess.f
  have lb:(limbs b).length≤(limbs a).length:=limbs_len (Nat.lt_of_le_of_lt hb (lt_limbs a))
  have h1:=halves_ev (limbs_dig a) (by omega)
  have h2:=halves_ev (limbs_dig b) (by omega)
  rw [val_limbs] at h1 h2
  refine Ev.bind h1 (Ev.bind h2 ?_)
  have la:=digs_limbs_len a
  have:=less_l0 (digs_dig a) (digs_dig b) (by omega) (digs_mono hb) (by rw [v32_digs,v32_digs];exact hb) _ 0 [] 0 (Nat.le_refl _) (by omega) ⟨rfl,fun x hx=>by simp at hx,by omega,by omega,by simp [v32]⟩
  rw [v32_digs,v32_digs] at this
  exact this
def cmpN (a b:Nat):Int:=if a<b then -1 else if b<a then 1 else 0
theorem cmp_l0 {l l':List Int} (h:Dig l) (h':Dig l') (hn:l.length<1000000) (hl:l.length=l'.length):∀ i:Nat,i≤l.length→l.drop i=l'.drop i→Ev (fun k=>gimbalref90_NCmp.l0 k l l' ((i:Int)-1)) (cmpN (val l) (val l')):=by
  intro i
  induction i with
  | zero =>
    intro _ he
    refine Ev.shift ?_
    simp only [gimbalref90_NCmp.l0]
    refine ifF (by omega) ?_
    refine Ev.pure fun _=>?_
    have e:l=l':=by simpa using he
    subst e
    unfold cmpN
    rw [if_neg (Nat.lt_irrefl _),if_neg (Nat.lt_irrefl _)]
  | succ i ih =>
    intro hi he
    refine Ev.shift ?_
    have w:wrap64 ((i:Int)-1)=(i:Int)-1:=wrap64_id (by omega) (by omega)
    have e1:((i+1:Nat):Int)-1=(i:Int):=by omega
    simp only [gimbalref90_NCmp.l0,e1,w]
    repeat (first|refine ifT (by omega) ?_|refine ifF (by omega) ?_)
    by_cases h1:rd l (i:Int)<rd l' (i:Int)
    · refine ifT h1 (Ev.pure fun _=>?_)
      have:=cmp_at h h' (i:=i) (by omega) (by omega) he h1
      unfold cmpN
      rw [if_pos this]
    · refine ifF h1 ?_
      by_cases h2:rd l (i:Int)>rd l' (i:Int)
      · refine ifT h2 (Ev.pure fun _=>?_)
        have:=cmp_at h' h (i:=i) (by omega) (by omega) he.symm h2
        unfold cmpN
        rw [if_neg (by omega),if_pos this]
      · refine ifF h2 (ih (by omega) ?_)
        have ea:l.drop i=rd l (i:Int)::l.drop (i+1):=by rw [rd_nat (by omega)];exact List.drop_eq_getElem_cons (by omega)
        have eb:l'.drop i=rd l' (i:Int)::l'.drop (i+1):=by rw [rd_nat (by omega)];exact List.drop_eq_getElem_cons (by omega)
        rw [ea,eb,he,show rd l (i:Int)=rd l' (i:Int) by omega]
theorem cmp_ev {a b:Nat} (ha:(limbs a).length<1000000) (hb:(limbs b).length<1000000):Ev (fun k=>gimbalref90_NCmp.f k (limbs a) (limbs b)) (cmpN a b):=by
  unfold gimbalref90_NCmp.f
  by_cases hl:(limbs a).length=(limbs b).length
  · refine ifT (by omega) ?_
    rw [wrap64_id (by omega) (by omega)]
    have:=cmp_l0 (limbs_dig a) (limbs_dig b) ha hl _ (Nat.le_refl _) (by rw [List.drop_of_length_le (Nat.le_refl _),List.drop_of_length_le (by omega)])
    rw [val_limbs,val_limbs] at this
    exact this
  · refine ifF (by omega) ?_
    have mono:∀ {a b:Nat},b≤a→(limbs b).length≤(limbs a).length:=fun h=>limbs_len (Nat.lt_of_le_of_lt h (lt_limbs _))
    by_cases h1:(limbs a).length<(limbs b).length
    · refine ifT (by omega) (Ev.pure fun _=>?_)
      unfold cmpN
      have:a<b:=by
        by_cases hc:a<b
        · exact hc
        · have:=mono (a:=a) (b:=b) (by omega);omega
      rw [if_pos this]
    · refine ifF (by omega) (Ev.pure fun _=>?_)
      unfold cmpN
      have:b<a:=by
        by_cases hc:b<a
        · exact hc
        · have:=mono (a:=b) (b:=a) (by omega);omega
      rw [if_neg (by omega),if_pos this]
def bitsN (n:Nat):Nat:=if h:n=0 then 0 else bitsN (n/2)+1
termination_by n
decreasing_by omega
theorem bits_zero:bitsN 0=0:=by rw [bitsN];rfl
theorem bits_pos {n:Nat} (h:n≠0):bitsN n=bitsN (n/2)+1:=by rw [bitsN];simp [h]
theorem bits_up (k:Nat):∀ n,2 ^ k≤n→bitsN n=k+bitsN (n/2 ^ k):=by
  induction k with
  | zero=>intro n _;simp
  | succ k ih =>
    intro n h
    have h2:2 ^ k≤n/2:=by rw [Nat.le_div_iff_mul_le (by omega),← Nat.pow_succ];exact h
    have hp:=Nat.two_pow_pos (k+1)
    rw [bits_pos (by omega),ih _ h2,Nat.div_div_eq_div_mul,show 2*2 ^ k=2 ^ (k+1) by rw [Nat.pow_succ,Nat.mul_comm]]
    omega
theorem bits_lt (n:Nat):n<2 ^ bitsN n:=by
  induction n using Nat.strongRecOn with
  | _ n ih =>
    by_cases h:n=0
    · subst h;rw [bits_zero];decide
    · have:=ih (n/2) (by omega)
      rw [bits_pos h,Nat.pow_succ]
      omega
theorem bits_le {n k:Nat} (h:n<2 ^ k):bitsN n≤k:=by
  induction k generalizing n with
  | zero => have : n = 0 := by omega
            subst this;rw [bits_zero];omega
  | succ k ih =>
    by_cases h0:n=0
    · subst h0;rw [bits_zero];omega
    · have:=ih (n:=n/2) (by rw [Nat.pow_succ] at h;omega)
      rw [bits_pos h0]
      omega
theorem len_l0:∀ (d x:Nat) (n:Int),x<2 ^ d→0≤n→n+d<9223372036854775807→Ev (fun k=>gimbalref90_NLen.l0 k n (x:Int)) (n+bitsN x):=by
  intro d
  induction d with
  | zero =>
    intro x n hx h0 h1
    have:x=0:=by omega
    subst this
    refine Ev.shift ?_
    simp only [gimbalref90_NLen.l0]
    refine Ev.pure fun _=>?_
    rw [bits_zero];simp
  | succ d ih =>
    intro x n hx h0 h1
    refine Ev.shift ?_
    simp only [gimbalref90_NLen.l0]
    by_cases hz:x=0
    · refine ifT (by omega) (Ev.pure fun _=>?_)
      subst hz;rw [bits_zero];simp
    · refine ifF (by omega) ?_
      rw [wrap64_id (by omega) (by omega)]
      refine Ev.to (ih (x/2) (n+1) (by rw [Nat.pow_succ] at hx;omega) (by omega) (by omega)) ?_
      rw [bits_pos hz]
      omega
theorem bits_limbs:∀ {n:Nat},n≠0→0<(limbs n).length∧bitsN n=64*((limbs n).length-1)+bitsN (rd (limbs n) (((limbs n).length:Int)-1)).toNat:=by
  intro n
  induction n using Nat.strongRecOn with
  | _ n ih =>
    intro h
    rw [limbs_pos h]
    by_cases hq:n/18446744073709551616=0
    · rw [hq,limbs_zero]
      refine ⟨by simp,?_⟩
      have e:n%18446744073709551616=n:=by omega
      rw [e]
      show bitsN n=64*0+bitsN ((n:Int)).toNat
      rw [Int.toNat_natCast];omega
    · obtain ⟨h1,h2⟩:=ih _ (by omega) hq
      refine ⟨by simp,?_⟩
      rw [bits_up 64 n (by show 18446744073709551616≤n;omega),show (2:Nat) ^ 64=18446744073709551616 from rfl,h2]
      simp only [List.length_cons]
      have e:rd (((n%18446744073709551616:Nat):Int)::limbs (n/18446744073709551616)) ((((limbs (n/18446744073709551616)).length+1:Nat):Int)-1)=rd (limbs (n/18446744073709551616)) (((limbs (n/18446744073709551616)).length:Int)-1):=by
        generalize limbs (n/18446744073709551616)=r at *
        obtain ⟨j,hj⟩:∃ j,r.length=j+1:=⟨r.length-1,by omega⟩
        rw [hj,show (((j+1+1:Nat):Int)-1)=((j+1:Nat):Int) by omega,show (((j+1:Nat):Int)-1)=((j:Nat):Int) by omega]
        unfold rd
        simp
      rw [e]
      omega
theorem nlen_ev {n:Nat} (hn:(limbs n).length<1000000):Ev (fun k=>gimbalref90_NLen.f k (limbs n)) (bitsN n:Int):=by
  unfold gimbalref90_NLen.f
  by_cases h:n=0
  · subst h
    rw [limbs_zero]
    refine ifT rfl (Ev.pure fun _=>?_)
    rw [bits_zero];rfl
  · obtain ⟨h1,h2⟩:=bits_limbs h
    refine ifF (by omega) ?_
    have w:wrap64 (((limbs n).length:Int)-1)=((limbs n).length:Int)-1:=wrap64_id (by omega) (by omega)
    have w2:wrap64 (64*(((limbs n).length:Int)-1))=64*(((limbs n).length:Int)-1):=wrap64_id (by omega) (by omega)
    obtain ⟨g0,g1⟩:=(limbs_dig n).rd (i:=((limbs n).length:Int)-1) (by omega) (by omega)
    rw [w,w2]
    refine ifT (by omega) (ifT (by omega) ?_)
    have:=len_l0 64 (rd (limbs n) (((limbs n).length:Int)-1)).toNat (64*(((limbs n).length:Int)-1)) (by show _<18446744073709551616;omega) (by omega) (by omega)
    rw [Int.toNat_of_nonneg g0] at this
    refine Ev.to this ?_
    rw [h2]
    omega
theorem v32_drop {l:List Int} {i:Nat} (h:i<l.length):v32 (l.drop i)=(rd l (i:Int)).toNat+4294967296*v32 (l.drop (i+1)):=by
  rw [List.drop_eq_getElem_cons h,v32,rd_nat h]
theorem short_l0 {x:List Int} {d:Int} (hx:D32 x) (hn:x.length<900000) (d0:0<d) (d1:d<4294967296):∀ (i:Nat) (q:List Int) (r:Int),i≤x.length→q.length=x.length→D32 q→0≤r→r<d→v32 (x.drop i)=v32 (q.drop i)*d.toNat+r.toNat →
    Ev (fun k=>gimbalref90_short.l0 k x d q r ((i:Int)-1)) (digs (v32 x/d.toNat),((v32 x%d.toNat:Nat):Int)):=by
  intro i
  induction i with
  | zero =>
    intro q r _ hq dq r0 r1 e
    refine Ev.shift ?_
    simp only [gimbalref90_short.l0]
    refine ifF (by omega) ?_
    refine Ev.to (Ev.bind (cut_ev dq (by omega)) (Ev.pure fun _=>rfl)) ?_
    rw [List.drop_zero,List.drop_zero] at e
    have hr:r.toNat<d.toNat:=by omega
    have e1:v32 x/d.toNat=v32 q:=by rw [e,Nat.mul_comm,Nat.mul_add_div (by omega),Nat.div_eq_of_lt hr,Nat.add_zero]
    have e2:v32 x%d.toNat=r.toNat:=by rw [e,Nat.mul_comm,Nat.mul_add_mod,Nat.mod_eq_of_lt hr]
    rw [e1,e2,Int.toNat_of_nonneg r0,Int.emod_eq_of_lt r0 (by omega)]
  | succ i ih =>
    intro q r hi hq dq r0 r1 e
    refine Ev.shift ?_
    have w:wrap64 ((i:Int)-1)=(i:Int)-1:=wrap64_id (by omega) (by omega)
    have e1:((i+1:Nat):Int)-1=(i:Int):=by omega
    obtain ⟨a0,a1⟩:=hx.rd (i:=(i:Int)) (by omega) (by omega)
    have ud:IntKind.u64.wrap d=d:=u64_id (by omega) (by omega)
    have uo:Go.bits .or .u64 (IntKind.u64.wrap (r*4294967296)) (IntKind.u64.wrap (rd x (i:Int)))=r*4294967296+rd x (i:Int):=by
      rw [u64_id (by omega) (by omega),u64_id a0 (by omega)]
      exact Long.or_shift 32 (by omega) r0 (by show r*4294967296<_;omega) a0 (by show _<(4294967296:Int);omega)
    simp only [gimbalref90_short.l0,e1,w,ud,uo]
    repeat (first|refine ifT (by omega) ?_|refine ifF (by omega) ?_)
    have ht:0≤r*4294967296+rd x (i:Int):=by omega
    generalize hT:r*4294967296+rd x (i:Int)=t at *
    have hq0:0≤t/d:=Int.ediv_nonneg ht (by omega)
    have hq1:t/d<4294967296:=Int.ediv_lt_of_lt_mul d0 (by
      have:=Int.mul_le_mul_of_nonneg_right (show r+1≤d by omega) (show (0:Int)≤4294967296 by decide)
      omega)
    have hm0:=Int.emod_nonneg t (show d≠0 by omega)
    have hm1:=Int.emod_lt_of_pos t d0
    have hdm:=Int.emod_add_mul_ediv t d
    rw [Int.tdiv_eq_ediv_of_nonneg ht,Int.tmod_eq_emod_of_nonneg ht,u64_id hq0 (by omega),Int.emod_eq_of_lt hq0 hq1,Int.toNat_natCast]
    refine ih _ _ (by omega) (by simpa using hq) (dq.set i hq0 hq1) hm0 hm1 ?_
    have es:(q.set i (t/d)).drop (i+1)=q.drop (i+1):=by rw [List.drop_set_of_lt (by omega)]
    rw [v32_drop (l:=x) (by omega),v32_drop (l:=q.set i (t/d)) (by simp;omega),rd_set_eq _ (by omega),es,e]
    generalize v32 (q.drop (i+1))=V at *
    have h1:(t/d).toNat*d.toNat+(t%d).toNat=t.toNat:=by
      have:((t/d).toNat*d.toNat+(t%d).toNat:Nat)=((t.toNat:Nat):Int):=by
        rw [Int.natCast_add,Int.natCast_mul,Int.toNat_of_nonneg hq0,Int.toNat_of_nonneg (by omega:(0:Int)≤d),Int.toNat_of_nonneg hm0,Int.toNat_of_nonneg ht,Int.mul_comm]
        omega
      exact_mod_cast this
    have h2:t.toNat=r.toNat*4294967296+(rd x (i:Int)).toNat:=by omega
    rw [Nat.add_mul,Nat.add_right_comm,h1,h2,Nat.mul_add,Nat.mul_assoc]
    omega
theorem short_ev {x:List Int} {d:Int} (hx:D32 x) (hn:x.length<900000) (d0:0<d) (d1:d<4294967296):Ev (fun k=>gimbalref90_short.f k x d) (digs (v32 x/d.toNat),((v32 x%d.toNat:Nat):Int)):=by
  unfold gimbalref90_short.f
  rw [Int.toNat_natCast,wrap64_id (by omega) (by omega)]
  refine ifT (by omega) (ifT (by omega) ?_)
  exact short_l0 hx hn d0 d1 x.length _ 0 (Nat.le_refl _) (by simp) (D32.zeros _) (by omega) d0 (by rw [List.drop_of_length_le (Nat.le_refl _),List.drop_of_length_le (by simp)];simp [v32])
end Go.Proofs.YtmnkaldemjdcoaaGreat.R90
end
section
set_option linter.unusedVariables false
set_option linter.unusedSimpArgs false
namespace Go.Proofs.YtmnkaldemjdcoaaGreat.R90
open Go RowKit YtmnkaldemjdcoaaGreat.QN90 YtmnkaldemjdcoaaGreatW.PrintWords YtmnkaldemjdcoaaGreatW.PrintMore YtmnkaldemjdcoaaGreatW.PrintLast YtmnkaldemjdcoaaGreatW.Aid YtmnkaldemjdcoaaGreatW.Big YtmnkaldemjdcoaaGreatW.Dig32 YtmnkaldemjdcoaaGreat.Limbs
theorem mul_bd {x y:Int} (x0:0≤x) (x1:x<4294967296) (y0:0≤y) (y1:y<4294967296):0≤x*y∧x*y≤18446744065119617025:=by
  refine ⟨Int.mul_nonneg x0 y0,?_⟩
  have:=Int.mul_le_mul (show x≤4294967295 by omega) (show y≤4294967295 by omega) y0 (by decide)
  omega
theorem word_parts {c z p:Int} (c0:0≤c) (c1:c<4294967296) (z0:0≤z) (z1:z<4294967296) (p0:0≤p) (p1:p≤18446744065119617025) :
    (0≤c+z∧c+z≤18446744073709551615)∧(0≤c+z+p∧c+z+p≤18446744073709551615)∧0≤(c+z+p)%4294967296∧(c+z+p)%4294967296<4294967296∧0≤(c+z+p)/4294967296∧(c+z+p)/4294967296<4294967296∧(c+z+p)%4294967296+4294967296*((c+z+p)/4294967296)=z+p+c:=by
  omega
theorem small_u {x:Int} (x0:0≤x) (x1:x<4294967296):IntKind.u64.wrap x=x:=u64_id x0 (by omega)
theorem w_add {i j:Nat} (h:i+j<9000000000000000000):wrap64 ((i:Int)+(j:Int))=((i+j:Nat):Int):=by rw [wrap64_id (by omega) (by omega)];omega
theorem w_suc {j:Nat} (h:j<9000000000000000000):wrap64 ((j:Int)+1)=((j+1:Nat):Int):=by rw [wrap64_id (by omega) (by omega)];omega
theorem times_step (k:Nat) {a b cs:List Int} {i j:Nat} {c x y z:Int} (hj:j<b.length) (hi:i<a.length) (hl:i+j<cs.length) (hn:cs.length<4000000) (hnb:b.length<4000000) (hx:rd a (i:Int)=x) (hy:rd b (j:Int)=y) (hz:rd cs ((i+j:Nat):Int)=z)
    (c0:0≤c) (c1:c<4294967296) (x0:0≤x) (x1:x<4294967296) (y0:0≤y) (y1:y<4294967296) (z0:0≤z) (z1:z<4294967296) :
    gimbalref90_NTimes.l1 (k+1) a b cs (i:Int) c (j:Int)=gimbalref90_NTimes.l1 k a b (cs.set (i+j) ((c+z+x*y)%4294967296)) (i:Int) ((c+z+x*y)/4294967296) ((j+1:Nat):Int):=by
  have g1:(j:Int)<(b.length:Int):=by clear hx hy hz;omega
  have g3:((i+j:Nat):Int)<(cs.length:Int):=by clear hx hy hz;omega
  have g4:(i:Int)<(a.length:Int):=by clear hx hy hz;omega
  have n1:i+j<9000000000000000000:=by clear hx hy hz;omega
  have n2:j<9000000000000000000:=by clear hx hy hz;omega
  have w:=w_add (i:=i) (j:=j) n1
  have w2:=w_suc (j:=j) n2
  obtain ⟨m0,m1⟩:=mul_bd x0 x1 y0 y1
  obtain ⟨⟨s0,s1⟩,⟨t0,t1⟩,_⟩:=word_parts c0 c1 z0 z1 m0 m1
  simp only [gimbalref90_NTimes.l1,w,w2,hx,hy,hz,small_u x0 x1,small_u y0 y1,small_u z0 z1,u64_id m0 (Int.le_trans m1 (by decide)),u64_id s0 s1,u64_id t0 t1]
  rw [if_pos g1,if_pos (Int.natCast_nonneg _),if_pos g3,if_pos (Int.natCast_nonneg _),if_pos g4,if_pos (Int.natCast_nonneg _),Int.toNat_natCast]
theorem times_end (k:Nat) {a b cs:List Int} {i:Nat} {c:Int} (hl:i+b.length<cs.length) (hn:cs.length<4000000) (c0:0≤c) (c1:c<4294967296) :
    gimbalref90_NTimes.l1 (k+1) a b cs (i:Int) c (b.length:Int)=gimbalref90_NTimes.l0 k a b (cs.set (i+b.length) c) ((i+1:Nat):Int):=by
  have g1:¬ (b.length:Int)<(b.length:Int):=by omega
  have g3:((i+b.length:Nat):Int)<(cs.length:Int):=by omega
  have n1:i+b.length<9000000000000000000:=by omega
  have n2:i<9000000000000000000:=by omega
  have w:=w_add (i:=i) (j:=b.length) n1
  have w2:=w_suc (j:=i) n2
  simp only [gimbalref90_NTimes.l1,w,w2]
  rw [if_neg g1,if_pos (Int.natCast_nonneg _),if_pos g3,Int.toNat_natCast,Int.emod_eq_of_lt c0 c1]
theorem times_l1 {a b cs0:List Int} {i:Nat} {R:List Int} (ha:D32 a) (hb:D32 b) (na:a.length<900000) (nb:b.length<900000) (hi:i<a.length) (hl0:cs0.length=a.length+b.length)
    (next:∀ cs cy,RowInv32 b cs0 i (rd a (i:Int)) b.length cy cs→Ev (fun k=>gimbalref90_NTimes.l0 k a b (cs.set (i+b.length) cy) ((i+1:Nat):Int)) R) :
    ∀ (d j:Nat) (cs:List Int) (c:Int),b.length-j≤d→j≤b.length→RowInv32 b cs0 i (rd a (i:Int)) j c cs→Ev (fun k=>gimbalref90_NTimes.l1 k a b cs (i:Int) c (j:Int)) R:=by
  obtain ⟨x0,x1⟩:=ha.rd (i:=(i:Int)) (by omega) (by omega)
  have fin:∀ (cs:List Int) (c:Int),RowInv32 b cs0 i (rd a (i:Int)) b.length c cs→Ev (fun k=>gimbalref90_NTimes.l1 k a b cs (i:Int) c (b.length:Int)) R:=by
    intro cs c h
    have hl:=h.1
    have hl1:i+b.length<cs.length:=by rw [hl,hl0];omega
    have hl2:cs.length<4000000:=by rw [hl,hl0];omega
    exact Ev.step (fun k=>times_end k hl1 hl2 h.2.2.1 h.2.2.2.1) (next cs c h)
  intro d
  induction d with
  | zero =>
    intro j cs c h1 h2 h
    have:j=b.length:=by omega
    subst this
    exact fin cs c h
  | succ d ih =>
    intro j cs c h1 h2 h
    by_cases hj:j<b.length
    · have hl:=h.1
      have hl1:i+j<cs.length:=by rw [hl,hl0];omega
      have hl2:cs.length<4000000:=by rw [hl,hl0];omega
      obtain ⟨y0,y1⟩:=hb.rd (i:=(j:Int)) (Int.natCast_nonneg _) (by omega)
      obtain ⟨z0,z1⟩:=h.2.1.rd (i:=((i+j:Nat):Int)) (Int.natCast_nonneg _) (by omega)
      have hz:=h.2.2.2.2.1 (i+j) (Nat.le_refl _)
      obtain ⟨m0,m1⟩:=mul_bd x0 x1 y0 y1
      obtain ⟨_,_,q0,q1,q2,q3,q4⟩:=word_parts h.2.2.1 h.2.2.2.1 z0 z1 m0 m1
      refine Ev.step (fun k=>times_step k hj hi hl1 hl2 (by omega) rfl rfl rfl h.2.2.1 h.2.2.2.1 x0 x1 y0 y1 z0 z1) (ih (j+1) _ _ (by omega) (by omega) ?_)
      exact h.step hj (by rw [hl0];omega) x0 rfl y0 hz.symm z0 q0 q1 q2 q3 q4
    · have:j=b.length:=by omega
      subst this
      exact fin cs c h
theorem times_l0 {a b:List Int} (ha:D32 a) (hb:D32 b) (na:a.length<900000) (nb:b.length<90000) (na':a.length<90000):∀ (d i:Nat) (cs:List Int),a.length-i≤d→i≤a.length→MulInv32 a b i cs→Ev (fun k=>gimbalref90_NTimes.l0 k a b cs (i:Int)) (limbs (v32 a*v32 b)):=by
  have fin:∀ (cs:List Int),MulInv32 a b a.length cs→Ev (fun k=>gimbalref90_NTimes.l0 k a b cs (a.length:Int)) (limbs (v32 a*v32 b)):=by
    intro cs h
    obtain ⟨h1,h2⟩:=h.done
    have hl:=h.1
    refine Ev.shift ?_
    simp only [gimbalref90_NTimes.l0]
    refine ifF (by omega) ?_
    refine Ev.bind (cut_ev h1 (by omega)) ?_
    refine Ev.to (Ev.bind (whole_ev (digs_dig _) ?_) (Ev.pure fun _=>rfl)) ?_
    · have:=digs_len (v32_lt h1)
      omega
    · rw [v32_digs,h2]
  intro d
  induction d with
  | zero =>
    intro i cs h1 h2 h
    have:i=a.length:=by omega
    subst this
    exact fin cs h
  | succ d ih =>
    intro i cs h1 h2 h
    by_cases hi:i<a.length
    · refine Ev.shift ?_
      simp only [gimbalref90_NTimes.l0]
      refine ifT (by omega) ?_
      exact times_l1 ha hb na (by omega) hi h.1 (fun cs' cy hr=>ih (i+1) _ (by omega) (by omega) (h.step hi rfl hr)) b.length 0 cs 0 (by omega) (by omega) (RowInv32.start h _)
    · have:i=a.length:=by omega
      subst this
      exact fin cs h
theorem digs_half {n k:Nat} (h:(limbs n).length≤k):(digs n).length≤2*k:=by
  refine digs_len ?_
  rw [pow32]
  exact Nat.lt_of_lt_of_le (lt_limbs n) (Nat.pow_le_pow_right (by omega) h)
theorem times_ev {a b:Nat} (na:(limbs a).length<40000) (nb:(limbs b).length<40000):Ev (fun k=>gimbalref90_NTimes.f k (limbs a) (limbs b)) (limbs (a*b)):=by
  unfold gimbalref90_NTimes.f
  have l1:=digs_half (n:=a) (k:=40000) (by omega)
  have l2:=digs_half (n:=b) (k:=40000) (by omega)
  refine Ev.bind (halves_ev (limbs_dig a) (by omega)) ?_
  refine Ev.bind (halves_ev (limbs_dig b) (by omega)) ?_
  rw [val_limbs,val_limbs,w_add (by omega),Int.toNat_natCast]
  refine ifT (Int.natCast_nonneg _) (ifT (by omega) ?_)
  refine Ev.to (times_l0 (digs_dig a) (digs_dig b) (by omega) (by omega) (by omega) (digs a).length 0 _ (by omega) (by omega) (MulInv32.start _ _)) ?_
  rw [v32_digs,v32_digs]
theorem shl_nat {x:Int} {s:Nat} (hs:s≤64):shl .u64 x (s:Int)=IntKind.u64.wrap (x*2 ^ s):=by
  unfold shl
  rw [Int.toNat_natCast,show IntKind.bits .u64=64 from rfl,Nat.min_eq_left hs]
theorem shr_nat {x:Int} {s:Nat} (hs:s≤64):shr .u64 x (s:Int)=x/2 ^ s:=by
  unfold shr
  rw [Int.toNat_natCast,show IntKind.bits .u64=64 from rfl,Nat.min_eq_left hs]
theorem sub64 {s:Nat} (hs:s≤64):IntKind.u64.wrap (64-(s:Int))=((64-s:Nat):Int):=by rw [u64_id (by omega) (by omega)];omega
structure UInv (a:List Int) (q s i:Nat) (acc:List Int) (c:Int):Prop where
  len:acc.length=q+i
  dig:Dig acc
  c0:0≤c
  c1:c<2 ^ s
  eq:val acc+18446744073709551616 ^ (q+i)*c.toNat=18446744073709551616 ^ q*(val (a.take i)*2 ^ s)
theorem UInv.step {a acc:List Int} {q s i:Nat} {c v1 v2:Int} (h:UInv a q s i acc c) (hi:i<a.length) (hx0:0≤rd a (i:Int))
    (hv:0≤v1∧v1<18446744073709551616∧0≤v2∧v2<2 ^ s∧v2<18446744073709551616∧v1+18446744073709551616*v2=c+rd a (i:Int)*2 ^ s):UInv a q s (i+1) (acc++[v1]) v2:=by
  obtain ⟨h1,h2,h3,h4,h5⟩:=h
  obtain ⟨b1,b2,b3,b4,b5,b6⟩:=hv
  refine ⟨by simp [h1];omega,h2.append (fun z hz=>by rw [List.mem_singleton] at hz;subst hz;exact ⟨b1,b2⟩),b3,b4,?_⟩
  have e:v1.toNat+18446744073709551616*v2.toNat=c.toNat+(rd a (i:Int)).toNat*2 ^ s:=by
    have p:(((rd a (i:Int)).toNat*2 ^ s:Nat):Int)=rd a (i:Int)*2 ^ s:=by rw [Int.natCast_mul,Int.toNat_of_nonneg hx0];norm_cast
    omega
  rw [val_append,h1,val_take_succ hi]
  simp only [val]
  have t:=congrArg (18446744073709551616 ^ (q+i)*·) e
  simp only [Nat.mul_add] at t
  have q1:18446744073709551616 ^ (q+(i+1))*v2.toNat=18446744073709551616 ^ (q+i)*(18446744073709551616*v2.toNat):=by rw [← Nat.add_assoc,Nat.pow_succ,Nat.mul_assoc]
  have q2:18446744073709551616 ^ (q+i)*((rd a (i:Int)).toNat*2 ^ s)=18446744073709551616 ^ q*(18446744073709551616 ^ i*(rd a (i:Int)).toNat*2 ^ s):=by rw [Nat.pow_add];ac_rfl
  rw [Nat.add_mul,Nat.mul_add (18446744073709551616 ^ q),← q2,q1,Nat.mul_zero,Nat.add_zero]
  omega
theorem up_l0 {a:List Int} (ha:Dig a) (na:a.length<1000000) {q s:Nat} (hq:q<1000000) (hs:s<64):∀ (d i:Nat) (acc:List Int) (c:Int),a.length-i≤d→i≤a.length→UInv a q s i acc c→Ev (fun k=>gimbalref90_Up2.l0 k a acc (s:Int) c (i:Int)) (limbs (val a*2 ^ (64*q+s))):=by
  have hp:(2:Int) ^ s≤2 ^ 63:=by exact_mod_cast Nat.pow_le_pow_right (by omega) (show s≤63 by omega)
  have fin:∀ (acc:List Int) (c:Int),UInv a q s a.length acc c→Ev (fun k=>gimbalref90_Up2.l0 k a acc (s:Int) c (a.length:Int)) (limbs (val a*2 ^ (64*q+s))):=by
    intro acc c h
    have hl:=h.len
    have c0:=h.c0
    have c1:=h.c1
    refine Ev.shift ?_
    simp only [gimbalref90_Up2.l0]
    refine ifF (by omega) (ifT (by omega) ?_)
    refine Ev.to (Ev.bind (trim_ev (l:=acc++[c]) (h.dig.append (fun z hz=>by rw [List.mem_singleton] at hz;subst hz;omega)) (by simp;omega)) (Ev.pure fun _=>rfl)) ?_
    have e:=h.eq
    rw [List.take_length] at e
    rw [val_append,hl]
    simp only [val]
    rw [Nat.mul_zero,Nat.add_zero,e,Nat.pow_add,Nat.pow_mul]
    congr 1
    show 18446744073709551616 ^ q*(val a*2 ^ s)=val a*(18446744073709551616 ^ q*2 ^ s)
    ac_rfl
  intro d
  induction d with
  | zero =>
    intro i acc c h1 h2 h
    have:i=a.length:=by omega
    subst this
    exact fin acc c h
  | succ d ih =>
    intro i acc c h1 h2 h
    by_cases hi:i<a.length
    · have hl:=h.len
      obtain ⟨x0,x1⟩:=ha.rd (i:=(i:Int)) (Int.natCast_nonneg _) (by omega)
      have w:=w_suc (j:=i) (by omega)
      have lp:=left_parts hs x0 x1 h.c0 h.c1
      refine Ev.shift ?_
      simp only [gimbalref90_Up2.l0,w,shl_nat (Nat.le_of_lt hs),sub64 (Nat.le_of_lt hs),shr_nat (show 64-s≤64 by omega),Option.bind_some]
      refine ifT (by omega) (ifT (Int.natCast_nonneg _) (ifT (Int.natCast_nonneg _) (ifT (by omega) ?_)))
      rw [bits_comm_or]
      by_cases h0:0<s
      · refine ifT (by omega) (ifT (Int.natCast_nonneg _) ?_)
        exact ih (i+1) _ _ (by omega) (by omega) (h.step hi x0 lp)
      · have hs0:s=0:=by omega
        refine ifF (by omega) ?_
        refine ih (i+1) _ _ (by omega) (by omega) (h.step hi x0 ?_)
        have e:rd a (i:Int)/2 ^ (64-s)=0:=by
          subst hs0
          exact Int.ediv_eq_zero_of_lt x0 x1
        rw [e] at lp
        exact lp
    · have:i=a.length:=by omega
      subst this
      exact fin acc c h
theorem tdiv64 {n:Nat} (h:n<9000000000000000000):wrap64 (Int.tdiv (n:Int) 64)=((n/64:Nat):Int):=by
  rw [Int.tdiv_eq_ediv_of_nonneg (by omega),wrap64_id (by omega) (by omega)];omega
theorem tmod64 (n:Nat):IntKind.u64.wrap (Int.tmod (n:Int) 64)=((n%64:Nat):Int):=by
  rw [Int.tmod_eq_emod_of_nonneg (by omega),u64_id (by omega) (by omega)];omega
theorem up_ev {a n:Nat} (na:(limbs a).length<1000000) (hn:n<60000000):Ev (fun k=>gimbalref90_Up2.f k (limbs a) (n:Int)) (limbs (a*2 ^ n)):=by
  unfold gimbalref90_Up2.f
  by_cases h:a=0
  · subst h
    rw [limbs_zero,Nat.zero_mul,limbs_zero]
    exact ifT rfl (Ev.pure fun _=>rfl)
  · have hl:(limbs a).length≠0:=by
      intro he
      exact h (limbs_ne.1 (List.eq_nil_of_length_eq_zero he))
    rw [tdiv64 (by omega),tmod64,Int.toNat_natCast]
    refine ifF (by omega) (ifT (Int.natCast_nonneg _) (ifT (by omega) ?_))
    refine Ev.to (up_l0 (limbs_dig a) na (q:=n/64) (s:=n%64) (by omega) (by omega) (limbs a).length 0 _ 0 (by omega) (by omega) ⟨by simp,Dig.zeros _,by omega,Int.pow_pos (by decide),?_⟩) ?_
    · rw [val_zeros];simp [val]
    · rw [val_limbs,show 64*(n/64)+n%64=n by omega]
structure DInv (a:List Int) (q s i:Nat) (acc:List Int):Prop where
  len:acc.length+q=i
  dig:Dig acc
  eq:val acc+18446744073709551616 ^ (i-q)*(val (a.drop i)/2 ^ s)=val (a.drop q)/2 ^ s
theorem DInv.step {a acc:List Int} {q s i:Nat} {v:Int} (h:DInv a q s i acc) (hi:i<a.length) (hs:s<64) (x0:0≤rd a (i:Int)) (x1:rd a (i:Int)<18446744073709551616) (hv:v=(rdig s (rd a (i:Int)).toNat (val (a.drop (i+1))):Nat)):DInv a q s (i+1) (acc++[v]):=by
  obtain ⟨h1,h2,h3⟩:=h
  obtain ⟨d1,d2⟩:=down_val (s:=s) (x:=(rd a (i:Int)).toNat) (R:=val (a.drop (i+1))) hs (by omega)
  refine ⟨by simp;omega,h2.append (fun z hz=>by rw [List.mem_singleton] at hz;subst hz;omega),?_⟩
  rw [drop_val hi,d1] at h3
  rw [val_append,← h3,show i+1-q=(i-q)+1 by omega,Nat.pow_succ,show acc.length=i-q by omega,hv]
  simp only [val]
  rw [Int.toNat_natCast,Nat.mul_zero,Nat.add_zero,Nat.mul_add,Nat.mul_assoc,Nat.add_assoc]
theorem down_l0 {a:List Int} (ha:Dig a) (na:a.length<1000000) {q s:Nat} (hs:s<64):∀ (d i:Nat) (acc:List Int),a.length-i≤d→i≤a.length→DInv a q s i acc→Ev (fun k=>gimbalref90_Down2.l0 k a (s:Int) acc (i:Int)) (limbs (val (a.drop q)/2 ^ s)):=by
  have fin:∀ (acc:List Int),DInv a q s a.length acc→Ev (fun k=>gimbalref90_Down2.l0 k a (s:Int) acc (a.length:Int)) (limbs (val (a.drop q)/2 ^ s)):=by
    intro acc h
    have hl:=h.len
    refine Ev.shift ?_
    simp only [gimbalref90_Down2.l0]
    refine ifF (by omega) ?_
    refine Ev.to (Ev.bind (trim_ev h.dig (by omega)) (Ev.pure fun _=>rfl)) ?_
    have e:=h.eq
    rw [List.drop_of_length_le (Nat.le_refl _)] at e
    rw [← e]
    simp [val]
  intro d
  induction d with
  | zero =>
    intro i acc h1 h2 h
    have:i=a.length:=by omega
    subst this
    exact fin acc h
  | succ d ih =>
    intro i acc h1 h2 h
    by_cases hi:i<a.length
    · have hl:=h.len
      obtain ⟨x0,x1⟩:=ha.rd (i:=(i:Int)) (Int.natCast_nonneg _) (by omega)
      have w:=w_suc (j:=i) (by omega)
      have next:∀ v:Int,v=(rdig s (rd a (i:Int)).toNat (val (a.drop (i+1))):Nat)→Ev (fun k=>gimbalref90_Down2.l0 k a (s:Int) (acc++[v]) ((i+1:Nat):Int)) (limbs (val (a.drop q)/2 ^ s)):=fun v hv=>ih (i+1) _ (by omega) (by omega) (h.step hi hs x0 x1 hv)
      refine Ev.shift ?_
      simp only [gimbalref90_Down2.l0,w,shr_nat (Nat.le_of_lt hs),sub64 (Nat.le_of_lt hs),shl_nat (show 64-s≤64 by omega)]
      refine ifT (by omega) (ifT (Int.natCast_nonneg _) (ifT (Int.natCast_nonneg _) ?_))
      by_cases h0:0<s
      · refine ifT (by omega) ?_
        by_cases hi1:i+1<a.length
        · obtain ⟨y0,y1⟩:=ha.rd (i:=((i+1:Nat):Int)) (Int.natCast_nonneg _) (by omega)
          refine ifT (by omega) (ifT (Int.natCast_nonneg _) (ifT (Int.natCast_nonneg _) (ifT (by omega) ?_)))
          refine next _ ?_
          rw [drop_val hi1]
          exact digit_of hs x0 x1 y0
        · refine ifF (by omega) (ifT (by omega) ?_)
          refine next _ ?_
          rw [List.drop_of_length_le (by omega),show val []=0 from rfl,digit_last,Int.toNat_of_nonneg x0]
      · have hs0:s=0:=by omega
        refine ifF (by omega) (ifT (by omega) ?_)
        refine next _ ?_
        subst hs0
        unfold rdig
        simp only [Nat.pow_zero,Nat.div_one,Nat.mod_one,Nat.mul_zero,Nat.add_zero,Int.pow_zero,Int.ediv_one]
        rw [Int.toNat_of_nonneg x0]
    · have:i=a.length:=by omega
      subst this
      exact fin acc h
theorem val_drop_div {l:List Int} (h:Dig l) {k:Nat} (hk:k≤l.length):val l/18446744073709551616 ^ k=val (l.drop k):=by
  have h1:=val_append (l.take k) (l.drop k)
  rw [List.take_append_drop,List.length_take,Nat.min_eq_left hk] at h1
  have h2:=val_lt (h.take k)
  rw [List.length_take,Nat.min_eq_left hk] at h2
  rw [h1,Nat.add_mul_div_left _ _ (Nat.pow_pos (by omega)),Nat.div_eq_of_lt h2,Nat.zero_add]
theorem len_bits {n:Nat}:(limbs n).length*64≤bitsN n+63∧bitsN n≤64*(limbs n).length:=by
  by_cases h:n=0
  · subst h;rw [limbs_zero,bits_zero];simp
  · obtain ⟨h1,h2⟩:=bits_limbs h
    have h3:bitsN n≤64*(limbs n).length:=bits_le (by rw [Nat.pow_mul];exact lt_limbs n)
    have hc:=limbs_canon n
    have hne:limbs n≠[]:=fun e=>h (limbs_ne.1 e)
    have hlast:=hc.2 hne
    rw [List.getLast_eq_getElem] at hlast
    have hr:rd (limbs n) (((limbs n).length:Int)-1)≠0:=by
      rw [show (((limbs n).length:Int)-1)=(((limbs n).length-1:Nat):Int) by omega,rd_nat (by omega)]
      exact hlast
    obtain ⟨g0,g1⟩:=(limbs_dig n).rd (i:=((limbs n).length:Int)-1) (by omega) (by omega)
    have h4:0<bitsN (rd (limbs n) (((limbs n).length:Int)-1)).toNat:=by
      rw [bits_pos (by omega)];omega
    omega
theorem down_ev {a n:Nat} (na:(limbs a).length<1000000) (hn:n<100000000):Ev (fun k=>gimbalref90_Down2.f k (limbs a) (n:Int)) (limbs (a/2 ^ n)):=by
  unfold gimbalref90_Down2.f
  refine Ev.bind (nlen_ev na) ?_
  by_cases h:bitsN a≤n
  · refine ifT (by omega) (Ev.pure fun _=>?_)
    rw [Nat.div_eq_of_lt (Nat.lt_of_lt_of_le (bits_lt a) (Nat.pow_le_pow_right (by omega) h)),limbs_zero]
  · refine ifF (by omega) ?_
    rw [tdiv64 (by omega),tmod64]
    have hb:=(len_bits (n:=a)).2
    have hq:n/64≤(limbs a).length:=by omega
    refine Ev.to (down_l0 (limbs_dig a) na (q:=n/64) (s:=n%64) (by omega) (limbs a).length (n/64) [] (by omega) hq ⟨by simp,fun x hx=>by simp at hx,?_⟩) ?_
    · simp [val]
    · rw [← val_drop_div (limbs_dig a) hq,val_limbs,show (18446744073709551616:Nat)=2 ^ 64 from rfl,← Nat.pow_mul,Nat.div_div_eq_div_mul,← Nat.pow_add,show 64*(n/64)+n%64=n by omega]
end Go.Proofs.YtmnkaldemjdcoaaGreat.R90
end
section
set_option linter.unusedVariables false
set_option linter.unusedSimpArgs false
namespace Go.Proofs.YtmnkaldemjdcoaaGreat.R90
open Go RowKit YtmnkaldemjdcoaaGreat.QN90 YtmnkaldemjdcoaaGreatW.PrintWords YtmnkaldemjdcoaaGreatW.PrintMore YtmnkaldemjdcoaaGreatW.PrintLast YtmnkaldemjdcoaaGreatW.Aid YtmnkaldemjdcoaaGreatW.Big YtmnkaldemjdcoaaGreatW.Dig32 YtmnkaldemjdcoaaGreat.Limbs
theorem val_set {l:List Int} {i:Nat} (v:Int) (h:i<l.length):val (l.set i v)+18446744073709551616 ^ i*(rd l (i:Int)).toNat=val l+18446744073709551616 ^ i*v.toNat:=by
  have h1:=val_split (l:=l.set i v) (i:=i) (by simpa using h)
  have h2:=val_split h
  have e1:(l.set i v).take i=l.take i:=by rw [List.take_set_of_le (Nat.le_refl _)]
  have e2:(l.set i v).drop (i+1)=l.drop (i+1):=by rw [List.drop_set_of_lt (by omega)]
  rw [rd_set_eq v h,e1,e2] at h1
  rw [h1,h2,Nat.mul_add,Nat.mul_add]
  omega
theorem pow64 (j m:Nat):(2:Nat) ^ (64*j+m)=18446744073709551616 ^ j*2 ^ m:=by rw [Nat.pow_add,Nat.pow_mul]
theorem bit_set {q:List Int} (hd:Dig q) {i:Nat} (hi:i/64<q.length) (hdvd:2 ^ (i+1)∣val q) :
    (0≤Go.bits .or .u64 (rd q ((i/64:Nat):Int)) (shl .u64 1 ((i%64:Nat):Int))∧Go.bits .or .u64 (rd q ((i/64:Nat):Int)) (shl .u64 1 ((i%64:Nat):Int))<18446744073709551616) ∧
      val (q.set (i/64) (Go.bits .or .u64 (rd q ((i/64:Nat):Int)) (shl .u64 1 ((i%64:Nat):Int))))=val q+2 ^ i:=by
  have hsp:=val_split hi
  have hlt:=val_lt (hd.take (i/64))
  rw [List.length_take,Nat.min_eq_left (Nat.le_of_lt hi)] at hlt
  obtain ⟨x0,x1⟩:=hd.rd (i:=((i/64:Nat):Int)) (Int.natCast_nonneg _) (by omega)
  have hvs:=fun v=>val_set (l:=q) (i:=i/64) v hi
  have hpi:(2:Nat) ^ i=18446744073709551616 ^ (i/64)*2 ^ (i%64):=by rw [← pow64];congr 1;omega
  have hpi1:(2:Nat) ^ (i+1)=18446744073709551616 ^ (i/64)*2 ^ (i%64+1):=by rw [← pow64];congr 1;omega
  have hm:i%64<64:=by omega
  generalize i/64=j at *
  generalize i%64=m at *
  have hB:0<18446744073709551616 ^ j:=Nat.pow_pos (by omega)
  rw [hpi1,hsp] at hdvd
  have h0:val (q.take j)=0:=by
    have h1:18446744073709551616 ^ j∣val (q.take j)+18446744073709551616 ^ j*((rd q (j:Int)).toNat+18446744073709551616*val (q.drop (j+1))):=Nat.dvd_trans (Nat.dvd_mul_right _ _) hdvd
    rw [Nat.dvd_add_left (Nat.dvd_mul_right _ _)] at h1
    exact Nat.eq_zero_of_dvd_of_lt h1 hlt
  rw [h0,Nat.zero_add] at hdvd
  have h2:=Nat.dvd_of_mul_dvd_mul_left hB hdvd
  have h3:(2:Nat) ^ (m+1)∣18446744073709551616*val (q.drop (j+1)):=Nat.dvd_trans (show (2:Nat) ^ (m+1)∣2 ^ 64 from Nat.pow_dvd_pow 2 (by omega)) (Nat.dvd_mul_right _ _)
  rw [Nat.dvd_add_left h3] at h2
  obtain ⟨u,hu⟩:=h2
  have hx:rd q (j:Int)=(u:Int)*2 ^ (m+1):=by
    rw [← Int.toNat_of_nonneg x0,hu,Int.natCast_mul,Int.mul_comm];norm_cast
  have hP:(1:Int)≤2 ^ m:=by exact_mod_cast Nat.one_le_two_pow
  have hP2:(2:Int) ^ m≤2 ^ 63:=by exact_mod_cast Nat.pow_le_pow_right (by omega) (show m≤63 by omega)
  have hsh:shl .u64 1 (m:Int)=2 ^ m:=by
    rw [shl_nat (Nat.le_of_lt hm),Int.one_mul,u64_id (by omega) (by omega)]
  have hor:Go.bits .or .u64 (rd q (j:Int)) (2 ^ m)=rd q (j:Int)+2 ^ m:=by
    by_cases h63:m=63
    · subst h63
      have:rd q (j:Int)=0:=by
        have:(2:Int) ^ (63+1)=18446744073709551616:=rfl
        rw [this] at hx
        omega
      rw [this,bits_comm_or]
      have:=Go.Proofs.YtmnkaldemjdcoaaGreat.Long.or_shift 63 (by omega) (a:=1) (b:=0) (by omega) (by decide) (by omega) (by decide)
      rw [Int.one_mul] at this
      rw [this];omega
    · have:=Go.Proofs.YtmnkaldemjdcoaaGreat.Long.or_shift (m+1) (by omega) (a:=(u:Int)) (b:=2 ^ m) (by omega) (by rw [← hx];exact x1) (by omega) (by rw [Int.pow_succ];omega)
      rw [hx,this]
  have hsum:rd q (j:Int)+2 ^ m<18446744073709551616:=by
    by_cases h63:m=63
    · subst h63
      have:(2:Int) ^ (63+1)=18446744073709551616:=rfl
      rw [this] at hx
      have:(2:Int) ^ 63=9223372036854775808:=rfl
      omega
    · have hk:(2:Nat) ^ 64=2 ^ (m+1)*2 ^ (63-m):=by rw [← Nat.pow_add];congr 1;omega
      have hlt2:2 ^ (m+1)*u<2 ^ (m+1)*2 ^ (63-m):=by rw [← hk,← hu];show _<18446744073709551616;omega
      have hu2:u<2 ^ (63-m):=Nat.lt_of_mul_lt_mul_left hlt2
      have h5:2 ^ (m+1)*(u+1)≤2 ^ (m+1)*2 ^ (63-m):=Nat.mul_le_mul_left _ hu2
      rw [← hk,Nat.mul_add,← hu,Nat.mul_one,Nat.pow_succ] at h5
      have h6:((2 ^ m:Nat):Int)=2 ^ m:=by norm_cast
      have:(2:Nat) ^ 64=18446744073709551616:=rfl
      omega
  rw [hsh,hor]
  refine ⟨⟨by omega,hsum⟩,?_⟩
  have h7:=hvs (rd q (j:Int)+2 ^ m)
  have h8:(rd q (j:Int)+2 ^ m).toNat=(rd q (j:Int)).toNat+2 ^ m:=by
    have h6:((2 ^ m:Nat):Int)=2 ^ m:=by norm_cast
    omega
  rw [h8,Nat.mul_add,← hpi] at h7
  omega
structure QInv (a b n m:Nat) (q:List Int) (r D:Nat):Prop where
  len:q.length=n/64+1
  dig:Dig q
  eq:val q*b+r=a
  lt:r<b*2 ^ m
  dvd:2 ^ m∣val q
  d:0<m→D=b*2 ^ (m-1)
theorem len_mono {m n:Nat} (h:m≤n):(limbs m).length≤(limbs n).length:=limbs_len (Nat.lt_of_le_of_lt h (lt_limbs _))
theorem divide_l0 {a b n:Nat} (hb:0<b) (na:(limbs a).length<400000) (hn:n<90000000) (hD:∀ i,i≤n→(limbs (b*2 ^ i)).length<400000):∀ (m:Nat) (q:List Int) (r D:Nat),m≤n+1→QInv a b n m q r D→Ev (fun k=>gimbalref90_NDivide.l0 k q (limbs r) (limbs D) ((m:Int)-1)) (limbs (a/b),limbs (a%b)):=by
  intro m
  induction m with
  | zero =>
    intro q r D _ h
    refine Ev.shift ?_
    simp only [gimbalref90_NDivide.l0]
    refine ifF (by omega) ?_
    have hl:=h.len
    refine Ev.to (Ev.bind (trim_ev h.dig (by omega)) (Ev.pure fun _=>rfl)) ?_
    have h1:=h.lt
    rw [Nat.pow_zero,Nat.mul_one] at h1
    have e1:a/b=val q:=by rw [← h.eq,Nat.mul_comm,Nat.mul_add_div hb,Nat.div_eq_of_lt h1,Nat.add_zero]
    have e2:a%b=r:=by rw [← h.eq,Nat.mul_comm,Nat.mul_add_mod,Nat.mod_eq_of_lt h1]
    rw [e1,e2]
  | succ i ih =>
    intro q r D hm h
    have e0:(((i+1:Nat):Int)-1)=(i:Int):=by omega
    have w:wrap64 ((i:Int)-1)=(i:Int)-1:=wrap64_id (by omega) (by omega)
    have hDe:D=b*2 ^ i:=h.d (by omega)
    have hDl:=hD i (by omega)
    rw [← hDe] at hDl
    have hrl:(limbs r).length<400000:=Nat.lt_of_le_of_lt (len_mono (by have:=h.eq;omega)) na
    have hl:=h.len
    have down:Ev (fun k=>gimbalref90_Down2.f k (limbs D) 1) (limbs (D/2)):=by
      have:=down_ev (a:=D) (n:=1) (by omega) (by omega)
      rwa [Nat.pow_one] at this
    have hd2:0<i→D/2=b*2 ^ (i-1):=by
      intro h0
      rw [hDe,show i=(i-1)+1 by omega,Nat.pow_succ,← Nat.mul_assoc,Nat.mul_div_cancel _ (by omega)]
      congr 2
    refine Ev.shift ?_
    simp only [gimbalref90_NDivide.l0,e0,w,tdiv64 (show i<9000000000000000000 by omega),tmod64,Int.toNat_natCast]
    refine ifT (by omega) ?_
    refine Ev.bind (cmp_ev (by omega) (by omega)) ?_
    by_cases hc:D≤r
    · refine ifT (by unfold cmpN;split<;>(try split)<;>omega) ?_
      refine Ev.bind (less_ev (by omega) hc) ?_
      refine ifT (Int.natCast_nonneg _) (ifT (by omega) (ifT (Int.natCast_nonneg _) ?_))
      refine Ev.bind down ?_
      obtain ⟨⟨b0,b1⟩,b2⟩:=bit_set h.dig (i:=i) (by omega) h.dvd
      refine ih _ _ _ (by omega) ⟨by simpa using hl,h.dig.set _ b0 b1,?_,?_,?_,hd2⟩
      · rw [b2,Nat.add_mul,Nat.mul_comm (2 ^ i) b,← hDe]
        have:=h.eq
        omega
      · have:=h.lt
        rw [Nat.pow_succ,← Nat.mul_assoc,← hDe] at this
        rw [← hDe];omega
      · rw [b2]
        exact Nat.dvd_add (Nat.dvd_trans (Nat.pow_dvd_pow 2 (by omega)) h.dvd) (Nat.dvd_refl _)
    · refine ifF (by unfold cmpN;rw [if_pos (by omega)];omega) ?_
      refine Ev.bind down ?_
      exact ih _ _ _ (by omega) ⟨hl,h.dig,h.eq,by rw [← hDe];omega,Nat.dvd_trans (Nat.pow_dvd_pow 2 (by omega)) h.dvd,hd2⟩
theorem bits_mono {m n:Nat} (h:m≤n):bitsN m≤bitsN n:=bits_le (Nat.lt_of_le_of_lt h (bits_lt n))
theorem bits_ge {n:Nat} (h:n≠0):2 ^ (bitsN n-1)≤n:=by
  by_cases hc:2 ^ (bitsN n-1)≤n
  · exact hc
  · have:=bits_le (n:=n) (k:=bitsN n-1) (by omega)
    have h2:0<bitsN n:=by rw [bits_pos h];omega
    omega
theorem bits_mul (b i:Nat):bitsN (b*2 ^ i)≤bitsN b+i:=bits_le (by rw [Nat.pow_add];exact Nat.mul_lt_mul_of_pos_right (bits_lt b) (Nat.two_pow_pos i))
theorem digs_one {b:Nat} (hb:0<b):(digs b).length=1↔b<4294967296:=by
  constructor
  · intro h
    have:=lt_digs b
    rw [h] at this
    simpa using this
  · intro h
    have h1:=digs_len (n:=b) (k:=1) (by simpa using h)
    have h2:(digs b).length≠0:=fun e=>by
      have:=digs_ne.1 (List.eq_nil_of_length_eq_zero e)
      omega
    omega
theorem digs_word {b:Nat} (hb:0<b) (h:b<4294967296):digs b=[(b:Int)]:=by
  rw [digs_pos (by omega),Nat.div_eq_of_lt h,digs_zero,Nat.mod_eq_of_lt h]
theorem divide_ev {a b:Nat} (hb:0<b) (na:(limbs a).length<40000) (nb:(limbs b).length<40000):Ev (fun k=>gimbalref90_NDivide.f k (limbs a) (limbs b)) (limbs (a/b),limbs (a%b)):=by
  unfold gimbalref90_NDivide.f
  refine Ev.bind (halves_ev (limbs_dig b) (by omega)) ?_
  rw [val_limbs]
  by_cases h1:b<4294967296
  · have hl:=(digs_one hb).2 h1
    refine ifT (by omega) ?_
    refine Ev.bind (halves_ev (limbs_dig a) (by omega)) ?_
    rw [val_limbs]
    refine ifT (by omega) ?_
    rw [digs_word hb h1]
    have e:rd [(b:Int)] 0=(b:Int):=rfl
    rw [e]
    have ld:=digs_half (n:=a) (k:=40000) (by omega)
    refine Ev.bind (short_ev (digs_dig a) (by omega) (by omega) (by omega)) ?_
    rw [v32_digs,Int.toNat_natCast]
    have hmod:=Nat.mod_lt a hb
    have lq:=digs_half (n:=a/b) (k:=40000) (Nat.le_of_lt (Nat.lt_of_le_of_lt (len_mono (Nat.div_le_self a b)) (by omega)))
    have lq':(digs (a/b)).length<1000000:=by omega
    refine Ev.bind (whole_ev (digs_dig _) lq') ?_
    rw [v32_digs]
    simp only
    rw [u64_id (by omega) (by omega)]
    refine Ev.to (Ev.bind (of_ev (x:=((a%b:Nat):Int)) (by omega) (by omega)) (Ev.pure fun _=>rfl)) ?_
    rw [Int.toNat_natCast]
  · have hl:(digs b).length≠1:=fun e=>h1 ((digs_one hb).1 e)
    refine ifF (by omega) ?_
    refine Ev.bind (nlen_ev (by omega)) ?_
    refine Ev.bind (nlen_ev (by omega)) ?_
    obtain ⟨la1,la2⟩:=len_bits (n:=a)
    obtain ⟨lb1,lb2⟩:=len_bits (n:=b)
    have w0:wrap64 ((bitsN a:Int)-(bitsN b:Int))=(bitsN a:Int)-(bitsN b:Int):=wrap64_id (by omega) (by omega)
    rw [w0]
    by_cases hn:bitsN a<bitsN b
    · refine ifT (by omega) (Ev.pure fun _=>?_)
      have hlt:a<b:=by
        by_cases hc:a<b
        · exact hc
        · have:=bits_mono (m:=b) (n:=a) (by omega);omega
      rw [Nat.div_eq_of_lt hlt,Nat.mod_eq_of_lt hlt,limbs_zero]
    · refine ifF (by omega) ?_
      obtain ⟨n,hne⟩:∃ n,bitsN a=bitsN b+n:=⟨bitsN a-bitsN b,by omega⟩
      have e1:(bitsN a:Int)-(bitsN b:Int)=(n:Int):=by omega
      rw [e1,tdiv64 (by omega),w_suc (by omega),Int.toNat_natCast]
      refine ifT (Int.natCast_nonneg _) (ifT (by omega) ?_)
      refine Ev.bind (up_ev (by omega) (by omega)) ?_
      have hstart:(n:Int)=(((n+1:Nat):Int)-1):=by omega
      rw [hstart]
      refine divide_l0 hb (by omega) (by omega) (fun i hi=>?_) (n+1) _ a _ (Nat.le_refl _) ⟨by simp,Dig.zeros _,by rw [val_zeros];simp,?_,by rw [val_zeros];exact Nat.dvd_zero _,fun _=>rfl⟩
      · have h5:=bits_mul b i
        have h6:=(len_bits (n:=b*2 ^ i)).1
        omega
      · have h7:=bits_lt a
        have h8:=bits_ge (n:=b) (by omega)
        have h9:2 ^ bitsN a=2 ^ (bitsN b-1)*2 ^ (n+1):=by
          rw [← Nat.pow_add];congr 1
          have:0<bitsN b:=by rw [bits_pos (by omega)];omega
          omega
        exact Nat.lt_of_lt_of_le (by rw [← h9];exact h7) (Nat.mul_le_mul_right _ h8)
theorem gcd_ev:∀ (b a:Nat),(limbs a).length<40000→(limbs b).length<40000→Ev (fun k=>gimbalref90_NGcd.f k (limbs a) (limbs b)) (limbs (Nat.gcd a b)):=by
  intro b
  induction b using Nat.strongRecOn with
  | _ b ih =>
    intro a na nb
    show Ev (fun k=>gimbalref90_NGcd.l0 k (limbs a) (limbs b)) _
    refine Ev.shift ?_
    simp only [gimbalref90_NGcd.l0]
    by_cases h:b=0
    · subst h
      rw [limbs_zero,Nat.gcd_zero_right]
      exact ifF (by simp) (Ev.pure fun _=>rfl)
    · have hl:(limbs b).length≠0:=fun e=>h (limbs_ne.1 (List.eq_nil_of_length_eq_zero e))
      refine ifT (by omega) ?_
      refine Ev.bind (divide_ev (by omega) na nb) ?_
      have hm:=Nat.mod_lt a (show 0<b by omega)
      have:=ih (a%b) hm b nb (Nat.lt_of_le_of_lt (len_mono (Nat.le_of_lt hm)) nb)
      rw [Nat.gcd_comm a b,Nat.gcd_rec,Nat.gcd_comm]
      exact this
end Go.Proofs.YtmnkaldemjdcoaaGreat.R90
end
section
set_option linter.unusedVariables false
namespace Go.Proofs.YtmnkaldemjdcoaaGreat.Limbs
open RowKit YtmnkaldemjdcoaaGreatW.PrintWords YtmnkaldemjdcoaaGreatW.PrintLast YtmnkaldemjdcoaaGreatW.PrintMore YtmnkaldemjdcoaaGreatW.Aid YtmnkaldemjdcoaaGreatW.Big YtmnkaldemjdcoaaGreat.BitsWalk
def MulInv (a b:List Int) (i:Nat) (cs:List Int):Prop :=
  cs.length=a.length+b.length∧Dig cs∧(∀ j:Nat,i+b.length≤j→rd cs j=0)∧val (cs.take (i+b.length))=val (a.take i)*val b
def RowInv (b cs0:List Int) (i:Nat) (x:Int) (k:Nat) (cy:Int) (cs:List Int):Prop :=
  cs.length=cs0.length∧Dig cs∧0≤cy∧cy<18446744073709551616∧(∀ j:Nat,i+k≤j→rd cs j=rd cs0 j) ∧
    val (cs.take (i+k))+18446744073709551616 ^ (i+k)*cy.toNat=val (cs0.take (i+k))+18446744073709551616 ^ i*(x.toNat*val (b.take k))
theorem MulInv.start (a b:List Int):MulInv a b 0 (List.replicate (a.length+b.length) 0):=by
  refine ⟨by simp,Dig.zeros _,fun j _=>rd_zeros,?_⟩
  rw [List.take_replicate,val_zeros]
  simp [val]
theorem RowInv.start {a b cs:List Int} {i:Nat} (h:MulInv a b i cs) (x:Int):RowInv b cs i x 0 0 cs:=by
  refine ⟨rfl,h.2.1,by omega,by omega,fun _ _=>rfl,?_⟩
  simp [val]
theorem row_limb {x y z cy:Int} (hx0:0≤x) (hx1:x<18446744073709551616) (hy0:0≤y) (hy1:y<18446744073709551616) (hz0:0≤z) (hz1:z<18446744073709551616) (hc0:0≤cy) (hc1:cy<18446744073709551616) :
    ∃ hi lo s1 o1 s2 o2:Int,x*y/18446744073709551616=hi∧x*y%18446744073709551616=lo∧0≤lo∧(lo+cy+0)%18446744073709551616=s1∧(lo+cy+0)/18446744073709551616=o1∧0≤s1∧(z+s1+0)%18446744073709551616=s2∧(z+s1+0)/18446744073709551616=o2 ∧
      IntKind.u64.wrap (hi+o1)=hi+o1∧IntKind.u64.wrap (hi+o1+o2)=hi+o1+o2∧0≤s2∧s2<18446744073709551616∧0≤hi+o1+o2∧hi+o1+o2<18446744073709551616∧s2+18446744073709551616*(hi+o1+o2)=z+x*y+cy:=by
  have h1:x*y≤18446744073709551615*18446744073709551615:=Int.mul_le_mul (by omega) (by omega) hy0 (by omega)
  have h0:0≤x*y:=Int.mul_nonneg hx0 hy0
  refine ⟨_,_,_,_,_,_,rfl,rfl,?_,rfl,rfl,?_,rfl,rfl,?_,?_,?_,?_,?_,?_,?_⟩<;>(generalize x*y=p at *)<;>(try rw [u64_wrap])<;>omega
theorem RowInv.step {b cs0 cs:List Int} {i k:Nat} {x cy y z s cy':Int} (h:RowInv b cs0 i x k cy cs) (hk:k<b.length) (hl:i+k<cs0.length) (hx0:0≤x) (hy:rd b k=y) (hy0:0≤y) (hz:rd cs0 ((i+k:Nat):Int)=z) (hz0:0≤z) (hs0:0≤s) (hs1:s<18446744073709551616) (hc0:0≤cy') (hc1:cy'<18446744073709551616)
    (e:s+18446744073709551616*cy'=z+x*y+cy):RowInv b cs0 i x (k+1) cy' (cs.set (i+k) s):=by
  obtain ⟨h1,h2,h3,h4,h5,h6⟩:=h
  refine ⟨by simpa using h1,h2.set _ hs0 hs1,hc0,hc1,fun j hj=>?_,?_⟩
  · rw [rd_set_ne _ (by omega)];exact h5 j (by omega)
  · rw [show i+(k+1)=i+k+1 by omega,val_set_take (by omega),val_take_succ hk,val_take_succ hl,hy,hz]
    have e':s.toNat+18446744073709551616*cy'.toNat=z.toNat+x.toNat*y.toNat+cy.toNat:=by
      have hp:((x.toNat*y.toNat:Nat):Int)=x*y:=by rw [Int.natCast_mul,Int.toNat_of_nonneg hx0,Int.toNat_of_nonneg hy0]
      omega
    have t:=congrArg (18446744073709551616 ^ (i+k)*·) e'
    simp only [Nat.mul_add] at t
    have q1:18446744073709551616 ^ (i+k+1)*cy'.toNat=18446744073709551616 ^ (i+k)*(18446744073709551616*cy'.toNat):=by rw [Nat.pow_succ,Nat.mul_assoc]
    have q2:18446744073709551616 ^ i*(x.toNat*(18446744073709551616 ^ k*y.toNat))=18446744073709551616 ^ (i+k)*(x.toNat*y.toNat):=by
      rw [Nat.pow_add];ac_rfl
    rw [Nat.mul_add x.toNat,Nat.mul_add,q1,q2]
    omega
theorem MulInv.step {a b cs0 cs:List Int} {i:Nat} {x cy:Int} (h:MulInv a b i cs0) (hi:i<a.length) (hx:rd a i=x) (hr:RowInv b cs0 i x b.length cy cs):MulInv a b (i+1) (cs.set (i+b.length) cy):=by
  obtain ⟨h1,h2,h3,h4⟩:=h
  obtain ⟨r1,r2,r3,r4,r5,r6⟩:=hr
  refine ⟨by rw [List.length_set];omega,r2.set _ r3 r4,fun j hj=>?_,?_⟩
  · rw [rd_set_ne _ (by omega),r5 j (by omega)];exact h3 j (by omega)
  · rw [show i+1+b.length=i+b.length+1 by omega,val_set_take (by omega),r6,h4,val_take_succ hi,hx,List.take_length,Nat.add_mul]
    ac_rfl
theorem MulInv.done {a b cs:List Int} (h:MulInv a b a.length cs):Dig cs∧val cs=val a*val b:=by
  obtain ⟨h1,h2,h3,h4⟩:=h
  rw [List.take_of_length_le (by omega),List.take_length] at h4
  exact ⟨h2,h4⟩
section
set_option maxRecDepth 100000
set_option maxHeartbeats 1000000
theorem schoolbook_calls (a b:List Int) (A A':Option Addr) (c c':Nat) (w:World) (hda:Dig a) (hdb:Dig b) (hr:Rd w a A c) (hr':Rd w b A' c') (hla:a.length≤1000) (hlb:b.length≤1000) :
    Calls Tryz.prog 129 #[.slice A a.length c,.slice A' b.length c'] w (RetRd (limbs (val a*val b)) w):=by
  have HR:=Aside0.mk hr
  have HR':=Aside0.mk hr'
  have DA:=Aside0.mk hda
  have DB:=Aside0.mk hdb
  have hmk:=fun w=>mk_run (a.length+b.length) (by omega) ((a.length:Int)+(b.length:Int)) (by omega) w
  clear hr hr' hda hdb
  go_enter Tryz.func129,Tryz.ntmps129
  go_wp2_with fail
  go_loopw [23] (fun v23 wr=>∃ (i:Nat) (cs:List Int),i≤a.length∧v23 = .int .i64 i∧Aside0 (MulInv a b i cs)∧Aside0 (Blk wr w.heap.size cs)∧Aside0 (Below w.heap.size w wr)) (fun v23 _=>a.length-(intOf v23).toNat)
  case atStart=>exact ⟨0,_,by omega,rfl,⟨MulInv.start a b⟩,⟨Blk.new w _⟩,⟨below_alloc (Below.refl _ _) _⟩⟩
  case round =>
    obtain ⟨i,cs0,hi,rfl,hI,hblk0,hB0⟩:=hrel
    have hcl0:=hI.out.1
    clear hmk
    by_cases hil:i<a.length
    · obtain ⟨ad,rfl,hcell⟩:=Kd.at_int (HR.out.below hB0.out).2 (i:Int) (by omega) (by omega)
      simp only [Int.toNat_natCast] at hcell
      have hx:=Aside0.mk (DA.out.rd (i:=(i:Int)) (by omega) (by omega))
      generalize hxx:rd a i=x at *
      have hxx:=Aside0.mk hxx
      have hrl:i+b.length+1-i=b.length+1:=by omega
      go_wp2_with fail
      simp only [hrl]
      go_loopw [9,43] (fun v9 v43 wr2=>∃ (k:Nat) (cy:Int) (cs:List Int),k≤b.length∧v43 = .int .i64 k∧v9 = .int .u64 cy∧Aside0 (RowInv b cs0 i x k cy cs)∧Aside0 (Blk wr2 w.heap.size cs)∧Aside0 (Below w.heap.size w wr2)) (fun _ v43 _=>b.length-(intOf v43).toNat)
      case atStart=>exact ⟨0,0,cs0,by omega,rfl,rfl,⟨RowInv.start hI.out x⟩,hblk0,hB0⟩
      case round =>
        obtain ⟨k,cy,cs,hk,rfl,rfl,hJ,hblk,hB⟩:=hrel
        have hcl:=hJ.out.1
        by_cases hkl:k<b.length
        · obtain ⟨ad',rfl,hcell'⟩:=Kd.at_int (HR'.out.below hB.out).2 (k:Int) (by omega) (by omega)
          simp only [Int.toNat_natCast] at hcell'
          have hy:=Aside0.mk (DB.out.rd (i:=(k:Int)) (by omega) (by omega))
          have hzz:Aside0 (rd cs ((i+k:Nat):Int)=rd cs0 ((i+k:Nat):Int)):=⟨hJ.out.2.2.2.2.1 (i+k) (Nat.le_refl _)⟩
          have hcw:wr.cell? ⟨w.heap.size,i+k,none⟩=some (.int .u64 (rd cs0 ((i+k:Nat):Int))):=by rw [← hzz.out];exact hblk.out.cell (by omega)
          have hfz:=hblk.out.frozen (i+k)
          have hz:=Aside0.mk (hI.out.2.1.rd (i:=((i+k:Nat):Int)) (by omega) (by omega))
          generalize hyy:rd b k=y at *
          generalize hz2:rd cs0 ((i+k:Nat):Int)=z at *
          obtain ⟨mh,lo,s1,o1,s2,o2,e1,e2,e3,e4,e5,e6,e7,e8,e9,e10,e11,e12,e13,e14,e15⟩:=row_limb hx.out.1 hx.out.2 hy.out.1 hy.out.2 hz.out.1 hz.out.2 hJ.out.2.2.1 hJ.out.2.2.2.1
          have fin:=Aside0.mk (hJ.out.step hkl (by omega) hx.out.1 hyy hy.out.1 hz2 hz.out.1 e11 e12 e13 e14 e15)
          have MU:=mul64_calls x y wr hx.out.1 hx.out.2 hy.out.1 hy.out.2
          rw [e1,e2] at MU
          have AD1:=fun w=>add64_run lo cy 0 e3 hJ.out.2.2.1 (by omega) (by omega) w
          simp only [e4,e5] at AD1
          have AD2:=fun w=>add64_run z s1 0 hz.out.1 e6 (by omega) (by omega) w
          simp only [e7,e8] at AD2
          have hyy:=Aside0.mk hyy
          have hz2:=Aside0.mk hz2
          have MU:=Aside0.mk MU
          clear e1 e2 e3 e4 e5 e6 e7 e8 e11 e12 e13 e14 e15
          go_wp2_with fail
          refine MU.out.mono ?_
          rintro e w1 ⟨rfl,rfl⟩
          go_wp2
          go_roundw
          case rel=>exact ⟨k+1,_,_,by omega,by go_num,rfl,fin,⟨hblk.out.put (by omega) _⟩,⟨below_set hB.out (Nat.le_refl _)⟩⟩
          case measure=>simp [intOf];omega
        · obtain rfl:k=b.length:=by omega
          have fin:=Aside0.mk (hI.out.step hil hxx.out hJ.out)
          have hcw:wr.cell? ⟨w.heap.size,i+b.length,none⟩=some (.int .u64 (rd cs ((i+b.length:Nat):Int))):=hblk.out.cell (by omega)
          have hfz:=hblk.out.frozen (i+b.length)
          go_wp2
          go_roundw
          case rel=>exact ⟨i+1,_,by omega,by go_num,fin,⟨hblk.out.put (by omega) _⟩,⟨below_set hB.out (Nat.le_refl _)⟩⟩
          case measure=>simp [intOf];omega
    · obtain rfl:i=a.length:=by omega
      have hfin:=Aside0.mk (hI.out.done)
      have hrd:=Aside0.mk (hblk0.out.all (c:=a.length+b.length) (by omega) (by omega))
      go_wp2_with fail
      have h:=trim_calls cs0 (some ⟨w.heap.size,0,none⟩) (a.length+b.length) _ hfin.out.1 hrd.out
      rw [hcl0] at h
      refine h.mono ?_
      rintro e w2 ⟨A2,c2,rfl,hr2,hB2⟩
      go_wp2
      go_ret
      exact ⟨A2,c2,by rw [hfin.out.2];rfl,by rw [← hfin.out.2];exact hr2,hB0.out.trans (hB2.mono hB0.out.size)⟩
theorem mul_calls (a b:List Int) (A A':Option Addr) (c c':Nat) (w:World) (hda:Dig a) (hdb:Dig b) (hr:Rd w a A c) (hr':Rd w b A' c') (hla:a.length≤1000) (hlb:b.length<24) :
    Calls Tryz.prog 112 #[.slice A a.length c,.slice A' b.length c'] w (RetRd (limbs (val a*val b)) w):=by
  have SB:=Aside0.mk (schoolbook_calls a b A A' c c' w hda hdb hr hr' hla (by omega))
  have hm:min (a.length:Int) (b.length:Int)<24:=by omega
  have hmb:decide (min (a.length:Int) (b.length:Int)<24)=true:=decide_eq_true hm
  clear hr hr' hda hdb
  go_enter Tryz.func112,Tryz.ntmps112
  go_wp2_with fail
  refine SB.out.mono ?_
  rintro e w2 ⟨A2,c2,rfl,hr2,hB2⟩
  go_wp2
  go_ret
  exact ⟨A2,c2,rfl,hr2,hB2⟩
end
end Go.Proofs.YtmnkaldemjdcoaaGreat.Limbs
set_option linter.unusedVariables false
namespace Go.Proofs.YtmnkaldemjdcoaaGreat.Whole
open RowKit YtmnkaldemjdcoaaGreatW.PrintWords YtmnkaldemjdcoaaGreatW.PrintLast YtmnkaldemjdcoaaGreatW.PrintMore YtmnkaldemjdcoaaGreatW.Aid YtmnkaldemjdcoaaGreatW.Big YtmnkaldemjdcoaaGreat.BitsWalk YtmnkaldemjdcoaaGreat.Limbs
def iv (x:Int) (A:Option Addr) (c:Nat):Value := .agg #[.bool (sgn x),.slice A (lm x).length c]
def RetI (x:Int) (w:World) (e:Ending) (w':World):Prop:=∃ A c,e = .returned (iv x A c)∧Rd w' (lm x) A c∧Below w.heap.size w w'
def ofS (b:Bool) (m:Nat):Int:=if b then -(m:Int) else m
theorem lm_ofS (b:Bool) (m:Nat):lm (ofS b m)=limbs m:=by
  unfold lm ofS
  cases b<;>simp
theorem sgn_ofS (b:Bool) (m:Nat):sgn (ofS b m)=(b&&decide (0<(limbs m).length)):=by
  have h:decide (0<(limbs m).length)=decide (m≠0):=by
    apply decide_eq_decide.2
    rw [List.length_pos_iff,ne_eq,limbs_ne]
  rw [h]
  unfold sgn ofS
  cases b
  · simp
  · by_cases h0:m=0
    · subst h0;simp
    · simp [h0];omega
theorem blk_below {w w1:World} {g:Nat} {o:Obj} (h:w.heap[g]?=some o) (hb:Below w.heap.size w w1):w1.heap[g]?=some o:=by
  rw [hb.block g (Array.getElem?_eq_some_iff.1 h).1];exact h
theorem row_at {w:World} {g:Nat} {t:TypeId} {old:Array Value} (h:w.heap[g]?=some (.cells old t (0,0))) (cs:Array Value):(w.setRow g cs).heap[g]?=some (.cells cs t (0,0)):=setRow_heap w g old cs t (0,0) h
theorem row_below {w W:World} {g:Nat} (h:Below w.heap.size w W) (hg:w.heap.size≤g) (cs:Array Value):Below w.heap.size w (W.setRow g cs):=by
  refine ⟨h.os,h.tape,h.output,by simpa [World.setRow] using h.size,fun k hk=>?_⟩
  rw [← h.block k hk]
  simp only [World.setRow]
  rw [Array.getElem?_modify]
  rw [if_neg (by omega)]
theorem Rd.setRow {w:World} {l:List Int} {A:Option Addr} {c g:Nat} {old:Array Value} {t:TypeId} (h:Rd w l A c) (hg:w.heap[g]?=some (.cells old t (0,0))) (ho:∀ (j:Nat) (x:Int),old[j]?≠some (.int .u64 x)) (cs:Array Value):Rd (w.setRow g cs) l A c:=by
  refine ⟨h.1,h.2.1,h.2.2.1,fun hpos=>?_⟩
  obtain ⟨ad,hA,hc⟩:=h.2.2.2 hpos
  refine ⟨ad,hA,fun j p hj=>?_⟩
  obtain ⟨cs1,h1,h2,h3⟩:=hc j p hj
  refine ⟨cs1,h1,h2,fun i u hu=>?_⟩
  have h4:=h3 i u hu
  have hu':u = .int .u64 p:=by
    have h5:cs1=[.int .u64 p]:=h2
    subst h5
    cases i with
    | zero=>simpa using hu.symm
    | succ i=>simp at hu
  rw [cell_setRow_other _ _ _ _ ?_]
  · exact h4
  · intro e
    rw [hu'] at h4
    unfold World.cell? at h4
    rw [e,hg] at h4
    simp only at h4
    split at h4
    · cases h4
    · exact ho _ _ h4
theorem noInts (b:Bool) (A:Option Addr) (n c:Nat):∀ (j:Nat) (x:Int),(#[Value.bool b,Value.slice A n c]:Array Value)[j]?≠some (.int .u64 x):=by
  intro j x h
  match j with
  | 0=>simp at h
  | 1=>simp at h
  | j+2=>simp at h
section
set_option maxRecDepth 100000
set_option maxHeartbeats 1000000
theorem Of_calls (b:Bool) (m:Nat) (A:Option Addr) (c:Nat) (w:World) :
    Calls Tryz.prog 89 #[.bool b,.slice A (limbs m).length c] w fun e w'=>e = .returned (iv (ofS b m) A c)∧Below w.heap.size w w':=by
  unfold iv
  rw [lm_ofS,sgn_ofS]
  generalize (limbs m).length=n
  cases b with
  | false =>
    go_enter Tryz.func89,Tryz.ntmps89
    go_wp2
    refine bodyPost_ret (results_cell_row rfl _ _ w.heap.size 64 _ (0,0) _ rfl (blk_new w _) Tryz.underlying64 rfl (by kernel_rfl)) rfl ?_
    exact ⟨rfl,below_alloc (Below.refl _ _) _⟩
  | true =>
    by_cases hn:0<n
    · have hb:decide (0<n)=true:=decide_eq_true hn
      rw [hb]
      have hb2:decide ((0:Int)<(n:Int))=true:=decide_eq_true (by omega)
      go_enter Tryz.func89,Tryz.ntmps89
      go_wp2
      refine bodyPost_ret (results_cell_row rfl _ _ w.heap.size 64 _ (0,0) _ rfl (blk_new w _) Tryz.underlying64 rfl (by kernel_rfl)) rfl ?_
      exact ⟨rfl,below_alloc (Below.refl _ _) _⟩
    · have hb:decide (0<n)=false:=decide_eq_false hn
      rw [hb]
      have hb2:decide ((0:Int)<(n:Int))=false:=decide_eq_false (by omega)
      go_enter Tryz.func89,Tryz.ntmps89
      go_wp2
      refine bodyPost_ret (results_cell_row rfl _ _ w.heap.size 64 _ (0,0) _ rfl (blk_new w _) Tryz.underlying64 rfl (by kernel_rfl)) rfl ?_
      exact ⟨rfl,below_alloc (Below.refl _ _) _⟩
theorem st_cells {w:World} {g:Nat} {t:TypeId} {x y:Value} (h:w.heap[g]?=some (.cells #[x,y] t (0,0))) :
    w.cell? ⟨g,0,none⟩=some x∧w.cell? ⟨g,1,none⟩=some y∧w.frozen? ⟨g,0,none⟩=false∧w.frozen? ⟨g,1,none⟩=false:=⟨blk_cell h 0,blk_cell h 1,blk_frozen h 0,blk_frozen h 1⟩
theorem st_eq {w:World} {g:Nat} {t:TypeId} {x y u v:Value} (h:w.heap[g]?=some (.cells #[x,y] t (0,0))):(w.setCell ⟨g,0,none⟩ u).setCell ⟨g,1,none⟩ v=w.setRow g #[u,v]:=by
  have h1:=setCell_eq_setRow w g 0 #[x,y] t (0,0) u h
  rw [h1]
  have h2:=setRow_heap w g #[x,y] (#[x,y].setIfInBounds 0 u) t (0,0) h
  rw [setCell_eq_setRow _ g 1 _ t (0,0) v h2,setRow_setRow]
  rfl
theorem int_info {b:Bool} {A:Option Addr} {n c:Nat}:(Tryz.prog.info? 64).map (·.size)=some (#[Value.bool b,Value.slice A n c]:Array Value).size:=by kernel_rfl
theorem From_calls (n:Int) (w:World) (h0 : -9223372036854775808≤n) (h1:n<9223372036854775808):Calls Tryz.prog 58 #[.int .i64 n] w (RetI n w):=by
  by_cases hn:n<0
  · have hb:decide (n<0)=true:=decide_eq_true hn
    have ew:IntKind.u64.wrap (-IntKind.u64.wrap n)=(n.natAbs:Int):=by rw [u64_wrap,u64_wrap];omega
    have eo:Aside0 (ofS true n.natAbs=n):=⟨by unfold ofS;simp;omega⟩
    have hm:n.natAbs<18446744073709551616:=by omega
    have WO:=Aside0.mk (fun w=>word_calls n.natAbs w hm)
    clear h0 h1 hm
    go_enter Tryz.func58,Tryz.ntmps58
    go_wp2_with fail
    have BK:=Aside0.mk (blk_new w (.cells #[.bool false,.slice none 0 0] 64))
    have BE:=Aside0.mk (below_alloc (Below.refl w.heap.size w) (.cells #[.bool false,.slice none 0 0] 64))
    generalize w.alloc (.cells #[.bool false,.slice none 0 0] 64)=w0 at *
    
    refine (WO.out w0).mono ?_
    rintro e w1 ⟨A,c,rfl,hr1,hB1⟩
    have hr1:=Aside0.mk hr1
    have BK:=Aside0.mk (blk_below BK.out hB1)
    have BE:=Aside0.mk (BE.out.trans (hB1.mono BE.out.size))
    clear hB1
    go_wp2_with fail
    refine (Of_calls true n.natAbs A c w1).mono ?_
    rintro e w2 ⟨rfl,hB2⟩
    have hr2:=Aside0.mk (hr1.out.below hB2)
    have BK:=Aside0.mk (blk_below BK.out hB2)
    have BE:=Aside0.mk (BE.out.trans (hB2.mono BE.out.size))
    clear hB2 hr1
    rw [eo.out]
    unfold iv
    generalize hsg:sgn n=sg
    obtain ⟨hc0,hc1,hf0,hf1⟩:=st_cells BK.out
    go_wp2_with fail
    rw [st_eq BK.out]
    (try simp only [Exit.inBlock,Exit.then])
    refine bodyPost_ret (v := .agg #[.bool sg,.slice A (lm n).length c]) (results_cell_row rfl _ _ w.heap.size 64 #[.bool sg,.slice A (lm n).length c] (0,0) _ rfl (row_at BK.out _) Tryz.underlying64 rfl int_info) rfl ?_
    exact ⟨A,c,by unfold iv;rw [hsg],Rd.setRow hr2.out BK.out (noInts _ _ _ _) _,row_below BE.out (Nat.le_refl _) _⟩
  · have hb:decide (n<0)=false:=decide_eq_false hn
    obtain ⟨m,rfl⟩:∃ m:Nat,n=(m:Int):=⟨n.toNat,by omega⟩
    have ew:IntKind.u64.wrap (m:Int)=(m:Int):=by rw [u64_wrap];omega
    have eo:Aside0 (ofS false m=(m:Int)):=⟨by unfold ofS;simp⟩
    have hm:m<18446744073709551616:=by omega
    have WO:=Aside0.mk (fun w=>word_calls m w hm)
    clear h0 h1 hm
    go_enter Tryz.func58,Tryz.ntmps58
    go_wp2_with fail
    have BK:=Aside0.mk (blk_new w (.cells #[.bool false,.slice none 0 0] 64))
    have BE:=Aside0.mk (below_alloc (Below.refl w.heap.size w) (.cells #[.bool false,.slice none 0 0] 64))
    generalize w.alloc (.cells #[.bool false,.slice none 0 0] 64)=w0 at *
    refine (WO.out w0).mono ?_
    rintro e w1 ⟨A,c,rfl,hr1,hB1⟩
    have hr1:=Aside0.mk hr1
    have BK:=Aside0.mk (blk_below BK.out hB1)
    have BE:=Aside0.mk (BE.out.trans (hB1.mono BE.out.size))
    clear hB1
    go_wp2_with fail
    refine (Of_calls false m A c w1).mono ?_
    rintro e w2 ⟨rfl,hB2⟩
    have hr2:=Aside0.mk (hr1.out.below hB2)
    have BK:=Aside0.mk (blk_below BK.out hB2)
    have BE:=Aside0.mk (BE.out.trans (hB2.mono BE.out.size))
    clear hB2 hr1
    rw [eo.out]
    unfold iv
    generalize hsg:sgn (m:Int)=sg
    obtain ⟨hc0,hc1,hf0,hf1⟩:=st_cells BK.out
    go_wp2_with fail
    rw [st_eq BK.out]
    (try simp only [Exit.inBlock,Exit.then])
    refine bodyPost_ret (v := .agg #[.bool sg,.slice A (lm (m:Int)).length c]) (results_cell_row rfl _ _ w.heap.size 64 #[.bool sg,.slice A (lm (m:Int)).length c] (0,0) _ rfl (row_at BK.out _) Tryz.underlying64 rfl int_info) rfl ?_
    exact ⟨A,c,by unfold iv;rw [hsg],Rd.setRow hr2.out BK.out (noInts _ _ _ _) _,row_below BE.out (Nat.le_refl _) _⟩
end
end Go.Proofs.YtmnkaldemjdcoaaGreat.Whole
end
