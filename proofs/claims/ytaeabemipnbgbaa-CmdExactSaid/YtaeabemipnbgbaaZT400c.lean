/- Part of a proof: texts of this session, one behind the other, and words that print.sh printed for this seat, of these only those that the proof leans on (wip/tools/pack.py). -/
import Derived.Test.YtaeabemipnbgbaaZT400b
import Derived.Laws.BitsLemmas
section
namespace Go.Proofs.Ytaeabemipnbgbaa.QCm
open RowKit YtaeabemipnbgbaaW.PrintWords YtaeabemipnbgbaaW.PrintLast YtaeabemipnbgbaaW.PrintMore
attribute [local go_sem] max2_int min2_int max_two min_two max_three min_three max_four min_four   -- for this text's walks alone
set_option linter.unusedVariables false
set_option linter.unusedSimpArgs false
def gimballaw0_Bytes.l0:Nat→List Int→Int→Option (Unit)
  | 0,_,_=>none
  | k+1,x0,x2=>if x2<(x0.length:Int) then (if 0≤x2 then (gimballaw0_Bytes.l0 k (x0.set (x2:Int).toNat (Go.bits .xor .u8 (rd x0 x2) 85)) (wrap64 (x2+1))) else (none)) else (if x0.length<140737488355328 then (some ()) else (none))
def gimballaw0_Bytes.f (k:Nat) (l0:List Int):Option (Unit):=gimballaw0_Bytes.l0 k l0 0
theorem gimballaw0_Bytes.mono_l:∀ k,(∀ y0 y1,LeO (gimballaw0_Bytes.l0 k y0 y1) (gimballaw0_Bytes.l0 (k+1) y0 y1))
  | 0=>fun _ _ r h=>by simp [gimballaw0_Bytes.l0] at h
  | k + 1 => by
    have ih0:=gimballaw0_Bytes.mono_l k
    · intro y0 y1
      unfold gimballaw0_Bytes.l0
      repeat' first
      | (with_reducible exact ih0 _ _)
      | (with_reducible exact LeO.refl _)
      | (with_reducible exact LeO.none _)
      | (with_reducible refine LeO.ite ?_ ?_)
      | (with_reducible refine LeO.bind ?_ (fun _=>?_))
      | exact ih0 _ _
      | exact LeO.none _
      | refine LeO.ite ?_ ?_
      | refine LeO.bind ?_ (fun _=>?_)
theorem gimballaw0_Bytes.mono:∀ a0 k,LeO (gimballaw0_Bytes.f k a0) (gimballaw0_Bytes.f (k+1) a0):=by
  intro a0 k
  have ih0:=gimballaw0_Bytes.mono_l k
  unfold gimballaw0_Bytes.f
  repeat' first
      | (with_reducible exact ih0 _ _)
      | (with_reducible exact LeO.refl _)
      | (with_reducible exact LeO.none _)
      | (with_reducible refine LeO.ite ?_ ?_)
      | (with_reducible refine LeO.bind ?_ (fun _=>?_))
      | exact ih0 _ _
      | exact LeO.none _
      | refine LeO.ite ?_ ?_
      | refine LeO.bind ?_ (fun _=>?_)
set_option maxHeartbeats 8000000 in
set_option maxRecDepth 100000 in
theorem gimballaw0_Bytes.calls (k:Nat) (P0_:Nat→Prop) (u9000_:Value) (l0:List Int) (w0 w:World) (hB:Below w0.heap.size w0 w) (ho0:Kd.R (Kd.int .u8) 5 w w0.heap.size P0_ u9000_ l0) (h:gimballaw0_Bytes.f k l0=some ()) :
    Calls Try.prog 24 #[u9000_] w fun e w'=>e = .returned (.tuple #[])∧Below w0.heap.size w0 w'∧Kept w w' (fun k_=>P0_ k_):=by
  have HO0:=Aside0.mk (show Kd.R (Kd.int .u8) 5 w w0.heap.size (fun k_=>(P0_ k_∨w.heap.size≤k_)) u9000_ l0 from Kd.R_mono ho0 (fun k_ hk=>(.inl hk)))
  have HK:=Aside0.mk (Kept.refl w (fun k_=>P0_ k_))
  have HW0:=Aside0.mk hB.size
  have HB:=Aside0.mk hB
  clear hB
  have H:(gimballaw0_Bytes.l0 k l0 0)=some ():=h
  clear h
  have H':=Aside0.mk H
  clear H
  go_enter Try.func24,Try.ntmps24
  go_wp2
  go_loopg [2] k (fun kq v2 w'=>∃ (x0_1:List Int) (x2_1:Int),v2 = .int .i64 x2_1∧Aside0 (gimballaw0_Bytes.l0 kq x0_1 x2_1=some ())∧Aside0 (kq≤k)∧Aside0 (Kd.R (Kd.int .u8) 5 w' w0.heap.size (fun k_=>(P0_ k_∨w.heap.size≤k_)) u9000_ x0_1)∧Aside0 (Kept w w' (fun k_=>P0_ k_))∧Aside0 (Below w0.heap.size w0 w'))
  case atStart=>exact ⟨(l0),(0),(by first|rfl|(simp;done)|(simp [*];done)),H',⟨Nat.le_refl _⟩,⟨by (with_reducible repeat (first|apply Kd.R_alloc|apply Kd.R_drewN|apply Kd.R_drew));exact HO0.out⟩,⟨by repeat (first|(with_reducible first|exact HK.out|apply Kept.alloc|apply Kept.drewN|apply Kept.drew)|exact HK.out)⟩,⟨by repeat (first|(with_reducible first|exact HB.out|apply below_alloc|apply pw_below_drewN|apply below_drew1)|exact HB.out)⟩⟩
  case round =>
    clear H'
    obtain ⟨x0_1,x2_1,rfl,HA,HK1,HO_0,HK,HB⟩:=hrel
    cases gk with
    | zero=>exact absurd HA.out (by simp [gimballaw0_Bytes.l0])
    | succ k1 =>
      have H:=HA.out
      clear HA
      simp only [gimballaw0_Bytes.l0] at H
      by_cases c2:x2_1<(x0_1.length:Int)
      · rw [if_pos c2] at H
        have c2b0:decide (x2_1<(x0_1.length:Int))=true:=decide_eq_true c2
        clear c2
        by_cases c3:0≤x2_1
        · rw [if_pos c3] at H
          have c3b0:decide (0≤x2_1)=true:=decide_eq_true c3
          clear c3
          obtain ⟨y186,hy186⟩:∃ y_:List Int,y_=(x0_1.set (x2_1:Int).toNat (Go.bits .xor .u8 (rd x0_1 x2_1) 85)):=⟨_,rfl⟩
          replace H:(gimballaw0_Bytes.l0 k1 y186 (wrap64 (x2_1+1)))=some ():=by first|(rw [hy186];with_reducible exact H)|(have H2_:=(Option.bind_some _ _).symm.trans H;rw [hy186];with_reducible exact H2_)|(have H2_:=(Option.bind_some _ _).symm.trans H;with_reducible exact H2_)|with_reducible exact H|(rw [hy186];exact H)|exact H
          have Ny186:=Aside0.mk hy186
          clear hy186
          have H':=Aside0.mk H
          clear H
          obtain ⟨Ao5,co5,eo5⟩:=Kd.R_slice HO_0.out
          subst eo5
          have p185:0≤(x2_1:Int):=of_decide_eq_true (by first|(with_reducible assumption)|assumption)
          have q185:x2_1<(x0_1.length:Int):=of_decide_eq_true (by first|(with_reducible assumption)|assumption)
          obtain ⟨ad185,e185,hx185_0⟩:=Kd.at_int (Kd.R_reads' HO_0.out).2.2 x2_1 p185 q185
          cases e185
          replace p185:=eq_true p185
          replace q185:=eq_true q185
          have p4:0≤(x2_1:Int):=of_decide_eq_true (by first|(with_reducible assumption)|assumption)
          have q4:(x2_1:Int)<((x0_1.length:Int):Int):=of_decide_eq_true (by first|(with_reducible assumption)|assumption)
          obtain ⟨go4,co4,eo4,gb4,gl4,cl4,HG4⟩:=Kd.R_form HO_0.out (by omega)
          (first|cases eo4|(injection eo4 with ea_ en_ ec_;(first|subst ea_|(injection ea_ with ea_;subst ea_));subst ec_;clear en_))
          have GB4:=Aside0.mk gb4
          have GG4:=Aside0.mk HG4
          clear gb4 gl4 HG4
          have HMgo4:=Aside0.mk (show (P0_ go4∨w.heap.size≤go4) from (HO_0.out.1 _ rfl))
          (first|simp only [add_plain] at hx185_0|skip)
          obtain ⟨hx4_0,hf4_0⟩:=Kd.R_celln 0 HO_0.out (x2_1:Int) p4 q4
          replace p4:=eq_true p4
          replace q4:=eq_true q4
          have HP6:=Kd.R_putg HO_0.out (x2_1:Int) (Go.bits .xor .u8 (rd x0_1 x2_1) 85)
          go_wp2_with (first|((with_reducible refine gate_store (t:=5) (p:=16) rfl ?_);refine store_event (t:=5) (p:=16) (v:=?vo_w7) (w1:=(wr.setCell ⟨go4,(x2_1:Int).toNat,none⟩ (.int .u8 (Go.bits .xor .u8 (rd x0_1 x2_1) 85)))) ?hg ?ho ?hn ?hr ?_;(case ho=>rfl);(case hg=>rfl);(case hn=>rfl);(case hr=>first|(go_simp;done)|(go_simp;rfl));intro w7 hw;have hg:wr.grownBy w7 (some go4):=(by rw [hw];exact HP6.2);have hp_:Kd.R (Kd.int .u8) 5 w7 w0.heap.size (fun k_=>(P0_ k_∨w.heap.size≤k_)) (.slice (some ⟨go4,0,none⟩) x0_1.length co5) y186:=(by rw [hw,Ny186.out];exact HP6.1);clear HP6;have n0_:=Aside0.mk (hp_);have n1_:=Aside0.mk ((by rw [hw];exact below_set (HB.out) GB4.out:Below w0.heap.size w0 w7));have n2_:=Aside0.mk (Kept.of_grown (S:=(fun k_=>P0_ k_)) hg (by repeat (first|(with_reducible first|exact HK.out|apply Kept.alloc|apply Kept.drewN|apply Kept.drew)|exact HK.out)) (fun k_ e_=>(HO_0.out.1 k_ e_)));clear HO_0;clear HB;clear HK;have HO_0:=n0_;have HB:=n1_;have HK:=n2_;clear n0_ n1_ n2_;clear hg hw hp_))
          go_roundg k1
          case measure=>have:=HK1.out;omega
          case rel=>exact ⟨(y186),(wrap64 (x2_1+1)),(by first|rfl|(simp;done)|(simp [*];done)),H',⟨by have:=HK1.out;omega⟩,⟨by (with_reducible repeat (first|apply Kd.R_alloc|apply Kd.R_drewN|apply Kd.R_drew));exact HO_0.out⟩,⟨by repeat (first|(with_reducible first|exact HK.out|apply Kept.alloc|apply Kept.drewN|apply Kept.drew)|exact HK.out)⟩,⟨by repeat (first|(with_reducible first|exact HB.out|apply below_alloc|apply pw_below_drewN|apply below_drew1)|exact HB.out)⟩⟩
        · rw [if_neg c3] at H
          exact absurd H (by simp)
      · rw [if_neg c2] at H
        have c2b0:decide (x2_1<(x0_1.length:Int))=false:=decide_eq_false c2
        clear c2
        by_cases c8:x0_1.length<140737488355328
        · rw [if_pos c8] at H
          have LMc8:=Aside0.mk c8
          clear c8
          obtain ⟨y187,hy187⟩:∃ y_:List Int,y_=(x0_1++[5]):=⟨_,rfl⟩
          replace H:(some ())=some ():=by first|(rw [hy187];with_reducible exact H)|(have H2_:=(Option.bind_some _ _).symm.trans H;rw [hy187];with_reducible exact H2_)|(have H2_:=(Option.bind_some _ _).symm.trans H;with_reducible exact H2_)|with_reducible exact H|(rw [hy187];exact H)|exact H
          have Ny187:=Aside0.mk hy187
          clear hy187
          obtain ⟨Ao9,co9,eo9⟩:=Kd.R_slice HO_0.out
          subst eo9
          go_wp2_with (first|((with_reducible refine gate_builtin (b := .append) (xs:=#[.tmp 17,.tmp 18]) rfl ?_);at_builtin;refine Kd.R_append (Kd.int .u8) (w0:=w0) w0.heap.size rfl (.tmp 17) (.tmp 18) 25 5 (.int .u8 0) 1 rfl Try.underlying25 info5 rfl (by decide) (by omega) (.slice Ao9 x0_1.length co9) x0_1 5 [.int .u8 5] (fun k_=>(P0_ k_∨w.heap.size≤k_)) (fun _=>False) rfl rfl ?aP (fun _ hk=>hk.elim) ?aF ?aO ?aB ?aS ?aL ?_;(case aP=>exact rfl);(case aB=>exact (by repeat (first|(with_reducible first|exact HB.out|apply below_alloc|apply pw_below_drewN|apply below_drew1)|exact HB.out)));(case aF=>exact (fun k_ hk=>(.inr (Nat.le_trans (by first|exact HK.out.1|exact (show Kept w _ (fun k_=>P0_ k_) from by repeat (first|(with_reducible first|exact HK.out|apply Kept.alloc|apply Kept.drewN|apply Kept.drew)|exact HK.out)).1) hk))));(case aO=>exact (by (with_reducible repeat (first|apply Kd.R_alloc|apply Kd.R_drewN|apply Kd.R_drew));exact HO_0.out));(case aS=>exact (below_size (by repeat (first|(with_reducible first|exact HB.out|apply below_alloc|apply pw_below_drewN|apply below_drew1)|exact HB.out))));(case aL=>have:=LMc8.out;omega);intro v188 w10 ho hb hg hat;rw [← Ny187.out] at ho;have n0_:=Aside0.mk (hb);have n1_:=Aside0.mk (Kept.of_grown (S:=(fun k_=>P0_ k_)) hg (by repeat (first|(with_reducible first|exact HK.out|apply Kept.alloc|apply Kept.drewN|apply Kept.drew)|exact HK.out)) (fun k_ e_=>(HO_0.out.1 k_ e_)));have n2_:=Aside0.mk (ho);clear HB;clear HK;clear HO_0;have HB:=n0_;have HK:=n1_;have HO189:=n2_;clear n0_ n1_ n2_;clear ho hb hg hat))
          first|go_end0|((try simp only [Exit.inBlock,Exit.then]);refine bodyPost_ret (results_none rfl _ _ _) rfl ?_)
          exact ⟨by first|rfl|(simp [errW_none,errW_some]<;>rfl)|(simp [*,errW_none,errW_some]<;>rfl),by repeat (first|(with_reducible first|exact HB.out|apply below_alloc|apply pw_below_drewN|apply below_drew1)|exact HB.out),by repeat (first|(with_reducible first|exact HK.out|apply Kept.alloc|apply Kept.drewN|apply Kept.drew)|exact HK.out)⟩
        · rw [if_neg c8] at H
          exact absurd H (by simp)
def gimbalref25_number.l0:Nat→List Int→Int→Int→Option (Int)
  | 0,_,_,_=>none
  | k+1,x0,x3,x4=>if x4<(x0.length:Int) then (if 0≤x4 then (gimbalref25_number.l0 k x0 (Go.bits .or .i64 (wrap64 (x3*256)) (wrap64 (rd x0 x4))) (wrap64 (x4+1))) else (none)) else (some x3)
def gimbalref25_number.f (k:Nat) (l0:List Int):Option (Int):=gimbalref25_number.l0 k l0 0 0
theorem gimbalref25_number.mono_l:∀ k,(∀ y0 y1 y2,LeO (gimbalref25_number.l0 k y0 y1 y2) (gimbalref25_number.l0 (k+1) y0 y1 y2))
  | 0=>fun _ _ _ r h=>by simp [gimbalref25_number.l0] at h
  | k + 1 => by
    have ih0:=gimbalref25_number.mono_l k
    · intro y0 y1 y2
      unfold gimbalref25_number.l0
      repeat' first
      | (with_reducible exact ih0 _ _ _)
      | (with_reducible exact LeO.refl _)
      | (with_reducible exact LeO.none _)
      | (with_reducible refine LeO.ite ?_ ?_)
      | (with_reducible refine LeO.bind ?_ (fun _=>?_))
      | exact ih0 _ _ _
      | exact LeO.none _
      | refine LeO.ite ?_ ?_
      | refine LeO.bind ?_ (fun _=>?_)
theorem gimbalref25_number.mono:∀ a0 k,LeO (gimbalref25_number.f k a0) (gimbalref25_number.f (k+1) a0):=by
  intro a0 k
  have ih0:=gimbalref25_number.mono_l k
  unfold gimbalref25_number.f
  repeat' first
      | (with_reducible exact ih0 _ _ _)
      | (with_reducible exact LeO.refl _)
      | (with_reducible exact LeO.none _)
      | (with_reducible refine LeO.ite ?_ ?_)
      | (with_reducible refine LeO.bind ?_ (fun _=>?_))
      | exact ih0 _ _ _
      | exact LeO.none _
      | refine LeO.ite ?_ ?_
      | refine LeO.bind ?_ (fun _=>?_)
set_option maxHeartbeats 8000000 in
set_option maxRecDepth 100000 in
theorem gimbalref25_number.calls (k:Nat) (A0:Option Addr) (c0:Nat) (l0:List Int) (r:Int) (w:World) (hr0:Kd.C (Kd.int .u8) w A0 l0.length l0) (hc0:l0.length≤c0) (h:gimbalref25_number.f k l0=some r) :
    Calls Try.prog 76 #[.slice A0 l0.length c0] w fun e w'=>e = .returned (.int .i64 r)∧Drawn0 w w':=by
  have HR0:=Aside0.mk hr0
  have HC0:=Aside0.mk hc0
  clear hr0 hc0
  have H:(gimbalref25_number.l0 k l0 0 0)=some r:=h
  clear h
  have H':=Aside0.mk H
  clear H
  go_enter Try.func76,Try.ntmps76
  go_wp2
  go_loopg [3,4] k (fun kq v3 v4 w'=>∃ (x3_1:Int) (x4_1:Int),v3 = .int .i64 x3_1∧v4 = .int .i64 x4_1∧Aside0 (gimbalref25_number.l0 kq l0 x3_1 x4_1=some r)∧Aside0 (kq≤k)∧Drawn0 w w')
  case atStart=>exact ⟨(0),(0),(by first|rfl|(simp;done)|(simp [*];done)),(by first|rfl|(simp;done)|(simp [*];done)),H',⟨Nat.le_refl _⟩,by repeat (first|exact Drawn0.refl _|apply Drawn0.step)⟩
  case round =>
    clear H'
    obtain ⟨x3_1,x4_1,rfl,rfl,HA,HK1,⟨m1,rfl⟩⟩:=hrel
    cases gk with
    | zero=>exact absurd HA.out (by simp [gimbalref25_number.l0])
    | succ k1 =>
      have H:=HA.out
      clear HA
      simp only [gimbalref25_number.l0] at H
      by_cases c2:x4_1<(l0.length:Int)
      · rw [if_pos c2] at H
        have c2b0:decide (x4_1<(l0.length:Int))=true:=decide_eq_true c2
        clear c2
        by_cases c3:0≤x4_1
        · rw [if_pos c3] at H
          have c3b0:decide (0≤x4_1)=true:=decide_eq_true c3
          clear c3
          have H':=Aside0.mk H
          clear H
          have p190:0≤(x4_1:Int):=of_decide_eq_true (by first|(with_reducible assumption)|assumption)
          have q190:x4_1<(l0.length:Int):=of_decide_eq_true (by first|(with_reducible assumption)|assumption)
          obtain ⟨ad190,e190,hx190_0⟩:=Kd.at_int HR0.out x4_1 p190 q190
          cases e190
          replace p190:=eq_true p190
          replace q190:=eq_true q190
          go_wp2
          go_roundg k1
          case measure=>have:=HK1.out;omega
          case rel=>exact ⟨(Go.bits .or .i64 (wrap64 (x3_1*256)) (wrap64 (rd l0 x4_1))),(wrap64 (x4_1+1)),(by first|rfl|(simp;done)|(simp [*];done)),(by first|rfl|(simp;done)|(simp [*];done)),H',⟨by have:=HK1.out;omega⟩,by repeat (first|exact Drawn0.refl _|apply Drawn0.step)⟩
        · rw [if_neg c3] at H
          exact absurd H (by simp)
      · rw [if_neg c2] at H
        have c2b0:decide (x4_1<(l0.length:Int))=false:=decide_eq_false c2
        clear c2
        obtain rfl:=Option.some.inj H
        go_wp2
        go_ret
        exact ⟨by first|rfl|(simp;done)|(simp [*];done),by repeat (first|exact Drawn0.refl _|apply Drawn0.step)⟩
def gimballaw25_num.f (a0:Int):Option (Int):=some a0
set_option maxHeartbeats 8000000 in
set_option maxRecDepth 100000 in
theorem gimballaw25_num.calls (a0:Int) (r:Int) (w:World) (h:gimballaw25_num.f a0=some r) :
    Calls Try.prog 20 #[.int .i64 a0] w fun e w'=>e = .returned (.int .i64 r)∧Drawn0 w w':=by
  have H:(some a0)=some r:=h
  clear h
  obtain rfl:=Option.some.inj H
  go_enter Try.func20,Try.ntmps20
  go_wp2
  go_ret
  exact ⟨by first|rfl|(simp;done)|(simp [*];done),by repeat (first|exact Drawn0.refl _|apply Drawn0.step)⟩
def gimballaw25_wakes.f (k:Nat) :Option (Bool):=(cmd_Encode.f k 3 0 0 0 0 0 ([]:List Int) 3).bind fun bt191=>((gimballaw25_num.f bt191.2).bind fun t195=>(if t195=0 then ((gimbalref0_EqBytes.f k bt191.1 (([3]:List Int))).bind fun t199=>(some t199)) else (some false)))
theorem gimballaw25_wakes.mono:∀ k,LeO (gimballaw25_wakes.f k ) (gimballaw25_wakes.f (k+1) ):=by
  intro  k
  unfold gimballaw25_wakes.f
  repeat' first
      | (with_reducible exact cmd_Encode.mono _ _ _ _ _ _ _ _ _)
      | (with_reducible exact gimbalref0_EqBytes.mono _ _ _)
      | (with_reducible exact LeO.refl _)
      | (with_reducible exact LeO.none _)
      | (with_reducible refine LeO.ite ?_ ?_)
      | (with_reducible refine LeO.bind ?_ (fun _=>?_))
      | exact cmd_Encode.mono _ _ _ _ _ _ _ _ _
      | exact gimbalref0_EqBytes.mono _ _ _
      | exact LeO.none _
      | refine LeO.ite ?_ ?_
      | refine LeO.bind ?_ (fun _=>?_)
set_option maxHeartbeats 8000000 in
set_option maxRecDepth 100000 in
theorem gimballaw25_wakes.calls (k:Nat)  (r:Bool) (w:World) (h:gimballaw25_wakes.f k =some r) :
    Calls Try.prog 27 #[] w fun e w'=>e = .returned (.bool r)∧Below w.heap.size w w':=by
  have hu27:=Try.underlying27
  have HB:=Aside0.mk (Below.refl w.heap.size w)
  have H:((cmd_Encode.f k 3 0 0 0 0 0 ([]:List Int) 3).bind fun bt191=>((gimballaw25_num.f bt191.2).bind fun t195=>(if t195=0 then ((gimbalref0_EqBytes.f k bt191.1 (([3]:List Int))).bind fun t199=>(some t199)) else (some false))))=some r:=h
  clear h
  replace H:=Option.bind_eq_some_iff.mp H
  obtain ⟨⟨t191,t194⟩,A10,H⟩:=H
  replace H:((gimballaw25_num.f t194).bind fun t195=>(if t195=0 then ((gimbalref0_EqBytes.f k t191 (([3]:List Int))).bind fun t199=>(some t199)) else (some false)))=some r:=H
  have A1:=Aside0.mk A10
  clear A10
  replace H:=Option.bind_eq_some_iff.mp H
  obtain ⟨t195,A20,H⟩:=H
  replace H:(if t195=0 then ((gimbalref0_EqBytes.f k t191 (([3]:List Int))).bind fun t199=>(some t199)) else (some false))=some r:=H
  have A2:=Aside0.mk A20
  clear A20
  by_cases c3:t195=0
  · rw [if_pos c3] at H
    have c3b0:(t195 == 0)=true:=beq_iff_eq.mpr c3
    have c3b1:(t195 != 0)=false:=bne_eq_false_iff_eq.mpr c3
    clear c3
    obtain ⟨y196,hy196⟩:∃ y_:List Int,y_=(([3]:List Int)):=⟨_,rfl⟩
    replace H:((gimbalref0_EqBytes.f k t191 y196).bind fun t199=>(some t199))=some r:=by first|(rw [hy196];with_reducible exact H)|(have H2_:=(Option.bind_some _ _).symm.trans H;rw [hy196];with_reducible exact H2_)|(have H2_:=(Option.bind_some _ _).symm.trans H;with_reducible exact H2_)|with_reducible exact H|(rw [hy196];exact H)|exact H
    have Ny196:=Aside0.mk hy196
    clear hy196
    replace H:=Option.bind_eq_some_iff.mp H
    obtain ⟨t199,A40,H⟩:=H
    replace H:(some t199)=some r:=H
    have A4:=Aside0.mk A40
    clear A40
    obtain rfl:=Option.some.inj H
    go_enter Try.func27,Try.ntmps27
    go_wp2_with (first|((with_reducible refine gate_callee (f:=19) rfl ?_);refine goesL_ (some 5) rfl rfl Try.func19 (by kernel_rfl) rfl #[.agg #[.int .i64 3,.int .i64 0,.int .i64 0,.int .i64 0,.int .i64 0,.int .i64 0,.slice none 0 0,.int .i64 3]] rfl (by (try simp only [List.map_toArray,List.map_cons,List.map_nil]);first|done|rfl|(simp only [List.length_drop,List.length_take];rfl)) ?_;(refine (cmd_Encode.calls k 3 0 0 0 0 0 _ _ ([]:List Int) 3 t191 t194 _ ?side1 ?side2 A1.out).mono ?_);(case side1=>exact Kd.C_nil _ _);(case side2=>exact Nat.le_refl _);rintro e w5 ⟨v192,rfl,ho0,hb⟩;refine ⟨_,rfl,?_⟩;have n0_:=Aside0.mk (Kd.R_lower ho0 (below_size (by repeat (first|(with_reducible first|exact HB.out|apply below_alloc|apply pw_below_drewN|apply below_drew1)|exact HB.out))));have n1_:=Aside0.mk (below_step (by repeat (first|(with_reducible first|exact HB.out|apply below_alloc|apply pw_below_drewN|apply below_drew1)|exact HB.out)) hb);clear HB;have HO193:=n0_;have HB:=n1_;clear n0_ n1_;(try clear hb);(try clear hb2);(try clear hk);(try clear hi);(try clear ho0))|((with_reducible refine gate_callee (f:=20) rfl ?_);refine goesL_ (some 9) rfl rfl Try.func20 (by kernel_rfl) rfl #[.int .i64 t194] rfl (by (try simp only [List.map_toArray,List.map_cons,List.map_nil]);first|done|rfl|(simp only [List.length_drop,List.length_take];rfl)) ?_;(with_reducible refine (gimballaw25_num.calls t194 t195 _ A2.out).mono ?_);rintro e w' ⟨rfl,⟨nd,rfl⟩⟩;refine ⟨_,rfl,?_⟩)|((with_reducible refine gate_dst (N:=13) rfl ?_);(try (refine gate_guard (by rfl) ?_;dsimp only));refine Kd.R_lit (Kd.int .u8) _ 5 ?hg (N:=13) ?hd (xs:=([3]:List Int)) (inner:=[.int .u8 3]) (ok:=fun _=>True) (okp:=fun _=>True) ?hr ?hp (fun _ hk=>hk) trivial (Below.refl _ _) (Nat.le_refl _) (by simp) ?_;(case hd=>rfl);(case hg=>rfl);(case hr=>first|(go_simp;done)|(go_simp;rfl));(case hp=>exact (Reps.one (show Kd.M (Kd.int .u8) _ _ _ 3 [.int .u8 3] from rfl) (Reps.none _ _)));intro v197 w6 ho7 hb hg_ hnew_;clear hg_ hnew_;(first|rw [← Ny196.out] at ho7|(simp only [Int.reduceToNat] at ho7;rw [← Ny196.out] at ho7));have n0_:=Aside0.mk (Kd.R_elder' (by (with_reducible repeat (first|apply Kd.R_alloc|apply Kd.R_drewN|apply Kd.R_drew));exact HO193.out) (Kd.R_base ho7) hb);have n1_:=Aside0.mk (Kd.R_lower (Kd.R_new' ho7 (Kd.R_lt (by (with_reducible repeat (first|apply Kd.R_alloc|apply Kd.R_drewN|apply Kd.R_drew));exact HO193.out))) (below_size (by repeat (first|(with_reducible first|exact HB.out|apply below_alloc|apply pw_below_drewN|apply below_drew1)|exact HB.out))));have n2_:=Aside0.mk (below_step (by repeat (first|(with_reducible first|exact HB.out|apply below_alloc|apply pw_below_drewN|apply below_drew1)|exact HB.out)) hb);clear HO193;clear HB;have HO193:=n0_;have HO198:=n1_;have HB:=n2_;clear n0_ n1_ n2_;clear hb ho7;obtain ⟨Ao8,co8,eo8⟩:=Kd.R_slice HO193.out;subst eo8;obtain ⟨Ao9,co9,eo9⟩:=Kd.R_slice HO198.out;subst eo9)|(go_at_call 21;(with_reducible refine (gimbalref0_EqBytes.calls k _ _ t191 _ _ y196 t199 _ ?side1 ?side2 ?side3 ?side4 A4.out).mono ?_);(case side1=>repeat (first|exact (Kd.R_reads' HO193.out).2.2|(with_reducible refine Kd.C_alloc ?_ _)|(with_reducible refine Kd.C_drewN ?_ _)|(with_reducible refine Kd.C_drew ?_)));(case side2=>exact (Kd.R_reads' HO193.out).2.1);(case side3=>repeat (first|exact (Kd.R_reads' HO198.out).2.2|(with_reducible refine Kd.C_alloc ?_ _)|(with_reducible refine Kd.C_drewN ?_ _)|(with_reducible refine Kd.C_drew ?_)));(case side4=>exact (Kd.R_reads' HO198.out).2.1);rintro e w' ⟨rfl,⟨nd,rfl⟩⟩))
    go_ret
    exact ⟨by first|rfl|(simp [errW_none,errW_some]<;>rfl)|(simp [*,errW_none,errW_some]<;>rfl),by repeat (first|(with_reducible first|exact HB.out|apply below_alloc|apply pw_below_drewN|apply below_drew1)|exact HB.out)⟩
  · rw [if_neg c3] at H
    have c3b0:(t195 == 0)=false:=beq_eq_false_iff_ne.mpr c3
    have c3b1:(t195 != 0)=true:=bne_iff_ne.mpr c3
    obtain rfl:=Option.some.inj H
    go_enter Try.func27,Try.ntmps27
    go_wp2_with (first|((with_reducible refine gate_callee (f:=19) rfl ?_);refine goesL_ (some 5) rfl rfl Try.func19 (by kernel_rfl) rfl #[.agg #[.int .i64 3,.int .i64 0,.int .i64 0,.int .i64 0,.int .i64 0,.int .i64 0,.slice none 0 0,.int .i64 3]] rfl (by (try simp only [List.map_toArray,List.map_cons,List.map_nil]);first|done|rfl|(simp only [List.length_drop,List.length_take];rfl)) ?_;(refine (cmd_Encode.calls k 3 0 0 0 0 0 _ _ ([]:List Int) 3 t191 t194 _ ?side1 ?side2 A1.out).mono ?_);(case side1=>exact Kd.C_nil _ _);(case side2=>exact Nat.le_refl _);rintro e w10 ⟨v192,rfl,ho0,hb⟩;refine ⟨_,rfl,?_⟩;have n0_:=Aside0.mk (Kd.R_lower ho0 (below_size (by repeat (first|(with_reducible first|exact HB.out|apply below_alloc|apply pw_below_drewN|apply below_drew1)|exact HB.out))));have n1_:=Aside0.mk (below_step (by repeat (first|(with_reducible first|exact HB.out|apply below_alloc|apply pw_below_drewN|apply below_drew1)|exact HB.out)) hb);clear HB;have HO193:=n0_;have HB:=n1_;clear n0_ n1_;(try clear hb);(try clear hb2);(try clear hk);(try clear hi);(try clear ho0))|((with_reducible refine gate_callee (f:=20) rfl ?_);refine goesL_ (some 9) rfl rfl Try.func20 (by kernel_rfl) rfl #[.int .i64 t194] rfl (by (try simp only [List.map_toArray,List.map_cons,List.map_nil]);first|done|rfl|(simp only [List.length_drop,List.length_take];rfl)) ?_;(with_reducible refine (gimballaw25_num.calls t194 t195 _ A2.out).mono ?_);rintro e w' ⟨rfl,⟨nd,rfl⟩⟩;refine ⟨_,rfl,?_⟩))
    go_ret
    exact ⟨by first|rfl|(simp [errW_none,errW_some]<;>rfl)|(simp [*,errW_none,errW_some]<;>rfl),by repeat (first|(with_reducible first|exact HB.out|apply below_alloc|apply pw_below_drewN|apply below_drew1)|exact HB.out)⟩
end Go.Proofs.Ytaeabemipnbgbaa.QCm
end
section
namespace Go.Proofs.Ytaeabemipnbgbaa.QCm
open RowKit YtaeabemipnbgbaaW.PrintWords YtaeabemipnbgbaaW.PrintLast YtaeabemipnbgbaaW.PrintMore
attribute [local go_sem] max2_int min2_int max_two min_two max_three min_three max_four min_four   -- for this text's walks alone
set_option linter.unusedVariables false
set_option linter.unusedSimpArgs false
def gimbalref25_in.f (a0:Int) (a1:Int) (a2:Int):Option (Bool):=if a0≥a1 then (some (decide (a0≤a2))) else (some false)
set_option maxHeartbeats 8000000 in
set_option maxRecDepth 100000 in
theorem gimbalref25_in.calls (a0:Int) (a1:Int) (a2:Int) (r:Bool) (w:World) (h:gimbalref25_in.f a0 a1 a2=some r) :
    Calls Try.prog 70 #[.int .i64 a0,.int .i64 a1,.int .i64 a2] w fun e w'=>e = .returned (.bool r)∧Drawn0 w w':=by
  have H:(if a0≥a1 then (some (decide (a0≤a2))) else (some false))=some r:=h
  clear h
  by_cases c4:a0≥a1
  · rw [if_pos c4] at H
    have c4b0:decide (a1≤a0)=true:=decide_eq_true c4
    clear c4
    obtain rfl:=Option.some.inj H
    go_enter Try.func70,Try.ntmps70
    go_wp2
    go_ret
    exact ⟨by first|rfl|(simp;done)|(simp [*];done),by repeat (first|exact Drawn0.refl _|apply Drawn0.step)⟩
  · rw [if_neg c4] at H
    have c4b0:decide (a1≤a0)=false:=decide_eq_false c4
    clear c4
    obtain rfl:=Option.some.inj H
    go_enter Try.func70,Try.ntmps70
    go_wp2
    go_ret
    exact ⟨by first|rfl|(simp;done)|(simp [*];done),by repeat (first|exact Drawn0.refl _|apply Drawn0.step)⟩
def gimbalref25_Client.f (a0:Int):Option (Bool):=(gimbalref25_in.f a0 0 7).bind fun t140=>(some t140)
set_option maxHeartbeats 8000000 in
set_option maxRecDepth 100000 in
theorem gimbalref25_Client.calls (a0:Int) (r:Bool) (w:World) (h:gimbalref25_Client.f a0=some r) :
    Calls Try.prog 67 #[.int .i64 a0] w fun e w'=>e = .returned (.bool r)∧Drawn0 w w':=by
  have H:((gimbalref25_in.f a0 0 7).bind fun t140=>(some t140))=some r:=h
  clear h
  replace H:=Option.bind_eq_some_iff.mp H
  obtain ⟨t140,A20,H⟩:=H
  replace H:(some t140)=some r:=H
  have A2:=Aside0.mk A20
  clear A20
  obtain rfl:=Option.some.inj H
  go_enter Try.func67,Try.ntmps67
  go_wp2_with (first|((with_reducible refine gate_callee (f:=70) rfl ?_);refine goesL_ (some 4) rfl rfl Try.func70 (by kernel_rfl) rfl #[.int .i64 a0,.int .i64 0,.int .i64 7] rfl (by (try simp only [List.map_toArray,List.map_cons,List.map_nil]);first|done|rfl|(simp only [List.length_drop,List.length_take];rfl)) ?_;(with_reducible refine (gimbalref25_in.calls a0 0 7 t140 _ A2.out).mono ?_);rintro e w' ⟨rfl,⟨nd,rfl⟩⟩;refine ⟨_,rfl,?_⟩))
  go_ret
  exact ⟨by first|rfl|(simp;done)|(simp [*];done),by repeat (first|exact Drawn0.refl _|apply Drawn0.step)⟩
def gimbalref25_Sensor.f (a0:Int):Option (Bool):=(gimbalref25_in.f a0 1 15).bind fun t141=>(some t141)
set_option maxHeartbeats 8000000 in
set_option maxRecDepth 100000 in
theorem gimbalref25_Sensor.calls (a0:Int) (r:Bool) (w:World) (h:gimbalref25_Sensor.f a0=some r) :
    Calls Try.prog 69 #[.int .i64 a0] w fun e w'=>e = .returned (.bool r)∧Drawn0 w w':=by
  have H:((gimbalref25_in.f a0 1 15).bind fun t141=>(some t141))=some r:=h
  clear h
  replace H:=Option.bind_eq_some_iff.mp H
  obtain ⟨t141,A20,H⟩:=H
  replace H:(some t141)=some r:=H
  have A2:=Aside0.mk A20
  clear A20
  obtain rfl:=Option.some.inj H
  go_enter Try.func69,Try.ntmps69
  go_wp2_with (first|((with_reducible refine gate_callee (f:=70) rfl ?_);refine goesL_ (some 4) rfl rfl Try.func70 (by kernel_rfl) rfl #[.int .i64 a0,.int .i64 1,.int .i64 15] rfl (by (try simp only [List.map_toArray,List.map_cons,List.map_nil]);first|done|rfl|(simp only [List.length_drop,List.length_take];rfl)) ?_;(with_reducible refine (gimbalref25_in.calls a0 1 15 t141 _ A2.out).mono ?_);rintro e w' ⟨rfl,⟨nd,rfl⟩⟩;refine ⟨_,rfl,?_⟩))
  go_ret
  exact ⟨by first|rfl|(simp;done)|(simp [*];done),by repeat (first|exact Drawn0.refl _|apply Drawn0.step)⟩
def gimbalref25_MaySub.f (a0_0:Int) (a0_1:Int) (a0_2:Int) (a0_3:Int):Option (Bool):=(gimbalref25_Client.f a0_0).bind fun t143=>(if t143=true then ((gimbalref25_Sensor.f a0_1).bind fun t144=>(if t144=true then ((gimbalref25_in.f a0_2 1 1000).bind fun t145=>(if t145=true then ((gimbalref25_in.f a0_3 0 60000).bind fun t146=>(some t146)) else (some false))) else (some false))) else (some false))
set_option maxHeartbeats 8000000 in
set_option maxRecDepth 100000 in
theorem gimbalref25_MaySub.calls (a0_0:Int) (a0_1:Int) (a0_2:Int) (a0_3:Int) (r:Bool) (w:World) (h:gimbalref25_MaySub.f a0_0 a0_1 a0_2 a0_3=some r) :
    Calls Try.prog 68 #[.agg #[.int .i64 a0_0,.int .i64 a0_1,.int .i64 a0_2,.int .i64 a0_3]] w fun e w'=>e = .returned (.bool r)∧Below w.heap.size w w':=by
  have hu24:=Try.underlying24
  have HB:=Aside0.mk (Below.refl w.heap.size w)
  have H:((gimbalref25_Client.f a0_0).bind fun t143=>(if t143=true then ((gimbalref25_Sensor.f a0_1).bind fun t144=>(if t144=true then ((gimbalref25_in.f a0_2 1 1000).bind fun t145=>(if t145=true then ((gimbalref25_in.f a0_3 0 60000).bind fun t146=>(some t146)) else (some false))) else (some false))) else (some false)))=some r:=h
  clear h
  replace H:=Option.bind_eq_some_iff.mp H
  obtain ⟨t143,A20,H⟩:=H
  replace H:(if t143=true then ((gimbalref25_Sensor.f a0_1).bind fun t144=>(if t144=true then ((gimbalref25_in.f a0_2 1 1000).bind fun t145=>(if t145=true then ((gimbalref25_in.f a0_3 0 60000).bind fun t146=>(some t146)) else (some false))) else (some false))) else (some false))=some r:=H
  have A2:=Aside0.mk A20
  clear A20
  by_cases c3:t143=true
  · subst c3
    have H1:((gimbalref25_Sensor.f a0_1).bind fun t144=>(if t144=true then ((gimbalref25_in.f a0_2 1 1000).bind fun t145=>(if t145=true then ((gimbalref25_in.f a0_3 0 60000).bind fun t146=>(some t146)) else (some false))) else (some false)))=some r:=by rw [if_pos rfl] at H;exact H
    clear H
    have H:=H1
    clear H1
    replace H:=Option.bind_eq_some_iff.mp H
    obtain ⟨t144,A40,H⟩:=H
    replace H:(if t144=true then ((gimbalref25_in.f a0_2 1 1000).bind fun t145=>(if t145=true then ((gimbalref25_in.f a0_3 0 60000).bind fun t146=>(some t146)) else (some false))) else (some false))=some r:=H
    have A4:=Aside0.mk A40
    clear A40
    by_cases c5:t144=true
    · subst c5
      have H1:((gimbalref25_in.f a0_2 1 1000).bind fun t145=>(if t145=true then ((gimbalref25_in.f a0_3 0 60000).bind fun t146=>(some t146)) else (some false)))=some r:=by rw [if_pos rfl] at H;exact H
      clear H
      have H:=H1
      clear H1
      replace H:=Option.bind_eq_some_iff.mp H
      obtain ⟨t145,A60,H⟩:=H
      replace H:(if t145=true then ((gimbalref25_in.f a0_3 0 60000).bind fun t146=>(some t146)) else (some false))=some r:=H
      have A6:=Aside0.mk A60
      clear A60
      by_cases c7:t145=true
      · subst c7
        have H1:((gimbalref25_in.f a0_3 0 60000).bind fun t146=>(some t146))=some r:=by rw [if_pos rfl] at H;exact H
        clear H
        have H:=H1
        clear H1
        replace H:=Option.bind_eq_some_iff.mp H
        obtain ⟨t146,A80,H⟩:=H
        replace H:(some t146)=some r:=H
        have A8:=Aside0.mk A80
        clear A80
        obtain rfl:=Option.some.inj H
        go_enter Try.func68,Try.ntmps68
        go_wp2_with (first|((with_reducible refine gate_dst (N:=1) rfl ?_);refine box_event ?hg (N:=1) ?hd (cs:=#[.int .i64 a0_0,.int .i64 a0_1,.int .i64 a0_2,.int .i64 a0_3]) (t:=24) ?hr ?_;(case hd=>rfl);(case hg=>rfl);(case hr=>first|(go_simp;done)|(go_simp;rfl));intro gb142 hg w9 hbox hb;have n0_:=Aside0.mk (below_step (by repeat (first|(with_reducible first|exact HB.out|apply below_alloc|apply pw_below_drewN|apply below_drew1)|exact HB.out)) hb);have n1_:=Aside0.mk (hbox);have n2_:=Aside0.mk ((by rw [hg];exact (below_size (by repeat (first|(with_reducible first|exact HB.out|apply below_alloc|apply pw_below_drewN|apply below_drew1)|exact HB.out))):w.heap.size≤gb142));have n3_:=Aside0.mk ((by rw [hg];exact (below_size (by repeat (first|(with_reducible first|exact HB.out|apply below_alloc|apply pw_below_drewN|apply below_drew1)|exact HB.out))):w.heap.size≤gb142));clear HB;have HB:=n0_;have BK142:=n1_;have GW142:=n2_;have GE142:=n3_;clear n0_ n1_ n2_ n3_;clear hb hbox hg;have hcz10_0:w9.cell? ⟨gb142,0,none⟩=some (.int .i64 a0_0):=(blk_cell BK142.out 0).trans rfl;have hcz10_1:w9.cell? ⟨gb142,1,none⟩=some (.int .i64 a0_1):=(blk_cell BK142.out 1).trans rfl;have hcz10_2:w9.cell? ⟨gb142,2,none⟩=some (.int .i64 a0_2):=(blk_cell BK142.out 2).trans rfl;have hcz10_3:w9.cell? ⟨gb142,3,none⟩=some (.int .i64 a0_3):=(blk_cell BK142.out 3).trans rfl;have hfz10_0:=blk_frozen BK142.out 0;have hfz10_1:=blk_frozen BK142.out 1;have hfz10_2:=blk_frozen BK142.out 2;have hfz10_3:=blk_frozen BK142.out 3)|((with_reducible refine gate_callee (f:=67) rfl ?_);refine goesL_ (some 5) rfl rfl Try.func67 (by kernel_rfl) rfl #[.int .i64 a0_0] rfl (by (try simp only [List.map_toArray,List.map_cons,List.map_nil]);first|done|rfl|(simp only [List.length_drop,List.length_take];rfl)) ?_;(with_reducible refine (gimbalref25_Client.calls a0_0 true _ A2.out).mono ?_);rintro e w' ⟨rfl,⟨nd,rfl⟩⟩;refine ⟨_,rfl,?_⟩)|(go_at_call 69;(with_reducible refine (gimbalref25_Sensor.calls a0_1 true _ A4.out).mono ?_);rintro e w' ⟨rfl,⟨nd,rfl⟩⟩)|(go_at_call 70;(with_reducible refine (gimbalref25_in.calls a0_2 1 1000 true _ A6.out).mono ?_);rintro e w' ⟨rfl,⟨nd,rfl⟩⟩)|(go_at_call 70;(with_reducible refine (gimbalref25_in.calls a0_3 0 60000 t146 _ A8.out).mono ?_);rintro e w' ⟨rfl,⟨nd,rfl⟩⟩))
        go_ret
        exact ⟨by first|rfl|(simp [errW_none,errW_some]<;>rfl)|(simp [*,errW_none,errW_some]<;>rfl),by repeat (first|(with_reducible first|exact HB.out|apply below_alloc|apply pw_below_drewN|apply below_drew1|refine below_set ?_ GE142.out)|exact HB.out)⟩
      · replace c7:=Bool.eq_false_iff.mpr c7
        subst c7
        have H1:(some false)=some r:=by rw [if_neg (show ¬ (false=true) by decide)] at H;exact H
        clear H
        have H:=H1
        clear H1
        obtain rfl:=Option.some.inj H
        go_enter Try.func68,Try.ntmps68
        go_wp2_with (first|((with_reducible refine gate_dst (N:=1) rfl ?_);refine box_event ?hg (N:=1) ?hd (cs:=#[.int .i64 a0_0,.int .i64 a0_1,.int .i64 a0_2,.int .i64 a0_3]) (t:=24) ?hr ?_;(case hd=>rfl);(case hg=>rfl);(case hr=>first|(go_simp;done)|(go_simp;rfl));intro gb142 hg w11 hbox hb;have n0_:=Aside0.mk (below_step (by repeat (first|(with_reducible first|exact HB.out|apply below_alloc|apply pw_below_drewN|apply below_drew1)|exact HB.out)) hb);have n1_:=Aside0.mk (hbox);have n2_:=Aside0.mk ((by rw [hg];exact (below_size (by repeat (first|(with_reducible first|exact HB.out|apply below_alloc|apply pw_below_drewN|apply below_drew1)|exact HB.out))):w.heap.size≤gb142));have n3_:=Aside0.mk ((by rw [hg];exact (below_size (by repeat (first|(with_reducible first|exact HB.out|apply below_alloc|apply pw_below_drewN|apply below_drew1)|exact HB.out))):w.heap.size≤gb142));clear HB;have HB:=n0_;have BK142:=n1_;have GW142:=n2_;have GE142:=n3_;clear n0_ n1_ n2_ n3_;clear hb hbox hg;have hcz12_0:w11.cell? ⟨gb142,0,none⟩=some (.int .i64 a0_0):=(blk_cell BK142.out 0).trans rfl;have hcz12_1:w11.cell? ⟨gb142,1,none⟩=some (.int .i64 a0_1):=(blk_cell BK142.out 1).trans rfl;have hcz12_2:w11.cell? ⟨gb142,2,none⟩=some (.int .i64 a0_2):=(blk_cell BK142.out 2).trans rfl;have hcz12_3:w11.cell? ⟨gb142,3,none⟩=some (.int .i64 a0_3):=(blk_cell BK142.out 3).trans rfl;have hfz12_0:=blk_frozen BK142.out 0;have hfz12_1:=blk_frozen BK142.out 1;have hfz12_2:=blk_frozen BK142.out 2;have hfz12_3:=blk_frozen BK142.out 3)|((with_reducible refine gate_callee (f:=67) rfl ?_);refine goesL_ (some 5) rfl rfl Try.func67 (by kernel_rfl) rfl #[.int .i64 a0_0] rfl (by (try simp only [List.map_toArray,List.map_cons,List.map_nil]);first|done|rfl|(simp only [List.length_drop,List.length_take];rfl)) ?_;(with_reducible refine (gimbalref25_Client.calls a0_0 true _ A2.out).mono ?_);rintro e w' ⟨rfl,⟨nd,rfl⟩⟩;refine ⟨_,rfl,?_⟩)|(go_at_call 69;(with_reducible refine (gimbalref25_Sensor.calls a0_1 true _ A4.out).mono ?_);rintro e w' ⟨rfl,⟨nd,rfl⟩⟩)|(go_at_call 70;(with_reducible refine (gimbalref25_in.calls a0_2 1 1000 false _ A6.out).mono ?_);rintro e w' ⟨rfl,⟨nd,rfl⟩⟩))
        go_ret
        exact ⟨by first|rfl|(simp [errW_none,errW_some]<;>rfl)|(simp [*,errW_none,errW_some]<;>rfl),by repeat (first|(with_reducible first|exact HB.out|apply below_alloc|apply pw_below_drewN|apply below_drew1|refine below_set ?_ GE142.out)|exact HB.out)⟩
    · replace c5:=Bool.eq_false_iff.mpr c5
      subst c5
      have H1:(some false)=some r:=by rw [if_neg (show ¬ (false=true) by decide)] at H;exact H
      clear H
      have H:=H1
      clear H1
      obtain rfl:=Option.some.inj H
      go_enter Try.func68,Try.ntmps68
      go_wp2_with (first|((with_reducible refine gate_dst (N:=1) rfl ?_);refine box_event ?hg (N:=1) ?hd (cs:=#[.int .i64 a0_0,.int .i64 a0_1,.int .i64 a0_2,.int .i64 a0_3]) (t:=24) ?hr ?_;(case hd=>rfl);(case hg=>rfl);(case hr=>first|(go_simp;done)|(go_simp;rfl));intro gb142 hg w13 hbox hb;have n0_:=Aside0.mk (below_step (by repeat (first|(with_reducible first|exact HB.out|apply below_alloc|apply pw_below_drewN|apply below_drew1)|exact HB.out)) hb);have n1_:=Aside0.mk (hbox);have n2_:=Aside0.mk ((by rw [hg];exact (below_size (by repeat (first|(with_reducible first|exact HB.out|apply below_alloc|apply pw_below_drewN|apply below_drew1)|exact HB.out))):w.heap.size≤gb142));have n3_:=Aside0.mk ((by rw [hg];exact (below_size (by repeat (first|(with_reducible first|exact HB.out|apply below_alloc|apply pw_below_drewN|apply below_drew1)|exact HB.out))):w.heap.size≤gb142));clear HB;have HB:=n0_;have BK142:=n1_;have GW142:=n2_;have GE142:=n3_;clear n0_ n1_ n2_ n3_;clear hb hbox hg;have hcz14_0:w13.cell? ⟨gb142,0,none⟩=some (.int .i64 a0_0):=(blk_cell BK142.out 0).trans rfl;have hcz14_1:w13.cell? ⟨gb142,1,none⟩=some (.int .i64 a0_1):=(blk_cell BK142.out 1).trans rfl;have hcz14_2:w13.cell? ⟨gb142,2,none⟩=some (.int .i64 a0_2):=(blk_cell BK142.out 2).trans rfl;have hcz14_3:w13.cell? ⟨gb142,3,none⟩=some (.int .i64 a0_3):=(blk_cell BK142.out 3).trans rfl;have hfz14_0:=blk_frozen BK142.out 0;have hfz14_1:=blk_frozen BK142.out 1;have hfz14_2:=blk_frozen BK142.out 2;have hfz14_3:=blk_frozen BK142.out 3)|((with_reducible refine gate_callee (f:=67) rfl ?_);refine goesL_ (some 5) rfl rfl Try.func67 (by kernel_rfl) rfl #[.int .i64 a0_0] rfl (by (try simp only [List.map_toArray,List.map_cons,List.map_nil]);first|done|rfl|(simp only [List.length_drop,List.length_take];rfl)) ?_;(with_reducible refine (gimbalref25_Client.calls a0_0 true _ A2.out).mono ?_);rintro e w' ⟨rfl,⟨nd,rfl⟩⟩;refine ⟨_,rfl,?_⟩)|(go_at_call 69;(with_reducible refine (gimbalref25_Sensor.calls a0_1 false _ A4.out).mono ?_);rintro e w' ⟨rfl,⟨nd,rfl⟩⟩))
      go_ret
      exact ⟨by first|rfl|(simp [errW_none,errW_some]<;>rfl)|(simp [*,errW_none,errW_some]<;>rfl),by repeat (first|(with_reducible first|exact HB.out|apply below_alloc|apply pw_below_drewN|apply below_drew1|refine below_set ?_ GE142.out)|exact HB.out)⟩
  · replace c3:=Bool.eq_false_iff.mpr c3
    subst c3
    have H1:(some false)=some r:=by rw [if_neg (show ¬ (false=true) by decide)] at H;exact H
    clear H
    have H:=H1
    clear H1
    obtain rfl:=Option.some.inj H
    go_enter Try.func68,Try.ntmps68
    go_wp2_with (first|((with_reducible refine gate_dst (N:=1) rfl ?_);refine box_event ?hg (N:=1) ?hd (cs:=#[.int .i64 a0_0,.int .i64 a0_1,.int .i64 a0_2,.int .i64 a0_3]) (t:=24) ?hr ?_;(case hd=>rfl);(case hg=>rfl);(case hr=>first|(go_simp;done)|(go_simp;rfl));intro gb142 hg w15 hbox hb;have n0_:=Aside0.mk (below_step (by repeat (first|(with_reducible first|exact HB.out|apply below_alloc|apply pw_below_drewN|apply below_drew1)|exact HB.out)) hb);have n1_:=Aside0.mk (hbox);have n2_:=Aside0.mk ((by rw [hg];exact (below_size (by repeat (first|(with_reducible first|exact HB.out|apply below_alloc|apply pw_below_drewN|apply below_drew1)|exact HB.out))):w.heap.size≤gb142));have n3_:=Aside0.mk ((by rw [hg];exact (below_size (by repeat (first|(with_reducible first|exact HB.out|apply below_alloc|apply pw_below_drewN|apply below_drew1)|exact HB.out))):w.heap.size≤gb142));clear HB;have HB:=n0_;have BK142:=n1_;have GW142:=n2_;have GE142:=n3_;clear n0_ n1_ n2_ n3_;clear hb hbox hg;have hcz16_0:w15.cell? ⟨gb142,0,none⟩=some (.int .i64 a0_0):=(blk_cell BK142.out 0).trans rfl;have hcz16_1:w15.cell? ⟨gb142,1,none⟩=some (.int .i64 a0_1):=(blk_cell BK142.out 1).trans rfl;have hcz16_2:w15.cell? ⟨gb142,2,none⟩=some (.int .i64 a0_2):=(blk_cell BK142.out 2).trans rfl;have hcz16_3:w15.cell? ⟨gb142,3,none⟩=some (.int .i64 a0_3):=(blk_cell BK142.out 3).trans rfl;have hfz16_0:=blk_frozen BK142.out 0;have hfz16_1:=blk_frozen BK142.out 1;have hfz16_2:=blk_frozen BK142.out 2;have hfz16_3:=blk_frozen BK142.out 3)|((with_reducible refine gate_callee (f:=67) rfl ?_);refine goesL_ (some 5) rfl rfl Try.func67 (by kernel_rfl) rfl #[.int .i64 a0_0] rfl (by (try simp only [List.map_toArray,List.map_cons,List.map_nil]);first|done|rfl|(simp only [List.length_drop,List.length_take];rfl)) ?_;(with_reducible refine (gimbalref25_Client.calls a0_0 false _ A2.out).mono ?_);rintro e w' ⟨rfl,⟨nd,rfl⟩⟩;refine ⟨_,rfl,?_⟩))
    go_ret
    exact ⟨by first|rfl|(simp [errW_none,errW_some]<;>rfl)|(simp [*,errW_none,errW_some]<;>rfl),by repeat (first|(with_reducible first|exact HB.out|apply below_alloc|apply pw_below_drewN|apply below_drew1|refine below_set ?_ GE142.out)|exact HB.out)⟩
def gimbalref25_Encode.f (a0_0:Int) (a0_1:Int) (a0_2:Int) (a0_3:Int) (a0_4:Int) (a0_5:Int) (l0_6:List Int) (a0_7:Int):Option (List Int):=(some (([(a0_7)%256]:List Int):List Int)).bind fun y148=>(if a0_0=1 then ((some (([(a0_2)%256,(a0_3/256)%256,(a0_3)%256,(a0_4/16777216)%256,(a0_4/65536)%256,(a0_4/256)%256,(a0_4)%256]:List Int):List Int)).bind fun y152=>(if y148.length+y152.length<140737488355328 then (some (y148++y152)) else (none))) else (if a0_0=2 then (if y148.length<140737488355328 then (some (y148++[(a0_2)%256])) else (none)) else (if a0_0=4 then (if y148.length<140737488355328 then ((some (y148++[(a0_5)%256]:List Int)).bind fun y161=>(if y161.length+l0_6.length<140737488355328 then (some (y161++l0_6)) else (none))) else (none)) else (if a0_0=5 then (if y148.length<140737488355328 then (some (y148++[(a0_5)%256])) else (none)) else (some y148)))))
def gimbalref25_Encode.T9:Bool × List (List Nat × List Nat):=(true,[([],[]),([],[]),([1],[1]),([2],[2]),([3],[3]),([0,4],[0,4]),([],[]),([6],[6]),([5,7,5],[5,7]),([8,8,0,1,2,3,4,5,6,7,8],[0,8])])
def gimbalref25_Encode.B9:List Nat:=[0,0,2,6,14,31,0,64,255,511]
theorem gimbalref25_Encode.tab9:rtab .any (opsOf Try.f17 9)=gimbalref25_Encode.T9:=by kernel_rfl
theorem gimbalref25_Encode.bits9:waitsOk gimbalref25_Encode.T9.2 gimbalref25_Encode.B9=true:=by kernel_rfl
set_option maxHeartbeats 8000000 in
set_option maxRecDepth 100000 in
theorem gimbalref25_Encode.calls (a0_0:Int) (a0_1:Int) (a0_2:Int) (a0_3:Int) (a0_4:Int) (a0_5:Int) (A0_6:Option Addr) (c0_6:Nat) (l0_6:List Int) (a0_7:Int) (r:List Int) (w:World) (hr0_6:Kd.C (Kd.int .u8) w A0_6 l0_6.length l0_6) (hc0_6:l0_6.length≤c0_6) (h:gimbalref25_Encode.f a0_0 a0_1 a0_2 a0_3 a0_4 a0_5 l0_6 a0_7=some r) :
    Calls Try.prog 17 #[.agg #[.int .i64 a0_0,.int .i64 a0_1,.int .i64 a0_2,.int .i64 a0_3,.int .i64 a0_4,.int .i64 a0_5,.slice A0_6 l0_6.length c0_6,.int .i64 a0_7]] w fun e w'=>∃ v0_:Value,e = .returned (v0_)∧Kd.R (Kd.int .u8) 5 w' w.heap.size (fun _=>True) v0_ r∧Below w.heap.size w w':=by
  have hu27:=Try.underlying27
  have hu24:=Try.underlying24
  have HR0_6:=Aside0.mk hr0_6
  have HC0_6:=Aside0.mk hc0_6
  clear hr0_6 hc0_6
  have HB:=Aside0.mk (Below.refl w.heap.size w)
  have H:((some (([(a0_7)%256]:List Int):List Int)).bind fun y148=>(if a0_0=1 then ((some (([(a0_2)%256,(a0_3/256)%256,(a0_3)%256,(a0_4/16777216)%256,(a0_4/65536)%256,(a0_4/256)%256,(a0_4)%256]:List Int):List Int)).bind fun y152=>(if y148.length+y152.length<140737488355328 then (some (y148++y152)) else (none))) else (if a0_0=2 then (if y148.length<140737488355328 then (some (y148++[(a0_2)%256])) else (none)) else (if a0_0=4 then (if y148.length<140737488355328 then ((some (y148++[(a0_5)%256]:List Int)).bind fun y161=>(if y161.length+l0_6.length<140737488355328 then (some (y161++l0_6)) else (none))) else (none)) else (if a0_0=5 then (if y148.length<140737488355328 then (some (y148++[(a0_5)%256])) else (none)) else (some y148))))))=some r:=h
  clear h
  obtain ⟨y148,hy148⟩:∃ y_:List Int,y_=(([(a0_7)%256]:List Int)):=⟨_,rfl⟩
  replace H:(if a0_0=1 then ((some (([(a0_2)%256,(a0_3/256)%256,(a0_3)%256,(a0_4/16777216)%256,(a0_4/65536)%256,(a0_4/256)%256,(a0_4)%256]:List Int):List Int)).bind fun y152=>(if y148.length+y152.length<140737488355328 then (some (y148++y152)) else (none))) else (if a0_0=2 then (if y148.length<140737488355328 then (some (y148++[(a0_2)%256])) else (none)) else (if a0_0=4 then (if y148.length<140737488355328 then ((some (y148++[(a0_5)%256]:List Int)).bind fun y161=>(if y161.length+l0_6.length<140737488355328 then (some (y161++l0_6)) else (none))) else (none)) else (if a0_0=5 then (if y148.length<140737488355328 then (some (y148++[(a0_5)%256])) else (none)) else (some y148)))))=some r:=by first|(rw [hy148];with_reducible exact H)|(have H2_:=(Option.bind_some _ _).symm.trans H;rw [hy148];with_reducible exact H2_)|(have H2_:=(Option.bind_some _ _).symm.trans H;with_reducible exact H2_)|with_reducible exact H|(rw [hy148];exact H)|exact H
  have Ny148:=Aside0.mk hy148
  clear hy148
  by_cases c2:a0_0=1
  · rw [if_pos c2] at H
    have c2b0:(a0_0 == 1)=true:=beq_iff_eq.mpr c2
    have c2b1:(a0_0 != 1)=false:=bne_eq_false_iff_eq.mpr c2
    clear c2
    obtain ⟨y152,hy152⟩:∃ y_:List Int,y_=(([(a0_2)%256,(a0_3/256)%256,(a0_3)%256,(a0_4/16777216)%256,(a0_4/65536)%256,(a0_4/256)%256,(a0_4)%256]:List Int)):=⟨_,rfl⟩
    replace H:(if y148.length+y152.length<140737488355328 then (some (y148++y152)) else (none))=some r:=by first|(rw [hy152];with_reducible exact H)|(have H2_:=(Option.bind_some _ _).symm.trans H;rw [hy152];with_reducible exact H2_)|(have H2_:=(Option.bind_some _ _).symm.trans H;with_reducible exact H2_)|with_reducible exact H|(rw [hy152];exact H)|exact H
    have Ny152:=Aside0.mk hy152
    clear hy152
    by_cases c3:y148.length+y152.length<140737488355328
    · rw [if_pos c3] at H
      have LMc3:=Aside0.mk c3
      clear c3
      obtain ⟨y155,hy155⟩:∃ y_:List Int,y_=(y148++y152):=⟨_,rfl⟩
      replace H:(some y155)=some r:=by first|(rw [hy155];with_reducible exact H)|(have H2_:=(Option.bind_some _ _).symm.trans H;rw [hy155];with_reducible exact H2_)|(have H2_:=(Option.bind_some _ _).symm.trans H;with_reducible exact H2_)|with_reducible exact H|(rw [hy155];exact H)|exact H
      have Ny155:=Aside0.mk hy155
      clear hy155
      obtain rfl:=Option.some.inj H
      go_enter Try.func17,Try.ntmps17
      go_wp2_with (first|((with_reducible refine gate_dst (N:=1) rfl ?_);refine box_event ?hg (N:=1) ?hd (cs:=#[.int .i64 a0_0,.int .i64 a0_1,.int .i64 a0_2,.int .i64 a0_3,.int .i64 a0_4,.int .i64 a0_5,.slice A0_6 l0_6.length c0_6,.int .i64 a0_7]) (t:=27) ?hr ?_;(case hd=>rfl);(case hg=>rfl);(case hr=>first|(go_simp;done)|(go_simp;rfl));intro gb147 hg w4 hbox hb;have n0_:=Aside0.mk (below_step (by repeat (first|(with_reducible first|exact HB.out|apply below_alloc|apply pw_below_drewN|apply below_drew1)|exact HB.out)) hb);have n1_:=Aside0.mk (hbox);have n2_:=Aside0.mk ((by rw [hg];exact (below_size (by repeat (first|(with_reducible first|exact HB.out|apply below_alloc|apply pw_below_drewN|apply below_drew1)|exact HB.out))):w.heap.size≤gb147));have n3_:=Aside0.mk ((by rw [hg];exact (below_size (by repeat (first|(with_reducible first|exact HB.out|apply below_alloc|apply pw_below_drewN|apply below_drew1)|exact HB.out))):w.heap.size≤gb147));clear HB;have HB:=n0_;have BK147:=n1_;have GW147:=n2_;have GE147:=n3_;clear n0_ n1_ n2_ n3_;clear hb hbox hg;have hcz5_0:w4.cell? ⟨gb147,0,none⟩=some (.int .i64 a0_0):=(blk_cell BK147.out 0).trans rfl;have hcz5_1:w4.cell? ⟨gb147,1,none⟩=some (.int .i64 a0_1):=(blk_cell BK147.out 1).trans rfl;have hcz5_2:w4.cell? ⟨gb147,2,none⟩=some (.int .i64 a0_2):=(blk_cell BK147.out 2).trans rfl;have hcz5_3:w4.cell? ⟨gb147,3,none⟩=some (.int .i64 a0_3):=(blk_cell BK147.out 3).trans rfl;have hcz5_4:w4.cell? ⟨gb147,4,none⟩=some (.int .i64 a0_4):=(blk_cell BK147.out 4).trans rfl;have hcz5_5:w4.cell? ⟨gb147,5,none⟩=some (.int .i64 a0_5):=(blk_cell BK147.out 5).trans rfl;have hcz5_6:w4.cell? ⟨gb147,6,none⟩=some (.slice A0_6 l0_6.length c0_6):=(blk_cell BK147.out 6).trans rfl;have hcz5_7:w4.cell? ⟨gb147,7,none⟩=some (.int .i64 a0_7):=(blk_cell BK147.out 7).trans rfl;have hfz5_0:=blk_frozen BK147.out 0;have hfz5_1:=blk_frozen BK147.out 1;have hfz5_2:=blk_frozen BK147.out 2;have hfz5_3:=blk_frozen BK147.out 3;have hfz5_4:=blk_frozen BK147.out 4;have hfz5_5:=blk_frozen BK147.out 5;have hfz5_6:=blk_frozen BK147.out 6;have hfz5_7:=blk_frozen BK147.out 7)|((with_reducible refine gate_dst (N:=8) rfl ?_);refine Kd.R_lit (Kd.int .u8) _ 5 ?hg (N:=8) ?hd (xs:=([(a0_7)%256]:List Int)) (inner:=[.int .u8 ((a0_7)%256)]) (ok:=fun _=>True) (okp:=fun _=>True) ?hr ?hp (fun _ hk=>hk) trivial (Below.refl _ _) (Nat.le_refl _) (by simp) ?_;(case hd=>rfl);(case hg=>rfl);(case hr=>first|(go_simp;done)|(go_simp;rfl));(case hp=>exact (Reps.one (show Kd.M (Kd.int .u8) _ _ _ ((a0_7)%256) [.int .u8 ((a0_7)%256)] from rfl) (Reps.none _ _)));intro v149 w6 ho7 hb hg_ hnew_;clear hg_ hnew_;(first|rw [← Ny148.out] at ho7|(simp only [Int.reduceToNat] at ho7;rw [← Ny148.out] at ho7));have n0_:=Aside0.mk (Kd.R_lower ho7 (below_size (by repeat (first|(with_reducible first|exact HB.out|apply below_alloc|apply pw_below_drewN|apply below_drew1|refine below_set ?_ GE147.out)|exact HB.out))));have n1_:=Aside0.mk (blk_below (g:=gb147) (o := .cells #[.int .i64 a0_0,.int .i64 a0_1,.int .i64 a0_2,.int .i64 a0_3,.int .i64 a0_4,.int .i64 a0_5,.slice A0_6 l0_6.length c0_6,.int .i64 a0_7] 27 (0,0)) (by (with_reducible repeat (first|refine blk_drewN ?_ _|refine blk_drew ?_|refine blk_alloc ?_ _));exact BK147.out) hb);have n2_:=Aside0.mk (below_step (by repeat (first|(with_reducible first|exact HB.out|apply below_alloc|apply pw_below_drewN|apply below_drew1|refine below_set ?_ GE147.out)|exact HB.out)) hb);clear BK147;clear HB;have HO150:=n0_;have BK147:=n1_;have HB:=n2_;clear n0_ n1_ n2_;clear hb ho7;have hcz8_0:w6.cell? ⟨gb147,0,none⟩=some (.int .i64 a0_0):=(blk_cell BK147.out 0).trans rfl;have hcz8_1:w6.cell? ⟨gb147,1,none⟩=some (.int .i64 a0_1):=(blk_cell BK147.out 1).trans rfl;have hcz8_2:w6.cell? ⟨gb147,2,none⟩=some (.int .i64 a0_2):=(blk_cell BK147.out 2).trans rfl;have hcz8_3:w6.cell? ⟨gb147,3,none⟩=some (.int .i64 a0_3):=(blk_cell BK147.out 3).trans rfl;have hcz8_4:w6.cell? ⟨gb147,4,none⟩=some (.int .i64 a0_4):=(blk_cell BK147.out 4).trans rfl;have hcz8_5:w6.cell? ⟨gb147,5,none⟩=some (.int .i64 a0_5):=(blk_cell BK147.out 5).trans rfl;have hcz8_6:w6.cell? ⟨gb147,6,none⟩=some (.slice A0_6 l0_6.length c0_6):=(blk_cell BK147.out 6).trans rfl;have hcz8_7:w6.cell? ⟨gb147,7,none⟩=some (.int .i64 a0_7):=(blk_cell BK147.out 7).trans rfl;have hfz8_0:=blk_frozen BK147.out 0;have hfz8_1:=blk_frozen BK147.out 1;have hfz8_2:=blk_frozen BK147.out 2;have hfz8_3:=blk_frozen BK147.out 3;have hfz8_4:=blk_frozen BK147.out 4;have hfz8_5:=blk_frozen BK147.out 5;have hfz8_6:=blk_frozen BK147.out 6;have hfz8_7:=blk_frozen BK147.out 7)|((with_reducible refine gate_dst (N:=4) rfl ?_);refine box_event ?hg (N:=4) ?hd (cs:=#[.int .i64 0,.int .i64 0,.int .i64 0,.int .i64 0]) (t:=24) ?hr ?_;(case hd=>rfl);(case hg=>rfl);(case hr=>first|(go_simp;done)|(go_simp;rfl));intro gb151 hg w9 hbox hb;have n0_:=Aside0.mk (Kd.R_below (by (with_reducible repeat (first|apply Kd.R_alloc|apply Kd.R_drewN|apply Kd.R_drew));exact HO150.out) hb);have n1_:=Aside0.mk (blk_below (g:=gb147) (o := .cells #[.int .i64 a0_0,.int .i64 a0_1,.int .i64 a0_2,.int .i64 a0_3,.int .i64 a0_4,.int .i64 a0_5,.slice A0_6 l0_6.length c0_6,.int .i64 a0_7] 27 (0,0)) (by (with_reducible repeat (first|refine blk_drewN ?_ _|refine blk_drew ?_|refine blk_alloc ?_ _));exact BK147.out) hb);have n2_:=Aside0.mk (below_step (by repeat (first|(with_reducible first|exact HB.out|apply below_alloc|apply pw_below_drewN|apply below_drew1|refine below_set ?_ GE147.out)|exact HB.out)) hb);have n3_:=Aside0.mk (hbox);have n4_:=Aside0.mk ((by rw [hg];exact (below_size (by repeat (first|(with_reducible first|exact HB.out|apply below_alloc|apply pw_below_drewN|apply below_drew1|refine below_set ?_ GE147.out)|exact HB.out))):w.heap.size≤gb151));have n5_:=Aside0.mk ((by rw [hg];exact (below_size (by repeat (first|(with_reducible first|exact HB.out|apply below_alloc|apply pw_below_drewN|apply below_drew1|refine below_set ?_ GE147.out)|exact HB.out))):w.heap.size≤gb151));have n6_:=Aside0.mk ((by rw [hg];exact Nat.ne_of_lt (blk_lt (g:=gb147) (o := .cells #[.int .i64 a0_0,.int .i64 a0_1,.int .i64 a0_2,.int .i64 a0_3,.int .i64 a0_4,.int .i64 a0_5,.slice A0_6 l0_6.length c0_6,.int .i64 a0_7] 27 (0,0)) (by (with_reducible repeat (first|refine blk_drewN ?_ _|refine blk_drew ?_|refine blk_alloc ?_ _));exact BK147.out)):gb147≠gb151));have n7_:=Aside0.mk ((by rw [hg];exact Nat.ne_of_gt (blk_lt (g:=gb147) (o := .cells #[.int .i64 a0_0,.int .i64 a0_1,.int .i64 a0_2,.int .i64 a0_3,.int .i64 a0_4,.int .i64 a0_5,.slice A0_6 l0_6.length c0_6,.int .i64 a0_7] 27 (0,0)) (by (with_reducible repeat (first|refine blk_drewN ?_ _|refine blk_drew ?_|refine blk_alloc ?_ _));exact BK147.out)):gb151≠gb147));clear HO150;clear BK147;clear HB;have HO150:=n0_;have BK147:=n1_;have HB:=n2_;have BK151:=n3_;have GW151:=n4_;have GE151:=n5_;have NB147_151:=n6_;have NB151_147:=n7_;clear n0_ n1_ n2_ n3_ n4_ n5_ n6_ n7_;clear hb hbox hg;have hnb10:=NB151_147.out;have hnc10:=NB147_151.out;have hcz11_0:w9.cell? ⟨gb151,0,none⟩=some (.int .i64 0):=(blk_cell BK151.out 0).trans rfl;have hcz11_1:w9.cell? ⟨gb151,1,none⟩=some (.int .i64 0):=(blk_cell BK151.out 1).trans rfl;have hcz11_2:w9.cell? ⟨gb151,2,none⟩=some (.int .i64 0):=(blk_cell BK151.out 2).trans rfl;have hcz11_3:w9.cell? ⟨gb151,3,none⟩=some (.int .i64 0):=(blk_cell BK151.out 3).trans rfl;have hfz11_0:=blk_frozen BK151.out 0;have hfz11_1:=blk_frozen BK151.out 1;have hfz11_2:=blk_frozen BK151.out 2;have hfz11_3:=blk_frozen BK151.out 3)|((with_reducible refine gate_dst (N:=41) rfl ?_);refine Kd.R_lit (Kd.int .u8) _ 5 ?hg (N:=41) ?hd (xs:=([(a0_2)%256,(a0_3/256)%256,(a0_3)%256,(a0_4/16777216)%256,(a0_4/65536)%256,(a0_4/256)%256,(a0_4)%256]:List Int)) (inner:=[.int .u8 ((a0_2)%256),.int .u8 ((a0_3/256)%256),.int .u8 ((a0_3)%256),.int .u8 ((a0_4/16777216)%256),.int .u8 ((a0_4/65536)%256),.int .u8 ((a0_4/256)%256),.int .u8 ((a0_4)%256)]) (ok:=fun _=>True) (okp:=fun _=>True) ?hr ?hp (fun _ hk=>hk) trivial (Below.refl _ _) (Nat.le_refl _) (by simp) ?_;(case hd=>rfl);(case hg=>rfl);(case hr=>first|(go_simp;done)|(go_simp;rfl));(case hp=>exact (Reps.one (show Kd.M (Kd.int .u8) _ _ _ ((a0_2)%256) [.int .u8 ((a0_2)%256)] from rfl) (Reps.one (show Kd.M (Kd.int .u8) _ _ _ ((a0_3/256)%256) [.int .u8 ((a0_3/256)%256)] from rfl) (Reps.one (show Kd.M (Kd.int .u8) _ _ _ ((a0_3)%256) [.int .u8 ((a0_3)%256)] from rfl) (Reps.one (show Kd.M (Kd.int .u8) _ _ _ ((a0_4/16777216)%256) [.int .u8 ((a0_4/16777216)%256)] from rfl) (Reps.one (show Kd.M (Kd.int .u8) _ _ _ ((a0_4/65536)%256) [.int .u8 ((a0_4/65536)%256)] from rfl) (Reps.one (show Kd.M (Kd.int .u8) _ _ _ ((a0_4/256)%256) [.int .u8 ((a0_4/256)%256)] from rfl) (Reps.one (show Kd.M (Kd.int .u8) _ _ _ ((a0_4)%256) [.int .u8 ((a0_4)%256)] from rfl) (Reps.none _ _)))))))));intro v153 w12 ho13 hb hg_ hnew_;clear hg_ hnew_;(first|rw [← Ny152.out] at ho13|(simp only [Int.reduceToNat] at ho13;rw [← Ny152.out] at ho13));have n0_:=Aside0.mk (Kd.R_elder' (by (with_reducible repeat (first|apply Kd.R_alloc|apply Kd.R_drewN|apply Kd.R_drew));exact (Kd.R_mono (Kd.R_far (p:=⟨gb151,3,none⟩) (Kd.R_far (p:=⟨gb151,2,none⟩) (Kd.R_far (p:=⟨gb151,1,none⟩) (Kd.R_far (p:=⟨gb151,0,none⟩) (Kd.R_types HO150.out BK151.out (by decide)) (fun _ hk=>hk.2) (.int .i64 a0_1)) (fun _ hk=>hk.2) (.int .i64 a0_2)) (fun _ hk=>hk.2) (.int .i64 a0_3)) (fun _ hk=>hk.2) (.int .i64 a0_4)) (fun _ h_=>h_.1))) (Kd.R_base ho13) hb);have n1_:=Aside0.mk (Kd.R_lower (Kd.R_new' ho13 (Kd.R_lt (by (with_reducible repeat (first|apply Kd.R_alloc|apply Kd.R_drewN|apply Kd.R_drew));exact (Kd.R_mono (Kd.R_far (p:=⟨gb151,3,none⟩) (Kd.R_far (p:=⟨gb151,2,none⟩) (Kd.R_far (p:=⟨gb151,1,none⟩) (Kd.R_far (p:=⟨gb151,0,none⟩) (Kd.R_types HO150.out BK151.out (by decide)) (fun _ hk=>hk.2) (.int .i64 a0_1)) (fun _ hk=>hk.2) (.int .i64 a0_2)) (fun _ hk=>hk.2) (.int .i64 a0_3)) (fun _ hk=>hk.2) (.int .i64 a0_4)) (fun _ h_=>h_.1))))) (below_size (by repeat (first|(with_reducible first|exact HB.out|apply below_alloc|apply pw_below_drewN|apply below_drew1|refine below_set ?_ GE147.out|refine below_set ?_ GE151.out)|exact HB.out))));have n2_:=Aside0.mk (blk_below (g:=gb147) (o := .cells #[.int .i64 a0_0,.int .i64 a0_1,.int .i64 a0_2,.int .i64 a0_3,.int .i64 a0_4,.int .i64 a0_5,.slice A0_6 l0_6.length c0_6,.int .i64 a0_7] 27 (0,0)) (by (with_reducible repeat (first|refine blk_drewN ?_ _|refine blk_drew ?_|refine blk_alloc ?_ _));refine blk_far ?_ NB147_151.out _;(with_reducible repeat (first|refine blk_drewN ?_ _|refine blk_drew ?_|refine blk_alloc ?_ _));refine blk_far ?_ NB147_151.out _;(with_reducible repeat (first|refine blk_drewN ?_ _|refine blk_drew ?_|refine blk_alloc ?_ _));refine blk_far ?_ NB147_151.out _;(with_reducible repeat (first|refine blk_drewN ?_ _|refine blk_drew ?_|refine blk_alloc ?_ _));refine blk_far ?_ NB147_151.out _;(with_reducible repeat (first|refine blk_drewN ?_ _|refine blk_drew ?_|refine blk_alloc ?_ _));exact BK147.out) hb);have n3_:=Aside0.mk (blk_below (g:=gb151) (o := .cells #[.int .i64 a0_1,.int .i64 a0_2,.int .i64 a0_3,.int .i64 a0_4] 24 (0,0)) (by (with_reducible repeat (first|refine blk_drewN ?_ _|refine blk_drew ?_|refine blk_alloc ?_ _));refine blk_put (cs:=#[.int .i64 a0_1,.int .i64 a0_2,.int .i64 a0_3,.int .i64 0]) ?_ 3 _ rfl;(with_reducible repeat (first|refine blk_drewN ?_ _|refine blk_drew ?_|refine blk_alloc ?_ _));refine blk_put (cs:=#[.int .i64 a0_1,.int .i64 a0_2,.int .i64 0,.int .i64 0]) ?_ 2 _ rfl;(with_reducible repeat (first|refine blk_drewN ?_ _|refine blk_drew ?_|refine blk_alloc ?_ _));refine blk_put (cs:=#[.int .i64 a0_1,.int .i64 0,.int .i64 0,.int .i64 0]) ?_ 1 _ rfl;(with_reducible repeat (first|refine blk_drewN ?_ _|refine blk_drew ?_|refine blk_alloc ?_ _));refine blk_put (cs:=#[.int .i64 0,.int .i64 0,.int .i64 0,.int .i64 0]) ?_ 0 _ rfl;(with_reducible repeat (first|refine blk_drewN ?_ _|refine blk_drew ?_|refine blk_alloc ?_ _));exact BK151.out) hb);have n4_:=Aside0.mk (below_step (by repeat (first|(with_reducible first|exact HB.out|apply below_alloc|apply pw_below_drewN|apply below_drew1|refine below_set ?_ GE147.out|refine below_set ?_ GE151.out)|exact HB.out)) hb);clear HO150;clear BK147;clear BK151;clear HB;have HO150:=n0_;have HO154:=n1_;have BK147:=n2_;have BK151:=n3_;have HB:=n4_;clear n0_ n1_ n2_ n3_ n4_;clear hb ho13;obtain ⟨Ao15,co15,eo15⟩:=Kd.R_slice HO154.out;subst eo15)|((with_reducible refine gate_builtin (b := .append) (xs:=#[.tmp 15,.tmp 41]) rfl ?_);at_builtin;refine Kd.R_append_rows (Kd.int .u8) (w0:=w) w.heap.size rfl (.tmp 15) (.tmp 41) 25 5 (.int .u8 0) 1 rfl Try.underlying25 info5 rfl (by decide) (by omega) v149 y148 y152 _ _ _ (fun k_=>some k_≠(.slice Ao15 y152.length co15:Value).ownBlock) (fun _=>False) rfl rfl ?aO ?aR (fun _ _ h=>h) (fun _ h=>h.elim) ?aF ?aB ?aS ?aL ?_;(case aR=>repeat (first|exact (Kd.R_reads' HO154.out).2.2|(with_reducible refine Kd.C_alloc ?_ _)|(with_reducible refine Kd.C_drewN ?_ _)|(with_reducible refine Kd.C_drew ?_)));(case aB=>exact (by repeat (first|(with_reducible first|exact HB.out|apply below_alloc|apply pw_below_drewN|apply below_drew1|refine below_set ?_ GE147.out|refine below_set ?_ GE151.out)|exact HB.out)));(case aF=>exact (fun k_ hk=>Kd.fresh' (Kd.R_lt (by (with_reducible repeat (first|apply Kd.R_alloc|apply Kd.R_drewN|apply Kd.R_drew));exact HO154.out)) k_ hk));(case aO=>exact (by (with_reducible repeat (first|apply Kd.R_alloc|apply Kd.R_drewN|apply Kd.R_drew));exact Kd.R_mono HO150.out (fun _ hk=>hk.2)));(case aS=>exact (below_size (by repeat (first|(with_reducible first|exact HB.out|apply below_alloc|apply pw_below_drewN|apply below_drew1|refine below_set ?_ GE147.out|refine below_set ?_ GE151.out)|exact HB.out))));(case aL=>have:=LMc3.out;omega);intro v156 w14 ho hb hg hat;rw [← Ny155.out] at ho;have n0_:=Aside0.mk (blk_grown (g:=gb147) (o := .cells #[.int .i64 a0_0,.int .i64 a0_1,.int .i64 a0_2,.int .i64 a0_3,.int .i64 a0_4,.int .i64 a0_5,.slice A0_6 l0_6.length c0_6,.int .i64 a0_7] 27 (0,0)) (by (with_reducible repeat (first|refine blk_drewN ?_ _|refine blk_drew ?_|refine blk_alloc ?_ _));exact BK147.out) hg (Kd.R_ne HO150.out BK147.out (by decide)));have n1_:=Aside0.mk (blk_grown (g:=gb151) (o := .cells #[.int .i64 a0_1,.int .i64 a0_2,.int .i64 a0_3,.int .i64 a0_4] 24 (0,0)) (by (with_reducible repeat (first|refine blk_drewN ?_ _|refine blk_drew ?_|refine blk_alloc ?_ _));exact BK151.out) hg (Kd.R_ne HO150.out BK151.out (by decide)));have n2_:=Aside0.mk (Kd.R_after (ok:=(fun _=>True)) (by (with_reducible repeat (first|apply Kd.R_alloc|apply Kd.R_drewN|apply Kd.R_drew));exact HO154.out) hg hat);have n3_:=Aside0.mk (hb);have n4_:=Aside0.mk (ho);clear BK147;clear BK151;clear HO154;clear HB;clear HO150;have BK147:=n0_;have BK151:=n1_;have HO154:=n2_;have HB:=n3_;have HO157:=n4_;clear n0_ n1_ n2_ n3_ n4_;clear ho hb hg hat))
      go_ret
      exact ⟨_,by first|rfl|(simp [errW_none,errW_some]<;>rfl)|(simp [*,errW_none,errW_some]<;>rfl),by (with_reducible repeat (first|apply Kd.R_alloc|apply Kd.R_drewN|apply Kd.R_drew));exact Kd.R_mono HO157.out (fun _ hk=>trivial),by repeat (first|(with_reducible first|exact HB.out|apply below_alloc|apply pw_below_drewN|apply below_drew1|refine below_set ?_ GE147.out|refine below_set ?_ GE151.out)|exact HB.out)⟩
    · rw [if_neg c3] at H
      exact absurd H (by simp)
  · rw [if_neg c2] at H
    have c2b0:(a0_0 == 1)=false:=beq_eq_false_iff_ne.mpr c2
    have c2b1:(a0_0 != 1)=true:=bne_iff_ne.mpr c2
    by_cases c16:a0_0=2
    · rw [if_pos c16] at H
      have c16b0:(a0_0 == 2)=true:=beq_iff_eq.mpr c16
      have c16b1:(a0_0 != 2)=false:=bne_eq_false_iff_eq.mpr c16
      clear c16
      by_cases c17:y148.length<140737488355328
      · rw [if_pos c17] at H
        have LMc17:=Aside0.mk c17
        clear c17
        obtain ⟨y158,hy158⟩:∃ y_:List Int,y_=(y148++[(a0_2)%256]):=⟨_,rfl⟩
        replace H:(some y158)=some r:=by first|(rw [hy158];with_reducible exact H)|(have H2_:=(Option.bind_some _ _).symm.trans H;rw [hy158];with_reducible exact H2_)|(have H2_:=(Option.bind_some _ _).symm.trans H;with_reducible exact H2_)|with_reducible exact H|(rw [hy158];exact H)|exact H
        have Ny158:=Aside0.mk hy158
        clear hy158
        obtain rfl:=Option.some.inj H
        go_enter Try.func17,Try.ntmps17
        go_wp2_with (first|((with_reducible refine gate_dst (N:=1) rfl ?_);refine box_event ?hg (N:=1) ?hd (cs:=#[.int .i64 a0_0,.int .i64 a0_1,.int .i64 a0_2,.int .i64 a0_3,.int .i64 a0_4,.int .i64 a0_5,.slice A0_6 l0_6.length c0_6,.int .i64 a0_7]) (t:=27) ?hr ?_;(case hd=>rfl);(case hg=>rfl);(case hr=>first|(go_simp;done)|(go_simp;rfl));intro gb147 hg w18 hbox hb;have n0_:=Aside0.mk (below_step (by repeat (first|(with_reducible first|exact HB.out|apply below_alloc|apply pw_below_drewN|apply below_drew1)|exact HB.out)) hb);have n1_:=Aside0.mk (hbox);have n2_:=Aside0.mk ((by rw [hg];exact (below_size (by repeat (first|(with_reducible first|exact HB.out|apply below_alloc|apply pw_below_drewN|apply below_drew1)|exact HB.out))):w.heap.size≤gb147));have n3_:=Aside0.mk ((by rw [hg];exact (below_size (by repeat (first|(with_reducible first|exact HB.out|apply below_alloc|apply pw_below_drewN|apply below_drew1)|exact HB.out))):w.heap.size≤gb147));clear HB;have HB:=n0_;have BK147:=n1_;have GW147:=n2_;have GE147:=n3_;clear n0_ n1_ n2_ n3_;clear hb hbox hg;have hcz19_0:w18.cell? ⟨gb147,0,none⟩=some (.int .i64 a0_0):=(blk_cell BK147.out 0).trans rfl;have hcz19_1:w18.cell? ⟨gb147,1,none⟩=some (.int .i64 a0_1):=(blk_cell BK147.out 1).trans rfl;have hcz19_2:w18.cell? ⟨gb147,2,none⟩=some (.int .i64 a0_2):=(blk_cell BK147.out 2).trans rfl;have hcz19_3:w18.cell? ⟨gb147,3,none⟩=some (.int .i64 a0_3):=(blk_cell BK147.out 3).trans rfl;have hcz19_4:w18.cell? ⟨gb147,4,none⟩=some (.int .i64 a0_4):=(blk_cell BK147.out 4).trans rfl;have hcz19_5:w18.cell? ⟨gb147,5,none⟩=some (.int .i64 a0_5):=(blk_cell BK147.out 5).trans rfl;have hcz19_6:w18.cell? ⟨gb147,6,none⟩=some (.slice A0_6 l0_6.length c0_6):=(blk_cell BK147.out 6).trans rfl;have hcz19_7:w18.cell? ⟨gb147,7,none⟩=some (.int .i64 a0_7):=(blk_cell BK147.out 7).trans rfl;have hfz19_0:=blk_frozen BK147.out 0;have hfz19_1:=blk_frozen BK147.out 1;have hfz19_2:=blk_frozen BK147.out 2;have hfz19_3:=blk_frozen BK147.out 3;have hfz19_4:=blk_frozen BK147.out 4;have hfz19_5:=blk_frozen BK147.out 5;have hfz19_6:=blk_frozen BK147.out 6;have hfz19_7:=blk_frozen BK147.out 7)|((with_reducible refine gate_dst (N:=8) rfl ?_);refine Kd.R_lit (Kd.int .u8) _ 5 ?hg (N:=8) ?hd (xs:=([(a0_7)%256]:List Int)) (inner:=[.int .u8 ((a0_7)%256)]) (ok:=fun _=>True) (okp:=fun _=>True) ?hr ?hp (fun _ hk=>hk) trivial (Below.refl _ _) (Nat.le_refl _) (by simp) ?_;(case hd=>rfl);(case hg=>rfl);(case hr=>first|(go_simp;done)|(go_simp;rfl));(case hp=>exact (Reps.one (show Kd.M (Kd.int .u8) _ _ _ ((a0_7)%256) [.int .u8 ((a0_7)%256)] from rfl) (Reps.none _ _)));intro v149 w20 ho21 hb hg_ hnew_;clear hg_ hnew_;(first|rw [← Ny148.out] at ho21|(simp only [Int.reduceToNat] at ho21;rw [← Ny148.out] at ho21));have n0_:=Aside0.mk (Kd.R_lower ho21 (below_size (by repeat (first|(with_reducible first|exact HB.out|apply below_alloc|apply pw_below_drewN|apply below_drew1|refine below_set ?_ GE147.out)|exact HB.out))));have n1_:=Aside0.mk (blk_below (g:=gb147) (o := .cells #[.int .i64 a0_0,.int .i64 a0_1,.int .i64 a0_2,.int .i64 a0_3,.int .i64 a0_4,.int .i64 a0_5,.slice A0_6 l0_6.length c0_6,.int .i64 a0_7] 27 (0,0)) (by (with_reducible repeat (first|refine blk_drewN ?_ _|refine blk_drew ?_|refine blk_alloc ?_ _));exact BK147.out) hb);have n2_:=Aside0.mk (below_step (by repeat (first|(with_reducible first|exact HB.out|apply below_alloc|apply pw_below_drewN|apply below_drew1|refine below_set ?_ GE147.out)|exact HB.out)) hb);clear BK147;clear HB;have HO150:=n0_;have BK147:=n1_;have HB:=n2_;clear n0_ n1_ n2_;clear hb ho21;have hcz22_0:w20.cell? ⟨gb147,0,none⟩=some (.int .i64 a0_0):=(blk_cell BK147.out 0).trans rfl;have hcz22_1:w20.cell? ⟨gb147,1,none⟩=some (.int .i64 a0_1):=(blk_cell BK147.out 1).trans rfl;have hcz22_2:w20.cell? ⟨gb147,2,none⟩=some (.int .i64 a0_2):=(blk_cell BK147.out 2).trans rfl;have hcz22_3:w20.cell? ⟨gb147,3,none⟩=some (.int .i64 a0_3):=(blk_cell BK147.out 3).trans rfl;have hcz22_4:w20.cell? ⟨gb147,4,none⟩=some (.int .i64 a0_4):=(blk_cell BK147.out 4).trans rfl;have hcz22_5:w20.cell? ⟨gb147,5,none⟩=some (.int .i64 a0_5):=(blk_cell BK147.out 5).trans rfl;have hcz22_6:w20.cell? ⟨gb147,6,none⟩=some (.slice A0_6 l0_6.length c0_6):=(blk_cell BK147.out 6).trans rfl;have hcz22_7:w20.cell? ⟨gb147,7,none⟩=some (.int .i64 a0_7):=(blk_cell BK147.out 7).trans rfl;have hfz22_0:=blk_frozen BK147.out 0;have hfz22_1:=blk_frozen BK147.out 1;have hfz22_2:=blk_frozen BK147.out 2;have hfz22_3:=blk_frozen BK147.out 3;have hfz22_4:=blk_frozen BK147.out 4;have hfz22_5:=blk_frozen BK147.out 5;have hfz22_6:=blk_frozen BK147.out 6;have hfz22_7:=blk_frozen BK147.out 7)|((with_reducible refine gate_builtin (b := .append) (xs:=#[.tmp 45,.tmp 50]) rfl ?_);at_builtin;refine Kd.R_append (Kd.int .u8) (w0:=w) w.heap.size rfl (.tmp 45) (.tmp 50) 25 5 (.int .u8 0) 1 rfl Try.underlying25 info5 rfl (by decide) (by omega) v149 y148 ((a0_2)%256) [.int .u8 ((a0_2)%256)] (fun _=>True) (fun _=>False) rfl rfl ?aP (fun _ hk=>hk.elim) ?aF ?aO ?aB ?aS ?aL ?_;(case aP=>exact rfl);(case aB=>exact (by repeat (first|(with_reducible first|exact HB.out|apply below_alloc|apply pw_below_drewN|apply below_drew1|refine below_set ?_ GE147.out)|exact HB.out)));(case aF=>exact (fun _ _=>trivial));(case aO=>exact (by (with_reducible repeat (first|apply Kd.R_alloc|apply Kd.R_drewN|apply Kd.R_drew));exact HO150.out));(case aS=>exact (below_size (by repeat (first|(with_reducible first|exact HB.out|apply below_alloc|apply pw_below_drewN|apply below_drew1|refine below_set ?_ GE147.out)|exact HB.out))));(case aL=>have:=LMc17.out;omega);intro v159 w23 ho hb hg hat;rw [← Ny158.out] at ho;have n0_:=Aside0.mk (blk_grown (g:=gb147) (o := .cells #[.int .i64 a0_0,.int .i64 a0_1,.int .i64 a0_2,.int .i64 a0_3,.int .i64 a0_4,.int .i64 a0_5,.slice A0_6 l0_6.length c0_6,.int .i64 a0_7] 27 (0,0)) (by (with_reducible repeat (first|refine blk_drewN ?_ _|refine blk_drew ?_|refine blk_alloc ?_ _));exact BK147.out) hg (Kd.R_ne HO150.out BK147.out (by decide)));have n1_:=Aside0.mk (hb);have n2_:=Aside0.mk (ho);clear BK147;clear HB;clear HO150;have BK147:=n0_;have HB:=n1_;have HO160:=n2_;clear n0_ n1_ n2_;clear ho hb hg hat))
        go_ret
        exact ⟨_,by first|rfl|(simp [errW_none,errW_some]<;>rfl)|(simp [*,errW_none,errW_some]<;>rfl),by (with_reducible repeat (first|apply Kd.R_alloc|apply Kd.R_drewN|apply Kd.R_drew));exact HO160.out,by repeat (first|(with_reducible first|exact HB.out|apply below_alloc|apply pw_below_drewN|apply below_drew1|refine below_set ?_ GE147.out)|exact HB.out)⟩
      · rw [if_neg c17] at H
        exact absurd H (by simp)
    · rw [if_neg c16] at H
      have c16b0:(a0_0 == 2)=false:=beq_eq_false_iff_ne.mpr c16
      have c16b1:(a0_0 != 2)=true:=bne_iff_ne.mpr c16
      by_cases c24:a0_0=4
      · rw [if_pos c24] at H
        have c24b0:(a0_0 == 4)=true:=beq_iff_eq.mpr c24
        have c24b1:(a0_0 != 4)=false:=bne_eq_false_iff_eq.mpr c24
        clear c24
        by_cases c25:y148.length<140737488355328
        · rw [if_pos c25] at H
          have LMc25:=Aside0.mk c25
          clear c25
          obtain ⟨y161,hy161⟩:∃ y_:List Int,y_=(y148++[(a0_5)%256]):=⟨_,rfl⟩
          replace H:(if y161.length+l0_6.length<140737488355328 then (some (y161++l0_6)) else (none))=some r:=by first|(rw [hy161];with_reducible exact H)|(have H2_:=(Option.bind_some _ _).symm.trans H;rw [hy161];with_reducible exact H2_)|(have H2_:=(Option.bind_some _ _).symm.trans H;with_reducible exact H2_)|with_reducible exact H|(rw [hy161];exact H)|exact H
          have Ny161:=Aside0.mk hy161
          clear hy161
          by_cases c26:y161.length+l0_6.length<140737488355328
          · rw [if_pos c26] at H
            have LMc26:=Aside0.mk c26
            clear c26
            obtain ⟨y164,hy164⟩:∃ y_:List Int,y_=(y161++l0_6):=⟨_,rfl⟩
            replace H:(some y164)=some r:=by first|(rw [hy164];with_reducible exact H)|(have H2_:=(Option.bind_some _ _).symm.trans H;rw [hy164];with_reducible exact H2_)|(have H2_:=(Option.bind_some _ _).symm.trans H;with_reducible exact H2_)|with_reducible exact H|(rw [hy164];exact H)|exact H
            have Ny164:=Aside0.mk hy164
            clear hy164
            obtain rfl:=Option.some.inj H
            go_enter Try.func17,Try.ntmps17
            try go_wp2_with (first|((with_reducible refine gate_dst (N:=1) rfl ?_);refine box_event ?hg (N:=1) ?hd (cs:=#[.int .i64 a0_0,.int .i64 a0_1,.int .i64 a0_2,.int .i64 a0_3,.int .i64 a0_4,.int .i64 a0_5,.slice A0_6 l0_6.length c0_6,.int .i64 a0_7]) (t:=27) ?hr ?_;(case hd=>rfl);(case hg=>rfl);(case hr=>first|(go_simp;done)|(go_simp;rfl));intro gb147 hg w27 hbox hb;have n0_:=Aside0.mk (below_step (by repeat (first|(with_reducible first|exact HB.out|apply below_alloc|apply pw_below_drewN|apply below_drew1)|exact HB.out)) hb);have n1_:=Aside0.mk (hbox);have n2_:=Aside0.mk ((by rw [hg];exact (below_size (by repeat (first|(with_reducible first|exact HB.out|apply below_alloc|apply pw_below_drewN|apply below_drew1)|exact HB.out))):w.heap.size≤gb147));have n3_:=Aside0.mk ((by rw [hg];exact (below_size (by repeat (first|(with_reducible first|exact HB.out|apply below_alloc|apply pw_below_drewN|apply below_drew1)|exact HB.out))):w.heap.size≤gb147));clear HB;have HB:=n0_;have BK147:=n1_;have GW147:=n2_;have GE147:=n3_;clear n0_ n1_ n2_ n3_;clear hb hbox hg;have hcz28_0:w27.cell? ⟨gb147,0,none⟩=some (.int .i64 a0_0):=(blk_cell BK147.out 0).trans rfl;have hcz28_1:w27.cell? ⟨gb147,1,none⟩=some (.int .i64 a0_1):=(blk_cell BK147.out 1).trans rfl;have hcz28_2:w27.cell? ⟨gb147,2,none⟩=some (.int .i64 a0_2):=(blk_cell BK147.out 2).trans rfl;have hcz28_3:w27.cell? ⟨gb147,3,none⟩=some (.int .i64 a0_3):=(blk_cell BK147.out 3).trans rfl;have hcz28_4:w27.cell? ⟨gb147,4,none⟩=some (.int .i64 a0_4):=(blk_cell BK147.out 4).trans rfl;have hcz28_5:w27.cell? ⟨gb147,5,none⟩=some (.int .i64 a0_5):=(blk_cell BK147.out 5).trans rfl;have hcz28_6:w27.cell? ⟨gb147,6,none⟩=some (.slice A0_6 l0_6.length c0_6):=(blk_cell BK147.out 6).trans rfl;have hcz28_7:w27.cell? ⟨gb147,7,none⟩=some (.int .i64 a0_7):=(blk_cell BK147.out 7).trans rfl;have hfz28_0:=blk_frozen BK147.out 0;have hfz28_1:=blk_frozen BK147.out 1;have hfz28_2:=blk_frozen BK147.out 2;have hfz28_3:=blk_frozen BK147.out 3;have hfz28_4:=blk_frozen BK147.out 4;have hfz28_5:=blk_frozen BK147.out 5;have hfz28_6:=blk_frozen BK147.out 6;have hfz28_7:=blk_frozen BK147.out 7)|((with_reducible refine gate_dst (N:=8) rfl ?_);refine Kd.R_lit (Kd.int .u8) _ 5 ?hg (N:=8) ?hd (xs:=([(a0_7)%256]:List Int)) (inner:=[.int .u8 ((a0_7)%256)]) (ok:=fun _=>True) (okp:=fun _=>True) ?hr ?hp (fun _ hk=>hk) trivial (Below.refl _ _) (Nat.le_refl _) (by simp) ?_;(case hd=>rfl);(case hg=>rfl);(case hr=>first|(go_simp;done)|(go_simp;rfl));(case hp=>exact (Reps.one (show Kd.M (Kd.int .u8) _ _ _ ((a0_7)%256) [.int .u8 ((a0_7)%256)] from rfl) (Reps.none _ _)));intro v149 w29 ho30 hb hg_ hnew_;clear hg_ hnew_;(first|rw [← Ny148.out] at ho30|(simp only [Int.reduceToNat] at ho30;rw [← Ny148.out] at ho30));have n0_:=Aside0.mk (Kd.R_lower ho30 (below_size (by repeat (first|(with_reducible first|exact HB.out|apply below_alloc|apply pw_below_drewN|apply below_drew1|refine below_set ?_ GE147.out)|exact HB.out))));have n1_:=Aside0.mk (blk_below (g:=gb147) (o := .cells #[.int .i64 a0_0,.int .i64 a0_1,.int .i64 a0_2,.int .i64 a0_3,.int .i64 a0_4,.int .i64 a0_5,.slice A0_6 l0_6.length c0_6,.int .i64 a0_7] 27 (0,0)) (by (with_reducible repeat (first|refine blk_drewN ?_ _|refine blk_drew ?_|refine blk_alloc ?_ _));exact BK147.out) hb);have n2_:=Aside0.mk (below_step (by repeat (first|(with_reducible first|exact HB.out|apply below_alloc|apply pw_below_drewN|apply below_drew1|refine below_set ?_ GE147.out)|exact HB.out)) hb);clear BK147;clear HB;have HO150:=n0_;have BK147:=n1_;have HB:=n2_;clear n0_ n1_ n2_;clear hb ho30;have hcz31_0:w29.cell? ⟨gb147,0,none⟩=some (.int .i64 a0_0):=(blk_cell BK147.out 0).trans rfl;have hcz31_1:w29.cell? ⟨gb147,1,none⟩=some (.int .i64 a0_1):=(blk_cell BK147.out 1).trans rfl;have hcz31_2:w29.cell? ⟨gb147,2,none⟩=some (.int .i64 a0_2):=(blk_cell BK147.out 2).trans rfl;have hcz31_3:w29.cell? ⟨gb147,3,none⟩=some (.int .i64 a0_3):=(blk_cell BK147.out 3).trans rfl;have hcz31_4:w29.cell? ⟨gb147,4,none⟩=some (.int .i64 a0_4):=(blk_cell BK147.out 4).trans rfl;have hcz31_5:w29.cell? ⟨gb147,5,none⟩=some (.int .i64 a0_5):=(blk_cell BK147.out 5).trans rfl;have hcz31_6:w29.cell? ⟨gb147,6,none⟩=some (.slice A0_6 l0_6.length c0_6):=(blk_cell BK147.out 6).trans rfl;have hcz31_7:w29.cell? ⟨gb147,7,none⟩=some (.int .i64 a0_7):=(blk_cell BK147.out 7).trans rfl;have hfz31_0:=blk_frozen BK147.out 0;have hfz31_1:=blk_frozen BK147.out 1;have hfz31_2:=blk_frozen BK147.out 2;have hfz31_3:=blk_frozen BK147.out 3;have hfz31_4:=blk_frozen BK147.out 4;have hfz31_5:=blk_frozen BK147.out 5;have hfz31_6:=blk_frozen BK147.out 6;have hfz31_7:=blk_frozen BK147.out 7))
            have n0_:=Aside0.mk (Kd.R_drew HO150.out)
            have n1_:=Aside0.mk (blk_drew BK147.out)
            have n2_:=Aside0.mk (below_drew1 HB.out)
            clear HO150
            clear BK147
            clear HB
            have HO150:=n0_
            have BK147:=n1_
            have HB:=n2_
            clear n0_ n1_ n2_
            refine start_ (n:=10) (S:=fun w'=>w'.cell? ⟨gb147,0,none⟩=some (.int .i64 a0_0)∧w'.cell? ⟨gb147,1,none⟩=some (.int .i64 a0_1)∧w'.cell? ⟨gb147,2,none⟩=some (.int .i64 a0_2)∧w'.cell? ⟨gb147,3,none⟩=some (.int .i64 a0_3)∧w'.cell? ⟨gb147,4,none⟩=some (.int .i64 a0_4)∧w'.cell? ⟨gb147,5,none⟩=some (.int .i64 a0_5)∧w'.cell? ⟨gb147,6,none⟩=some (.slice A0_6 l0_6.length c0_6)∧w'.cell? ⟨gb147,7,none⟩=some (.int .i64 a0_7)) (ds:=[]) #[false,false,false,false,false,false,false,false,false,false] (by kernel_rfl) rfl rfl ⟨(blk_cell BK147.out 0).trans rfl,(blk_cell BK147.out 1).trans rfl,(blk_cell BK147.out 2).trans rfl,(blk_cell BK147.out 3).trans rfl,(blk_cell BK147.out 4).trans rfl,(blk_cell BK147.out 5).trans rfl,(blk_cell BK147.out 6).trans rfl,(blk_cell BK147.out 7).trans rfl⟩ (fun hHeld=>?_);refine with_tabW gimbalref25_Encode.tab9 gimbalref25_Encode.bits9 (fun HT_ HW_=>?_)
            generalize w29.drew=w32 at HO150 BK147 HB hHeld ⊢
            refine pure_ (i:=0) (N:=some 54) (v:=?_) (a':=?_) #[true,false,false,false,false,false,false,false,false,false] rfl rfl (any_of HT_.out (by kernel_rfl)) (fun _ _ _ h=>h) (Or.inl ⟨by rfl,?_⟩) ?_ ?_
            rotate_left
            · intro w'
              go_simp
              with_reducible rfl
            rotate_left
            · simp only [Act.put,List.setIfInBounds_toArray,List.set_cons_zero,List.set_cons_succ,i64_w,i32_w]
              rfl
            refine pure_ (i:=1) (N:=some 55) (v:=?_) (a':=?_) #[true,true,false,false,false,false,false,false,false,false] rfl rfl (any_of HT_.out (by kernel_rfl)) (fun _ _ _ h=>h) (Or.inl ⟨by rfl,?_⟩) ?_ ?_
            rotate_left
            · intro w'
              go_simp
              with_reducible rfl
            rotate_left
            · simp only [Act.put,List.setIfInBounds_toArray,List.set_cons_zero,List.set_cons_succ,i64_w,i32_w]
              rfl
            refine pure_ (i:=6) (N:=some 60) (v:=?_) (a':=?_) #[true,true,false,false,false,false,true,false,false,false] rfl rfl (any_of HT_.out (by kernel_rfl)) (fun _ _ _ h=>h) (Or.inl ⟨by rfl,?_⟩) ?_ ?_
            rotate_left
            · intro w'
              go_simp
              with_reducible rfl
            rotate_left
            · simp only [Act.put,List.setIfInBounds_toArray,List.set_cons_zero,List.set_cons_succ,i64_w,i32_w]
              rfl
            refine take_ (i:=2) (N:=some 56) (v:=?_) (a':=?_) #[true,true,true,false,false,false,true,false,false,false] rfl rfl (take_ofW HT_.out HW_.out (by kernel_rfl)) (fun _ _ _ h=>h) (Or.inl ⟨by rfl,?_⟩) hHeld ?_ ?_
            rotate_left
            · rintro w' ⟨s0,s1,s2,s3,s4,s5,s6,s7⟩
              go_simp
              with_reducible rfl
            rotate_left
            · simp only [Act.put,List.setIfInBounds_toArray,List.set_cons_zero,List.set_cons_succ,i64_w,i32_w]
              rfl
            refine pure_ (i:=3) (N:=some 57) (v:=?_) (a':=?_) #[true,true,true,true,false,false,true,false,false,false] rfl rfl (any_of HT_.out (by kernel_rfl)) (fun _ _ _ h=>h) (Or.inl ⟨by rfl,?_⟩) ?_ ?_
            rotate_left
            · intro w'
              go_simp
              with_reducible rfl
            rotate_left
            · simp only [Act.put,List.setIfInBounds_toArray,List.set_cons_zero,List.set_cons_succ,i64_w,i32_w]
              rfl
            refine take_ (i:=7) (N:=some 61) (v:=?_) (a':=?_) #[true,true,true,true,false,false,true,true,false,false] rfl rfl (take_ofW HT_.out HW_.out (by kernel_rfl)) (fun _ _ _ h=>h) (Or.inl ⟨by rfl,?_⟩) hHeld ?_ ?_
            rotate_left
            · rintro w' ⟨s0,s1,s2,s3,s4,s5,s6,s7⟩
              go_simp
              with_reducible rfl
            rotate_left
            · simp only [Act.put,List.setIfInBounds_toArray,List.set_cons_zero,List.set_cons_succ,i64_w,i32_w]
              rfl
            refine one_ (i:=4) (N:=some 58) #[true,true,true,true,true,false,true,true,false,false] rfl rfl (one_of HT_.out (by kernel_rfl)) (by decide) (fun K hK=>?_)
            refine value_ (w1:=?_) (v:=?_) (by rfl) rfl ?_ ?_
            rotate_left 2
            · go_simp
              constructor
              · rfl
              · rfl
            refine hK.out _ _ ⟨(blk_cell (blk_alloc BK147.out _) 0).trans rfl,(blk_cell (blk_alloc BK147.out _) 1).trans rfl,(blk_cell (blk_alloc BK147.out _) 2).trans rfl,(blk_cell (blk_alloc BK147.out _) 3).trans rfl,(blk_cell (blk_alloc BK147.out _) 4).trans rfl,(blk_cell (blk_alloc BK147.out _) 5).trans rfl,(blk_cell (blk_alloc BK147.out _) 6).trans rfl,(blk_cell (blk_alloc BK147.out _) 7).trans rfl⟩ (fun hHeld=>?_)
            clear hK K
            refine norm_ (a':=?_) ?_ ?_
            rotate_left
            · show Act.put _ (some 58) _=_
              simp only [Act.put,List.setIfInBounds_toArray,List.set_cons_zero,List.set_cons_succ,i64_w,i32_w]
              rfl
            refine one_ (i:=5) (N:=some 59) #[true,true,true,true,true,true,true,true,false,false] rfl rfl (one_of HT_.out (by kernel_rfl)) (by decide) (fun K hK=>?_)
            refine Kd.R_append_step (Kd.int .u8) (w0:=w) w.heap.size (by rfl) (.tmp 54) (.tmp 58) 25 5 (.int .u8 0) 1 rfl Try.underlying25 info5 rfl (by decide) (by omega) v149 y148 ((a0_5)%256) [.int .u8 ((a0_5)%256)] (fun _=>True) (fun _=>False) rfl rfl ?aP (fun _ hk=>hk.elim) ?aF ?aO ?aB ?aS ?aL ?_
            (case aP=>exact rfl)
            (case aB=>exact (by repeat (first|(with_reducible first|exact HB.out|apply below_alloc|apply pw_below_drewN|apply below_drew1|refine below_set ?_ GE147.out)|exact HB.out)))
            (case aF=>exact (fun _ _=>trivial))
            (case aO=>exact (by (with_reducible repeat (first|apply Kd.R_alloc|apply Kd.R_drewN|apply Kd.R_drew));exact HO150.out))
            (case aS=>exact (below_size (by repeat (first|(with_reducible first|exact HB.out|apply below_alloc|apply pw_below_drewN|apply below_drew1|refine below_set ?_ GE147.out)|exact HB.out))))
            (case aL=>have:=LMc25.out;omega)
            intro v162 w33 ho hb hg hat
            rw [← Ny161.out] at ho
            have n0_:=Aside0.mk (blk_grown (g:=gb147) (o := .cells #[.int .i64 a0_0,.int .i64 a0_1,.int .i64 a0_2,.int .i64 a0_3,.int .i64 a0_4,.int .i64 a0_5,.slice A0_6 l0_6.length c0_6,.int .i64 a0_7] 27 (0,0)) (by (with_reducible repeat (first|refine blk_drewN ?_ _|refine blk_drew ?_|refine blk_alloc ?_ _));exact BK147.out) hg (Kd.R_ne HO150.out BK147.out (by decide)))
            have n1_:=Aside0.mk (hb)
            have n2_:=Aside0.mk (ho)
            clear BK147
            clear HB
            clear HO150
            have BK147:=n0_
            have HB:=n1_
            have HO163:=n2_
            clear n0_ n1_ n2_
            clear ho hb hg hat
            refine hK.out _ _ ⟨(blk_cell BK147.out 0).trans rfl,(blk_cell BK147.out 1).trans rfl,(blk_cell BK147.out 2).trans rfl,(blk_cell BK147.out 3).trans rfl,(blk_cell BK147.out 4).trans rfl,(blk_cell BK147.out 5).trans rfl,(blk_cell BK147.out 6).trans rfl,(blk_cell BK147.out 7).trans rfl⟩ (fun hHeld=>?_)
            clear hK K
            refine norm_ (a':=?_) ?_ ?_
            rotate_left
            · show Act.put _ (some 59) _=_
              simp only [Act.put,List.setIfInBounds_toArray,List.set_cons_zero,List.set_cons_succ,i64_w,i32_w]
              rfl
            refine one_ (i:=8) (N:=some 62) #[true,true,true,true,true,true,true,true,true,false] rfl rfl (one_of HT_.out (by kernel_rfl)) (by decide) (fun K hK=>?_)
            refine Kd.R_append_rows_step (Kd.int .u8) (w0:=w) w.heap.size (by rfl) (.tmp 59) (.tmp 61) 25 5 (.int .u8 0) 1 rfl Try.underlying25 info5 rfl (by decide) (by omega) v162 y161 l0_6 _ _ _ (fun _=>True) (fun _=>False) rfl rfl ?aO ?aR (fun _ _ h=>h) (fun _ h=>h.elim) ?aF ?aB ?aS ?aL ?_
            (case aR=>repeat (first|exact (Kd.C_below HR0_6.out HB.out)|(with_reducible refine Kd.C_alloc ?_ _)|(with_reducible refine Kd.C_drewN ?_ _)|(with_reducible refine Kd.C_drew ?_)))
            (case aB=>exact (by repeat (first|(with_reducible first|exact HB.out|apply below_alloc|apply pw_below_drewN|apply below_drew1|refine below_set ?_ GE147.out)|exact HB.out)))
            (case aF=>exact (fun _ _=>trivial))
            (case aO=>exact (by (with_reducible repeat (first|apply Kd.R_alloc|apply Kd.R_drewN|apply Kd.R_drew));exact HO163.out))
            (case aS=>exact (below_size (by repeat (first|(with_reducible first|exact HB.out|apply below_alloc|apply pw_below_drewN|apply below_drew1|refine below_set ?_ GE147.out)|exact HB.out))))
            (case aL=>have:=LMc26.out;omega)
            intro v165 w34 ho hb hg hat
            rw [← Ny164.out] at ho
            have n0_:=Aside0.mk (blk_grown (g:=gb147) (o := .cells #[.int .i64 a0_0,.int .i64 a0_1,.int .i64 a0_2,.int .i64 a0_3,.int .i64 a0_4,.int .i64 a0_5,.slice A0_6 l0_6.length c0_6,.int .i64 a0_7] 27 (0,0)) (by (with_reducible repeat (first|refine blk_drewN ?_ _|refine blk_drew ?_|refine blk_alloc ?_ _));exact BK147.out) hg (Kd.R_ne HO163.out BK147.out (by decide)))
            have n1_:=Aside0.mk (hb)
            have n2_:=Aside0.mk (ho)
            clear BK147
            clear HB
            clear HO163
            have BK147:=n0_
            have HB:=n1_
            have HO166:=n2_
            clear n0_ n1_ n2_
            clear ho hb hg hat
            refine hK.out _ _ ⟨(blk_cell BK147.out 0).trans rfl,(blk_cell BK147.out 1).trans rfl,(blk_cell BK147.out 2).trans rfl,(blk_cell BK147.out 3).trans rfl,(blk_cell BK147.out 4).trans rfl,(blk_cell BK147.out 5).trans rfl,(blk_cell BK147.out 6).trans rfl,(blk_cell BK147.out 7).trans rfl⟩ (fun hHeld=>?_)
            clear hK K
            refine norm_ (a':=?_) ?_ ?_
            rotate_left
            · show Act.put _ (some 62) _=_
              simp only [Act.put,List.setIfInBounds_toArray,List.set_cons_zero,List.set_cons_succ,i64_w,i32_w]
              rfl
            refine pure_ (i:=9) (N:=some 3) (v:=?_) (a':=?_) #[true,true,true,true,true,true,true,true,true,true] rfl rfl (any_of HT_.out (by kernel_rfl)) (fun _ _ _ h=>h) (Or.inl ⟨by rfl,?_⟩) ?_ ?_
            rotate_left
            · intro w'
              go_simp
              with_reducible rfl
            rotate_left
            · simp only [Act.put,List.setIfInBounds_toArray,List.set_cons_zero,List.set_cons_succ,i64_w,i32_w]
              rfl
            refine done_ (done_of HT_.out (by kernel_rfl)) ?_
            try go_wp2
            go_ret
            exact ⟨_,by first|rfl|(simp [errW_none,errW_some]<;>rfl)|(simp [*,errW_none,errW_some]<;>rfl),by (with_reducible repeat (first|apply Kd.R_alloc|apply Kd.R_drewN|apply Kd.R_drew));exact HO166.out,by repeat (first|(with_reducible first|exact HB.out|apply below_alloc|apply pw_below_drewN|apply below_drew1|refine below_set ?_ GE147.out)|exact HB.out)⟩
          · rw [if_neg c26] at H
            exact absurd H (by simp)
        · rw [if_neg c25] at H
          exact absurd H (by simp)
      · rw [if_neg c24] at H
        have c24b0:(a0_0 == 4)=false:=beq_eq_false_iff_ne.mpr c24
        have c24b1:(a0_0 != 4)=true:=bne_iff_ne.mpr c24
        by_cases c35:a0_0=5
        · rw [if_pos c35] at H
          have c35b0:(a0_0 == 5)=true:=beq_iff_eq.mpr c35
          have c35b1:(a0_0 != 5)=false:=bne_eq_false_iff_eq.mpr c35
          clear c35
          by_cases c36:y148.length<140737488355328
          · rw [if_pos c36] at H
            have LMc36:=Aside0.mk c36
            clear c36
            obtain ⟨y167,hy167⟩:∃ y_:List Int,y_=(y148++[(a0_5)%256]):=⟨_,rfl⟩
            replace H:(some y167)=some r:=by first|(rw [hy167];with_reducible exact H)|(have H2_:=(Option.bind_some _ _).symm.trans H;rw [hy167];with_reducible exact H2_)|(have H2_:=(Option.bind_some _ _).symm.trans H;with_reducible exact H2_)|with_reducible exact H|(rw [hy167];exact H)|exact H
            have Ny167:=Aside0.mk hy167
            clear hy167
            obtain rfl:=Option.some.inj H
            go_enter Try.func17,Try.ntmps17
            go_wp2_with (first|((with_reducible refine gate_dst (N:=1) rfl ?_);refine box_event ?hg (N:=1) ?hd (cs:=#[.int .i64 a0_0,.int .i64 a0_1,.int .i64 a0_2,.int .i64 a0_3,.int .i64 a0_4,.int .i64 a0_5,.slice A0_6 l0_6.length c0_6,.int .i64 a0_7]) (t:=27) ?hr ?_;(case hd=>rfl);(case hg=>rfl);(case hr=>first|(go_simp;done)|(go_simp;rfl));intro gb147 hg w37 hbox hb;have n0_:=Aside0.mk (below_step (by repeat (first|(with_reducible first|exact HB.out|apply below_alloc|apply pw_below_drewN|apply below_drew1)|exact HB.out)) hb);have n1_:=Aside0.mk (hbox);have n2_:=Aside0.mk ((by rw [hg];exact (below_size (by repeat (first|(with_reducible first|exact HB.out|apply below_alloc|apply pw_below_drewN|apply below_drew1)|exact HB.out))):w.heap.size≤gb147));have n3_:=Aside0.mk ((by rw [hg];exact (below_size (by repeat (first|(with_reducible first|exact HB.out|apply below_alloc|apply pw_below_drewN|apply below_drew1)|exact HB.out))):w.heap.size≤gb147));clear HB;have HB:=n0_;have BK147:=n1_;have GW147:=n2_;have GE147:=n3_;clear n0_ n1_ n2_ n3_;clear hb hbox hg;have hcz38_0:w37.cell? ⟨gb147,0,none⟩=some (.int .i64 a0_0):=(blk_cell BK147.out 0).trans rfl;have hcz38_1:w37.cell? ⟨gb147,1,none⟩=some (.int .i64 a0_1):=(blk_cell BK147.out 1).trans rfl;have hcz38_2:w37.cell? ⟨gb147,2,none⟩=some (.int .i64 a0_2):=(blk_cell BK147.out 2).trans rfl;have hcz38_3:w37.cell? ⟨gb147,3,none⟩=some (.int .i64 a0_3):=(blk_cell BK147.out 3).trans rfl;have hcz38_4:w37.cell? ⟨gb147,4,none⟩=some (.int .i64 a0_4):=(blk_cell BK147.out 4).trans rfl;have hcz38_5:w37.cell? ⟨gb147,5,none⟩=some (.int .i64 a0_5):=(blk_cell BK147.out 5).trans rfl;have hcz38_6:w37.cell? ⟨gb147,6,none⟩=some (.slice A0_6 l0_6.length c0_6):=(blk_cell BK147.out 6).trans rfl;have hcz38_7:w37.cell? ⟨gb147,7,none⟩=some (.int .i64 a0_7):=(blk_cell BK147.out 7).trans rfl;have hfz38_0:=blk_frozen BK147.out 0;have hfz38_1:=blk_frozen BK147.out 1;have hfz38_2:=blk_frozen BK147.out 2;have hfz38_3:=blk_frozen BK147.out 3;have hfz38_4:=blk_frozen BK147.out 4;have hfz38_5:=blk_frozen BK147.out 5;have hfz38_6:=blk_frozen BK147.out 6;have hfz38_7:=blk_frozen BK147.out 7)|((with_reducible refine gate_dst (N:=8) rfl ?_);refine Kd.R_lit (Kd.int .u8) _ 5 ?hg (N:=8) ?hd (xs:=([(a0_7)%256]:List Int)) (inner:=[.int .u8 ((a0_7)%256)]) (ok:=fun _=>True) (okp:=fun _=>True) ?hr ?hp (fun _ hk=>hk) trivial (Below.refl _ _) (Nat.le_refl _) (by simp) ?_;(case hd=>rfl);(case hg=>rfl);(case hr=>first|(go_simp;done)|(go_simp;rfl));(case hp=>exact (Reps.one (show Kd.M (Kd.int .u8) _ _ _ ((a0_7)%256) [.int .u8 ((a0_7)%256)] from rfl) (Reps.none _ _)));intro v149 w39 ho40 hb hg_ hnew_;clear hg_ hnew_;(first|rw [← Ny148.out] at ho40|(simp only [Int.reduceToNat] at ho40;rw [← Ny148.out] at ho40));have n0_:=Aside0.mk (Kd.R_lower ho40 (below_size (by repeat (first|(with_reducible first|exact HB.out|apply below_alloc|apply pw_below_drewN|apply below_drew1|refine below_set ?_ GE147.out)|exact HB.out))));have n1_:=Aside0.mk (blk_below (g:=gb147) (o := .cells #[.int .i64 a0_0,.int .i64 a0_1,.int .i64 a0_2,.int .i64 a0_3,.int .i64 a0_4,.int .i64 a0_5,.slice A0_6 l0_6.length c0_6,.int .i64 a0_7] 27 (0,0)) (by (with_reducible repeat (first|refine blk_drewN ?_ _|refine blk_drew ?_|refine blk_alloc ?_ _));exact BK147.out) hb);have n2_:=Aside0.mk (below_step (by repeat (first|(with_reducible first|exact HB.out|apply below_alloc|apply pw_below_drewN|apply below_drew1|refine below_set ?_ GE147.out)|exact HB.out)) hb);clear BK147;clear HB;have HO150:=n0_;have BK147:=n1_;have HB:=n2_;clear n0_ n1_ n2_;clear hb ho40;have hcz41_0:w39.cell? ⟨gb147,0,none⟩=some (.int .i64 a0_0):=(blk_cell BK147.out 0).trans rfl;have hcz41_1:w39.cell? ⟨gb147,1,none⟩=some (.int .i64 a0_1):=(blk_cell BK147.out 1).trans rfl;have hcz41_2:w39.cell? ⟨gb147,2,none⟩=some (.int .i64 a0_2):=(blk_cell BK147.out 2).trans rfl;have hcz41_3:w39.cell? ⟨gb147,3,none⟩=some (.int .i64 a0_3):=(blk_cell BK147.out 3).trans rfl;have hcz41_4:w39.cell? ⟨gb147,4,none⟩=some (.int .i64 a0_4):=(blk_cell BK147.out 4).trans rfl;have hcz41_5:w39.cell? ⟨gb147,5,none⟩=some (.int .i64 a0_5):=(blk_cell BK147.out 5).trans rfl;have hcz41_6:w39.cell? ⟨gb147,6,none⟩=some (.slice A0_6 l0_6.length c0_6):=(blk_cell BK147.out 6).trans rfl;have hcz41_7:w39.cell? ⟨gb147,7,none⟩=some (.int .i64 a0_7):=(blk_cell BK147.out 7).trans rfl;have hfz41_0:=blk_frozen BK147.out 0;have hfz41_1:=blk_frozen BK147.out 1;have hfz41_2:=blk_frozen BK147.out 2;have hfz41_3:=blk_frozen BK147.out 3;have hfz41_4:=blk_frozen BK147.out 4;have hfz41_5:=blk_frozen BK147.out 5;have hfz41_6:=blk_frozen BK147.out 6;have hfz41_7:=blk_frozen BK147.out 7)|((with_reducible refine gate_builtin (b := .append) (xs:=#[.tmp 65,.tmp 69]) rfl ?_);at_builtin;refine Kd.R_append (Kd.int .u8) (w0:=w) w.heap.size rfl (.tmp 65) (.tmp 69) 25 5 (.int .u8 0) 1 rfl Try.underlying25 info5 rfl (by decide) (by omega) v149 y148 ((a0_5)%256) [.int .u8 ((a0_5)%256)] (fun _=>True) (fun _=>False) rfl rfl ?aP (fun _ hk=>hk.elim) ?aF ?aO ?aB ?aS ?aL ?_;(case aP=>exact rfl);(case aB=>exact (by repeat (first|(with_reducible first|exact HB.out|apply below_alloc|apply pw_below_drewN|apply below_drew1|refine below_set ?_ GE147.out)|exact HB.out)));(case aF=>exact (fun _ _=>trivial));(case aO=>exact (by (with_reducible repeat (first|apply Kd.R_alloc|apply Kd.R_drewN|apply Kd.R_drew));exact HO150.out));(case aS=>exact (below_size (by repeat (first|(with_reducible first|exact HB.out|apply below_alloc|apply pw_below_drewN|apply below_drew1|refine below_set ?_ GE147.out)|exact HB.out))));(case aL=>have:=LMc36.out;omega);intro v168 w42 ho hb hg hat;rw [← Ny167.out] at ho;have n0_:=Aside0.mk (blk_grown (g:=gb147) (o := .cells #[.int .i64 a0_0,.int .i64 a0_1,.int .i64 a0_2,.int .i64 a0_3,.int .i64 a0_4,.int .i64 a0_5,.slice A0_6 l0_6.length c0_6,.int .i64 a0_7] 27 (0,0)) (by (with_reducible repeat (first|refine blk_drewN ?_ _|refine blk_drew ?_|refine blk_alloc ?_ _));exact BK147.out) hg (Kd.R_ne HO150.out BK147.out (by decide)));have n1_:=Aside0.mk (hb);have n2_:=Aside0.mk (ho);clear BK147;clear HB;clear HO150;have BK147:=n0_;have HB:=n1_;have HO169:=n2_;clear n0_ n1_ n2_;clear ho hb hg hat))
            go_ret
            exact ⟨_,by first|rfl|(simp [errW_none,errW_some]<;>rfl)|(simp [*,errW_none,errW_some]<;>rfl),by (with_reducible repeat (first|apply Kd.R_alloc|apply Kd.R_drewN|apply Kd.R_drew));exact HO169.out,by repeat (first|(with_reducible first|exact HB.out|apply below_alloc|apply pw_below_drewN|apply below_drew1|refine below_set ?_ GE147.out)|exact HB.out)⟩
          · rw [if_neg c36] at H
            exact absurd H (by simp)
        · rw [if_neg c35] at H
          have c35b0:(a0_0 == 5)=false:=beq_eq_false_iff_ne.mpr c35
          have c35b1:(a0_0 != 5)=true:=bne_iff_ne.mpr c35
          obtain rfl:=Option.some.inj H
          go_enter Try.func17,Try.ntmps17
          go_wp2_with (first|((with_reducible refine gate_dst (N:=1) rfl ?_);refine box_event ?hg (N:=1) ?hd (cs:=#[.int .i64 a0_0,.int .i64 a0_1,.int .i64 a0_2,.int .i64 a0_3,.int .i64 a0_4,.int .i64 a0_5,.slice A0_6 l0_6.length c0_6,.int .i64 a0_7]) (t:=27) ?hr ?_;(case hd=>rfl);(case hg=>rfl);(case hr=>first|(go_simp;done)|(go_simp;rfl));intro gb147 hg w43 hbox hb;have n0_:=Aside0.mk (below_step (by repeat (first|(with_reducible first|exact HB.out|apply below_alloc|apply pw_below_drewN|apply below_drew1)|exact HB.out)) hb);have n1_:=Aside0.mk (hbox);have n2_:=Aside0.mk ((by rw [hg];exact (below_size (by repeat (first|(with_reducible first|exact HB.out|apply below_alloc|apply pw_below_drewN|apply below_drew1)|exact HB.out))):w.heap.size≤gb147));have n3_:=Aside0.mk ((by rw [hg];exact (below_size (by repeat (first|(with_reducible first|exact HB.out|apply below_alloc|apply pw_below_drewN|apply below_drew1)|exact HB.out))):w.heap.size≤gb147));clear HB;have HB:=n0_;have BK147:=n1_;have GW147:=n2_;have GE147:=n3_;clear n0_ n1_ n2_ n3_;clear hb hbox hg;have hcz44_0:w43.cell? ⟨gb147,0,none⟩=some (.int .i64 a0_0):=(blk_cell BK147.out 0).trans rfl;have hcz44_1:w43.cell? ⟨gb147,1,none⟩=some (.int .i64 a0_1):=(blk_cell BK147.out 1).trans rfl;have hcz44_2:w43.cell? ⟨gb147,2,none⟩=some (.int .i64 a0_2):=(blk_cell BK147.out 2).trans rfl;have hcz44_3:w43.cell? ⟨gb147,3,none⟩=some (.int .i64 a0_3):=(blk_cell BK147.out 3).trans rfl;have hcz44_4:w43.cell? ⟨gb147,4,none⟩=some (.int .i64 a0_4):=(blk_cell BK147.out 4).trans rfl;have hcz44_5:w43.cell? ⟨gb147,5,none⟩=some (.int .i64 a0_5):=(blk_cell BK147.out 5).trans rfl;have hcz44_6:w43.cell? ⟨gb147,6,none⟩=some (.slice A0_6 l0_6.length c0_6):=(blk_cell BK147.out 6).trans rfl;have hcz44_7:w43.cell? ⟨gb147,7,none⟩=some (.int .i64 a0_7):=(blk_cell BK147.out 7).trans rfl;have hfz44_0:=blk_frozen BK147.out 0;have hfz44_1:=blk_frozen BK147.out 1;have hfz44_2:=blk_frozen BK147.out 2;have hfz44_3:=blk_frozen BK147.out 3;have hfz44_4:=blk_frozen BK147.out 4;have hfz44_5:=blk_frozen BK147.out 5;have hfz44_6:=blk_frozen BK147.out 6;have hfz44_7:=blk_frozen BK147.out 7)|((with_reducible refine gate_dst (N:=8) rfl ?_);refine Kd.R_lit (Kd.int .u8) _ 5 ?hg (N:=8) ?hd (xs:=([(a0_7)%256]:List Int)) (inner:=[.int .u8 ((a0_7)%256)]) (ok:=fun _=>True) (okp:=fun _=>True) ?hr ?hp (fun _ hk=>hk) trivial (Below.refl _ _) (Nat.le_refl _) (by simp) ?_;(case hd=>rfl);(case hg=>rfl);(case hr=>first|(go_simp;done)|(go_simp;rfl));(case hp=>exact (Reps.one (show Kd.M (Kd.int .u8) _ _ _ ((a0_7)%256) [.int .u8 ((a0_7)%256)] from rfl) (Reps.none _ _)));intro v149 w45 ho46 hb hg_ hnew_;clear hg_ hnew_;(first|rw [← Ny148.out] at ho46|(simp only [Int.reduceToNat] at ho46;rw [← Ny148.out] at ho46));have n0_:=Aside0.mk (Kd.R_lower ho46 (below_size (by repeat (first|(with_reducible first|exact HB.out|apply below_alloc|apply pw_below_drewN|apply below_drew1|refine below_set ?_ GE147.out)|exact HB.out))));have n1_:=Aside0.mk (blk_below (g:=gb147) (o := .cells #[.int .i64 a0_0,.int .i64 a0_1,.int .i64 a0_2,.int .i64 a0_3,.int .i64 a0_4,.int .i64 a0_5,.slice A0_6 l0_6.length c0_6,.int .i64 a0_7] 27 (0,0)) (by (with_reducible repeat (first|refine blk_drewN ?_ _|refine blk_drew ?_|refine blk_alloc ?_ _));exact BK147.out) hb);have n2_:=Aside0.mk (below_step (by repeat (first|(with_reducible first|exact HB.out|apply below_alloc|apply pw_below_drewN|apply below_drew1|refine below_set ?_ GE147.out)|exact HB.out)) hb);clear BK147;clear HB;have HO150:=n0_;have BK147:=n1_;have HB:=n2_;clear n0_ n1_ n2_;clear hb ho46;have hcz47_0:w45.cell? ⟨gb147,0,none⟩=some (.int .i64 a0_0):=(blk_cell BK147.out 0).trans rfl;have hcz47_1:w45.cell? ⟨gb147,1,none⟩=some (.int .i64 a0_1):=(blk_cell BK147.out 1).trans rfl;have hcz47_2:w45.cell? ⟨gb147,2,none⟩=some (.int .i64 a0_2):=(blk_cell BK147.out 2).trans rfl;have hcz47_3:w45.cell? ⟨gb147,3,none⟩=some (.int .i64 a0_3):=(blk_cell BK147.out 3).trans rfl;have hcz47_4:w45.cell? ⟨gb147,4,none⟩=some (.int .i64 a0_4):=(blk_cell BK147.out 4).trans rfl;have hcz47_5:w45.cell? ⟨gb147,5,none⟩=some (.int .i64 a0_5):=(blk_cell BK147.out 5).trans rfl;have hcz47_6:w45.cell? ⟨gb147,6,none⟩=some (.slice A0_6 l0_6.length c0_6):=(blk_cell BK147.out 6).trans rfl;have hcz47_7:w45.cell? ⟨gb147,7,none⟩=some (.int .i64 a0_7):=(blk_cell BK147.out 7).trans rfl;have hfz47_0:=blk_frozen BK147.out 0;have hfz47_1:=blk_frozen BK147.out 1;have hfz47_2:=blk_frozen BK147.out 2;have hfz47_3:=blk_frozen BK147.out 3;have hfz47_4:=blk_frozen BK147.out 4;have hfz47_5:=blk_frozen BK147.out 5;have hfz47_6:=blk_frozen BK147.out 6;have hfz47_7:=blk_frozen BK147.out 7))
          go_ret
          exact ⟨_,by first|rfl|(simp [errW_none,errW_some]<;>rfl)|(simp [*,errW_none,errW_some]<;>rfl),by (with_reducible repeat (first|apply Kd.R_alloc|apply Kd.R_drewN|apply Kd.R_drew));exact HO150.out,by repeat (first|(with_reducible first|exact HB.out|apply below_alloc|apply pw_below_drewN|apply below_drew1|refine below_set ?_ GE147.out)|exact HB.out)⟩
end Go.Proofs.Ytaeabemipnbgbaa.QCm
end
section
namespace Go.Proofs.YtaeabemipnbgbaaW.Aid
open RowKit YtaeabemipnbgbaaW.PrintWords YtaeabemipnbgbaaW.PrintMore
theorem Ev.shift {α:Type} {g:Nat→Option α} {r:α} (h:Ev (fun k=>g (k+1)) r):Ev g r:=by
  obtain ⟨K,h⟩:=h
  refine ⟨K+1,fun k hk=>?_⟩
  obtain ⟨j,rfl⟩:∃ j,k=j+1:=⟨k-1,by omega⟩
  exact h j (by omega)
theorem Ev.pure {α:Type} {g:Nat→Option α} {r:α} (h:∀ k,g k=some r):Ev g r:=⟨0,fun k _=>h k⟩
theorem Ev.to {α:Type} {g:Nat→Option α} {r r':α} (h:Ev g r) (e:r=r'):Ev g r':=e ▸ h
theorem wrap64_id {x:Int} (h : -9223372036854775808≤x) (h':x≤9223372036854775807):wrap64 x=x:=by unfold wrap64;omega
theorem wf_u8 {x:Int} (h:(Lit.int .u8 x).wf=true):0≤x∧x≤255:=by
  simp [Lit.wf,IntKind.min,IntKind.max,IntKind.signed,IntKind.bits] at h
  omega
theorem rd_at {l:List Int} {i:Int} (h0:0≤i) (h:i<(l.length:Int)):∃ hj:i.toNat<l.length,rd l i=l[i.toNat]:=by
  have:i.toNat<l.length:=by omega
  exact ⟨this,by unfold rd;rw [List.getD_eq_getElem?_getD,List.getElem?_eq_getElem this];rfl⟩
theorem rd_mem {l:List Int} {i:Int} (h0:0≤i) (h:i<(l.length:Int)):rd l i∈l:=by
  obtain ⟨hj,e⟩:=rd_at h0 h
  rw [e];exact List.getElem_mem hj
end Go.Proofs.YtaeabemipnbgbaaW.Aid
end
section
set_option linter.unusedVariables false
set_option linter.unusedSimpArgs false
namespace Go.Proofs.Ytaeabemipnbgbaa.PCm
open RowKit Ytaeabemipnbgbaa.QCm YtaeabemipnbgbaaW.PrintWords YtaeabemipnbgbaaW.PrintMore YtaeabemipnbgbaaW.Aid
def Bytes (b:List Int):Prop:=∀ x∈b,0≤x∧x≤255
theorem Bytes.take {b:List Int} (h:Bytes b) (n:Nat):Bytes (b.take n):=fun x hx=>h x (List.mem_of_mem_take hx)
theorem Bytes.drop {b:List Int} (h:Bytes b) (n:Nat):Bytes (b.drop n):=fun x hx=>h x (List.mem_of_mem_drop hx)
theorem Bytes.rd {b:List Int} (h:Bytes b) {i:Int} (h0:0≤i) (h1:i<(b.length:Int)):0≤rd b i∧rd b i≤255:=h _ (rd_mem h0 h1)
theorem bytes_wf {b:List Int} (h:∀ x∈b,(Lit.int .u8 x).wf=true):Bytes b:=fun x hx=>wf_u8 (h x hx)
theorem eqB_l0 {a b:List Int} (hl:a.length=b.length) (hb:a.length≤1000000):∀ (m:Nat) (i:Nat),a.length-i=m→i≤a.length→Ev (fun k=>gimbalref0_EqBytes.l0 k a b i) (decide (a.drop i=b.drop i)):=by
  intro m
  induction m with
  | zero =>
    intro i hm hi
    refine Ev.shift (Ev.pure fun k=>?_)
    simp only [gimbalref0_EqBytes.l0]
    rw [if_neg (by omega),List.drop_of_length_le (by omega),List.drop_of_length_le (by omega)]
    simp
  | succ m ih =>
    intro i hm hi
    have hia:i<a.length:=by omega
    have hib:i<b.length:=by omega
    have e1:rd a (i:Int)=a[i]:=by obtain ⟨h1,h2⟩:=rd_at (l:=a) (i:=(i:Int)) (by omega) (by omega);simpa using h2
    have e2:rd b (i:Int)=b[i]:=by obtain ⟨h1,h2⟩:=rd_at (l:=b) (i:=(i:Int)) (by omega) (by omega);simpa using h2
    refine Ev.shift ?_
    simp only [gimbalref0_EqBytes.l0]
    rw [List.drop_eq_getElem_cons hia,List.drop_eq_getElem_cons hib]
    by_cases h:a[i]=b[i]
    · have:=ih (i+1) (by omega) (by omega)
      refine Ev.congr (fun k=>?_) (Ev.to this (by rw [h];simp only [List.cons.injEq,true_and]))
      rw [if_pos (by omega),if_pos (by omega),if_pos (by omega),if_pos (by rw [e1,e2,h]),wrap64_id (by omega) (by omega)]
      rfl
    · refine Ev.pure fun k=>?_
      rw [if_pos (by omega),if_pos (by omega),if_pos (by omega),if_neg (by rw [e1,e2];exact h)]
      exact congrArg some (decide_eq_false (fun e=>h (List.cons.inj e).1)).symm
theorem eqB_ev {a b:List Int} (ha:a.length≤1000000):Ev (fun k=>gimbalref0_EqBytes.f k a b) (decide (a=b)):=by
  unfold gimbalref0_EqBytes.f
  by_cases hl:a.length=b.length
  · refine Ev.congr (fun k=>if_pos (by omega)) ?_
    have:=eqB_l0 hl ha _ 0 rfl (Nat.zero_le _)
    simpa using this
  · refine Ev.pure fun k=>?_
    rw [if_neg (by omega)]
    have:a≠b:=fun e=>hl (by rw [e])
    simp [this]
theorem copy_l0 {l:List Int} (hb:l.length≤1000000):∀ (m:Nat) (i:Nat),l.length-i=m→i≤l.length→Ev (fun k=>gimbalref0_CopyBytes.l0 k l (l.take i) i) l:=by
  intro m
  induction m with
  | zero =>
    intro i hm hi
    refine Ev.shift (Ev.pure fun k=>?_)
    simp only [gimbalref0_CopyBytes.l0]
    rw [if_neg (by omega),List.take_of_length_le (by omega)]
  | succ m ih =>
    intro i hm hi
    have hil:i<l.length:=by omega
    have e1:rd l (i:Int)=l[i]:=by obtain ⟨h1,h2⟩:=rd_at (l:=l) (i:=(i:Int)) (by omega) (by omega);simpa using h2
    refine Ev.shift ?_
    simp only [gimbalref0_CopyBytes.l0]
    refine Ev.congr (fun k=>?_) (ih (i+1) (by omega) (by omega))
    rw [if_pos (by omega),if_pos (by omega),if_pos (by rw [List.length_take];omega),wrap64_id (by omega) (by omega),e1,List.take_succ_eq_append_getElem hil]
    rfl
theorem copy_ev {l:List Int} (hb:l.length≤1000000):Ev (fun k=>gimbalref0_CopyBytes.f k l) l:=by
  have:=copy_l0 hb _ 0 rfl (Nat.zero_le _)
  simpa [gimbalref0_CopyBytes.f] using this
theorem bytes_l0:∀ (m:Nat) (l:List Int) (i:Nat),l.length≤1000000→l.length-i=m→i≤l.length→Ev (fun k=>gimballaw0_Bytes.l0 k l i) ():=by
  intro m
  induction m with
  | zero =>
    intro l i hb hm hi
    refine Ev.shift (Ev.pure fun k=>?_)
    simp only [gimballaw0_Bytes.l0]
    rw [if_neg (by omega),if_pos (by omega)]
  | succ m ih =>
    intro l i hb hm hi
    refine Ev.shift ?_
    simp only [gimballaw0_Bytes.l0]
    refine Ev.congr (fun k=>?_) (ih (l.set i (Go.bits .xor .u8 (rd l i) 85)) (i+1) (by simp;omega) (by simp;omega) (by simp;omega))
    rw [if_pos (by omega),if_pos (by omega),wrap64_id (by omega) (by omega)]
    rfl
theorem bytes_ev {l:List Int} (hb:l.length≤1000000):Ev (fun k=>gimballaw0_Bytes.f k l) ():=by
  have:=bytes_l0 _ l 0 hb rfl (Nat.zero_le _)
  simpa [gimballaw0_Bytes.f] using this
def MayC (kd c s p t key:Int) (val:List Int) (cl:Int):Prop :=
  (0≤cl∧cl≤7)∧((kd=1∧(1≤s∧s≤15)∧(1≤p∧p≤1000)∧(0≤t∧t≤60000)∧c=cl∧key=0∧val.length=0)∨(kd=2∧(1≤s∧s≤15)∧c=cl∧p=0∧t=0∧key=0∧val.length=0)
    ∨ ((kd=3∨kd=6)∧(c=0∧s=0∧p=0∧t=0)∧key=0∧val.length=0)∨(kd=4∧(c=0∧s=0∧p=0∧t=0)∧(0≤key∧key≤15)∧(val.length:Int)≤24)∨(kd=5∧(c=0∧s=0∧p=0∧t=0)∧(0≤key∧key≤15)∧val.length=0))
instance (kd c s p t key:Int) (val:List Int) (cl:Int):Decidable (MayC kd c s p t key val cl):=by unfold MayC;exact inferInstance
abbrev mayC (kd c s p t key:Int) (val:List Int) (cl:Int):Bool:=decide (MayC kd c s p t key val cl)
theorem bF {p:Prop} [Decidable p] (h:¬ p):some false=some (decide p):=by rw [decide_eq_false h]
theorem bD {q p:Prop} [Decidable p] [Decidable q] (h:q↔p):some (decide q)=some (decide p):=by rw [decide_eq_decide.2 h]
theorem nil_iff (l:List Int):([]=l)↔l.length=0:=by cases l<;>simp
theorem client_f (n:Int):cmd_Client.f n=some (decide (0≤n∧n≤7)):=by
  unfold cmd_Client.f
  split<;>first|exact bT (by omega)|exact bF (by omega)|exact bD (by omega)
theorem sensor_f (n:Int):cmd_Sensor.f n=some (decide (1≤n∧n≤15)):=by
  unfold cmd_Sensor.f
  split<;>first|exact bT (by omega)|exact bF (by omega)|exact bD (by omega)
theorem sub_f (c s p t:Int):cmd_Sub.f c s p t=some (decide ((0≤c∧c≤7)∧(1≤s∧s≤15)∧(1≤p∧p≤1000)∧(0≤t∧t≤60000))):=by
  unfold cmd_Sub.f
  simp only [client_f,sensor_f,Option.bind_some,decide_eq_true_eq]
  repeat' split
  all_goals first|exact bT (by omega)|exact bF (by omega)|exact bD (by omega)
theorem lF {D:Bool} {P:Prop} (h:D=true↔P) (hp:¬ P):some false=some D:=by
  cases hD:D with
  | true=>exact absurd (h.1 hD) hp
  | false=>rfl
theorem lD {D:Bool} {P Q:Prop} [Decidable Q] (h:D=true↔P) (hp:Q↔P):some (decide Q)=some D:=by
  rw [show D=decide Q by rw [Bool.eq_iff_iff,h,decide_eq_true_iff,hp]]
set_option maxHeartbeats 4000000 in
theorem good_all (kd c s p t key:Int) (val:List Int) (cl:Int) (D:Bool) (hD:D=true↔MayC kd c s p t key val cl) (k:Nat):cmd_good.f (k+2) kd c s p t key val cl=some D:=by
  unfold cmd_good.f
  simp only [cmd_good.j0,cmd_good.j1,client_f,sensor_f,sub_f,Option.bind_some,decide_eq_true_eq,Bool.and_eq_true,beq_iff_eq]
  by_cases a1:0≤cl∧cl≤7
  · rw [if_pos a1]
    by_cases a2:key≥0
    · rw [if_pos a2]
      by_cases k1:kd=1
      · rw [if_pos k1]
        repeat' split
        all_goals first|exact absurd (by assumption:false=true) Bool.false_ne_true|exact lT hD (by unfold MayC;omega)|exact lF hD (by unfold MayC;omega)|exact lD hD (by unfold MayC;omega)|exact lE hD (by unfold MayC;omega)
      · rw [if_neg k1]
        by_cases k2:kd=2
        · rw [if_pos k2]
          repeat' split
          all_goals first|exact absurd (by assumption:false=true) Bool.false_ne_true|exact lT hD (by unfold MayC;omega)|exact lF hD (by unfold MayC;omega)|exact lD hD (by unfold MayC;omega)|exact lE hD (by unfold MayC;omega)
        · rw [if_neg k2]
          by_cases k3:kd=3
          · rw [if_pos k3,if_pos k3]
            repeat' split
            all_goals first|exact absurd (by assumption:false=true) Bool.false_ne_true|exact lT hD (by unfold MayC;omega)|exact lF hD (by unfold MayC;omega)|exact lD hD (by unfold MayC;omega)|exact lE hD (by unfold MayC;omega)
          · rw [if_neg k3]
            repeat' split
            all_goals first|exact absurd (by assumption:false=true) Bool.false_ne_true|exact lT hD (by unfold MayC;omega)|exact lF hD (by unfold MayC;omega)|exact lD hD (by unfold MayC;omega)|exact lE hD (by unfold MayC;omega)
    · rw [if_neg a2]
      by_cases k1:kd=1
      · rw [if_pos k1]
        repeat' split
        all_goals first|exact absurd (by assumption:false=true) Bool.false_ne_true|exact lT hD (by unfold MayC;omega)|exact lF hD (by unfold MayC;omega)|exact lD hD (by unfold MayC;omega)|exact lE hD (by unfold MayC;omega)
      · rw [if_neg k1]
        by_cases k2:kd=2
        · rw [if_pos k2]
          repeat' split
          all_goals first|exact absurd (by assumption:false=true) Bool.false_ne_true|exact lT hD (by unfold MayC;omega)|exact lF hD (by unfold MayC;omega)|exact lD hD (by unfold MayC;omega)|exact lE hD (by unfold MayC;omega)
        · rw [if_neg k2]
          by_cases k3:kd=3
          · rw [if_pos k3,if_pos k3]
            repeat' split
            all_goals first|exact absurd (by assumption:false=true) Bool.false_ne_true|exact lT hD (by unfold MayC;omega)|exact lF hD (by unfold MayC;omega)|exact lD hD (by unfold MayC;omega)|exact lE hD (by unfold MayC;omega)
          · rw [if_neg k3]
            repeat' split
            all_goals first|exact absurd (by assumption:false=true) Bool.false_ne_true|exact lT hD (by unfold MayC;omega)|exact lF hD (by unfold MayC;omega)|exact lD hD (by unfold MayC;omega)|exact lE hD (by unfold MayC;omega)
  · rw [if_neg a1]
    first|exact absurd (by assumption:false=true) Bool.false_ne_true|exact lT hD (by unfold MayC;omega)|exact lF hD (by unfold MayC;omega)|exact lD hD (by unfold MayC;omega)|exact lE hD (by unfold MayC;omega)
theorem good_ev (kd c s p t key:Int) (val:List Int) (cl:Int):Ev (fun k=>cmd_good.f k kd c s p t key val cl) (mayC kd c s p t key val cl) :=
  Ev.shift (Ev.shift (Ev.pure fun k=>good_all kd c s p t key val cl _ (by simp [mayC]) k))
theorem in_f (a lo hi:Int):gimbalref25_in.f a lo hi=some (decide (lo≤a∧a≤hi)):=by
  unfold gimbalref25_in.f
  split<;>first|exact bT (by omega)|exact bF (by omega)|exact bD (by omega)
theorem clientR_f (n:Int):gimbalref25_Client.f n=some (decide (0≤n∧n≤7)):=by
  unfold gimbalref25_Client.f;rw [in_f];rfl
theorem sensorR_f (n:Int):gimbalref25_Sensor.f n=some (decide (1≤n∧n≤15)):=by
  unfold gimbalref25_Sensor.f;rw [in_f];rfl
theorem subR_f (c s p t:Int):gimbalref25_MaySub.f c s p t=some (decide ((0≤c∧c≤7)∧(1≤s∧s≤15)∧(1≤p∧p≤1000)∧(0≤t∧t≤60000))):=by
  unfold gimbalref25_MaySub.f
  simp only [clientR_f,sensorR_f,in_f,Option.bind_some,decide_eq_true_eq]
  repeat' split
  all_goals first|exact bT (by omega)|exact bF (by omega)|exact bD (by omega)
def eqC (kd c s p t key:Int) (val:List Int) (cl kd' c' s' p' t' key':Int) (val':List Int) (cl':Int):Bool:=decide (kd=kd'∧(c=c'∧s=s'∧p=p'∧t=t')∧key=key'∧val=val'∧cl=cl')
theorem eqC_ev (kd c s p t key:Int) (val:List Int) (cl kd' c' s' p' t' key':Int) (val':List Int) (cl':Int) (hv:val.length≤1000000):Ev (fun k=>gimbalref0_EqCommand.f k kd c s p t key val cl kd' c' s' p' t' key' val' cl') (eqC kd c s p t key val cl kd' c' s' p' t' key' val' cl'):=by
  obtain ⟨K1,h1⟩:=eqB_ev (a:=val) (b:=val') hv
  refine ⟨K1,fun k hk=>?_⟩
  show gimbalref0_EqCommand.f k kd c s p t key val cl kd' c' s' p' t' key' val' cl'=_
  unfold gimbalref0_EqCommand.f eqC
  have e1:gimbalref0_EqBytes.f k val val'=some (decide (val=val')):=h1 k hk
  simp only [e1,Option.bind_some,decide_eq_true_eq,Bool.and_eq_true,beq_iff_eq]
  by_cases k1:kd=kd'
  · by_cases k2:c=c'∧s=s'∧p=p'∧t=t'
    · by_cases k3:key=key'
      · by_cases k4:val=val'
        · rw [if_pos k1,if_pos k2,if_pos k3,if_pos k4]
          rw [show (cl == cl')=decide (cl=cl') from rfl]
          exact bD ⟨fun h=>⟨k1,k2,k3,k4,h⟩,fun h=>h.2.2.2.2⟩
        · rw [if_pos k1,if_pos k2,if_pos k3,if_neg k4];exact bF (fun h=>k4 h.2.2.2.1)
      · rw [if_pos k1,if_pos k2,if_neg k3];exact bF (fun h=>k3 h.2.2.1)
    · rw [if_pos k1,if_neg k2];exact bF (fun h=>k2 h.2.1)
  · rw [if_neg k1];exact bF (fun h=>k1 h.1)
theorem field1_ev {l:List Int} {n:Int} (hl:l.length≤1000000):Ev (fun k=>cmd_field_int.f k l n 1) (l++[n%256]):=by
  unfold cmd_field_int.f
  have e1:wrap64 (1-1)=0:=wrap64_id (by decide) (by decide)
  have e4:wrap64 (8*0)=0:=wrap64_id (by decide) (by decide)
  have e5:wrap64 (0-1) = -1:=wrap64_id (by decide) (by decide)
  rw [e1]
  refine Ev.shift ?_
  simp only [cmd_field_int.l0]
  refine Ev.congr (fun k=>by rw [if_pos (by omega),e4,if_pos (by omega),if_pos (by omega),e5]) ?_
  refine Ev.shift (Ev.pure fun k=>?_)
  simp only [cmd_field_int.l0]
  rw [if_neg (by omega)]
  have s0:shr .i64 n 0=n:=by show n/2 ^ min (0:Int).toNat 64=n;simp
  rw [s0]
theorem field2_ev {l:List Int} {n:Int} (hl:l.length≤1000000):Ev (fun k=>cmd_field_int.f k l n 2) (l++[n/256%256,n%256]):=by
  unfold cmd_field_int.f
  have e1:wrap64 (2-1)=1:=wrap64_id (by decide) (by decide)
  have e2:wrap64 (8*1)=8:=wrap64_id (by decide) (by decide)
  have e3:wrap64 (1-1)=0:=wrap64_id (by decide) (by decide)
  have e4:wrap64 (8*0)=0:=wrap64_id (by decide) (by decide)
  have e5:wrap64 (0-1) = -1:=wrap64_id (by decide) (by decide)
  rw [e1]
  refine Ev.shift ?_
  simp only [cmd_field_int.l0]
  refine Ev.congr (fun k=>by rw [if_pos (by omega),e2,if_pos (by omega),if_pos (by omega),e3]) ?_
  refine Ev.shift ?_
  simp only [cmd_field_int.l0]
  refine Ev.congr (fun k=>by rw [if_pos (by omega),e4,if_pos (by omega),if_pos (by simp;omega),e5]) ?_
  refine Ev.shift (Ev.pure fun k=>?_)
  simp only [cmd_field_int.l0]
  rw [if_neg (by omega)]
  have s8:shr .i64 n 8=n/256:=rfl
  have s0:shr .i64 n 0=n:=by show n/2 ^ min (0:Int).toNat 64=n;simp
  rw [s8,s0,List.append_assoc]
  rfl
theorem field4_ev {l:List Int} {n:Int} (hl:l.length≤1000000):Ev (fun k=>cmd_field_int.f k l n 4) (l++[n/16777216%256,n/65536%256,n/256%256,n%256]):=by
  unfold cmd_field_int.f
  have e1:wrap64 (4-1)=3:=wrap64_id (by decide) (by decide)
  have a3:wrap64 (8*3)=24:=wrap64_id (by decide) (by decide)
  have b3:wrap64 (3-1)=2:=wrap64_id (by decide) (by decide)
  have a2:wrap64 (8*2)=16:=wrap64_id (by decide) (by decide)
  have b2:wrap64 (2-1)=1:=wrap64_id (by decide) (by decide)
  have a1:wrap64 (8*1)=8:=wrap64_id (by decide) (by decide)
  have b1:wrap64 (1-1)=0:=wrap64_id (by decide) (by decide)
  have a0:wrap64 (8*0)=0:=wrap64_id (by decide) (by decide)
  have b0:wrap64 (0-1) = -1:=wrap64_id (by decide) (by decide)
  rw [e1]
  refine Ev.shift ?_
  simp only [cmd_field_int.l0]
  refine Ev.congr (fun k=>by rw [if_pos (by omega),a3,if_pos (by omega),if_pos (by omega),b3]) ?_
  refine Ev.shift ?_
  simp only [cmd_field_int.l0]
  refine Ev.congr (fun k=>by rw [if_pos (by omega),a2,if_pos (by omega),if_pos (by simp;omega),b2]) ?_
  refine Ev.shift ?_
  simp only [cmd_field_int.l0]
  refine Ev.congr (fun k=>by rw [if_pos (by omega),a1,if_pos (by omega),if_pos (by simp;omega),b1]) ?_
  refine Ev.shift ?_
  simp only [cmd_field_int.l0]
  refine Ev.congr (fun k=>by rw [if_pos (by omega),a0,if_pos (by omega),if_pos (by simp;omega),b0]) ?_
  refine Ev.shift (Ev.pure fun k=>?_)
  simp only [cmd_field_int.l0]
  rw [if_neg (by omega)]
  have s24:shr .i64 n 24=n/16777216:=rfl
  have s16:shr .i64 n 16=n/65536:=rfl
  have s8:shr .i64 n 8=n/256:=rfl
  have s0:shr .i64 n 0=n:=by show n/2 ^ min (0:Int).toNat 64=n;simp
  rw [s24,s16,s8,s0,List.append_assoc,List.append_assoc,List.append_assoc]
  rfl
def encB (kd c s p t key:Int) (val:List Int) (cl:Int):List Int :=
  [cl%256]++(if kd=1 then [s%256,p/256%256,p%256,t/16777216%256,t/65536%256,t/256%256,t%256] else if kd=2 then [s%256] else if kd=4 then [key%256]++val else if kd=5 then [key%256] else [])
def encCR (kd c s p t key:Int) (val:List Int) (cl:Int):List Int × Int:=if MayC kd c s p t key val cl then (encB kd c s p t key val cl,0) else ([],1)
theorem enc_ev (kd c s p t key:Int) (val:List Int) (cl:Int) (hv:val.length≤100000):Ev (fun k=>cmd_Encode.f k kd c s p t key val cl) (encCR kd c s p t key val cl):=by
  unfold cmd_Encode.f
  refine Ev.bind (good_ev kd c s p t key val cl) ?_
  by_cases h:MayC kd c s p t key val cl
  · refine Ev.congr (fun k=>if_pos (decide_eq_true h)) ?_
    refine Ev.bind (field1_ev (Nat.zero_le _)) ?_
    unfold encCR
    rw [if_pos h]
    unfold encB
    by_cases k1:kd=1
    · refine Ev.congr (fun k=>if_pos k1) ?_
      refine Ev.bind (field1_ev (by simp)) ?_
      refine Ev.bind (field2_ev (by simp)) ?_
      refine Ev.to (Ev.bind (field4_ev (by simp)) (Ev.now _)) ?_
      rw [if_pos k1];rfl
    · refine Ev.congr (fun k=>if_neg k1) ?_
      rw [if_neg k1]
      by_cases k2:kd=2
      · refine Ev.congr (fun k=>if_pos k2) ?_
        refine Ev.to (Ev.bind (field1_ev (by simp)) (Ev.now _)) ?_
        rw [if_pos k2];rfl
      · refine Ev.congr (fun k=>if_neg k2) ?_
        rw [if_neg k2]
        by_cases k4:kd=4
        · refine Ev.congr (fun k=>if_pos k4) ?_
          refine Ev.bind (field1_ev (by simp)) (Ev.pure fun k=>?_)
          rw [if_pos (by simp;omega),if_pos k4];rfl
        · refine Ev.congr (fun k=>if_neg k4) ?_
          rw [if_neg k4]
          by_cases k5:kd=5
          · refine Ev.congr (fun k=>if_pos k5) ?_
            refine Ev.bind (field1_ev (by simp)) (Ev.pure fun k=>?_)
            have hnil:val=[]:=List.length_eq_zero_iff.1 (by unfold MayC at h;omega)
            rw [if_pos (by simp;omega),if_pos k5,hnil];rfl
          · refine Ev.congr (fun k=>if_neg k5) (Ev.pure fun k=>?_)
            rw [if_neg k5];rfl
  · refine Ev.pure fun k=>?_
    rw [if_neg (by simpa using h)]
    unfold encCR
    rw [if_neg h]
theorem encR_f (kd c s p t key:Int) (val:List Int) (cl:Int) (hv:val.length≤100000):gimbalref25_Encode.f kd c s p t key val cl=some (encB kd c s p t key val cl):=by
  unfold gimbalref25_Encode.f encB
  simp only [Option.bind_some]
  by_cases k1:kd=1
  · rw [if_pos k1,if_pos k1,if_pos (by simp)]
  · rw [if_neg k1,if_neg k1]
    by_cases k2:kd=2
    · rw [if_pos k2,if_pos k2,if_pos (by simp)]
    · rw [if_neg k2,if_neg k2]
      by_cases k4:kd=4
      · rw [if_pos k4,if_pos k4,if_pos (by simp),if_pos (by simp;omega),List.append_assoc]
      · rw [if_neg k4,if_neg k4]
        by_cases k5:kd=5
        · rw [if_pos k5,if_pos k5,if_pos (by simp)]
        · rw [if_neg k5,if_neg k5,List.append_nil]
theorem copyC_ev (kd c s p t key:Int) (val:List Int) (cl:Int) (hv:val.length≤1000000):Ev (fun k=>gimbalref0_CopyCommand.f k kd c s p t key val cl) (kd,c,s,p,t,key,val,cl):=by
  unfold gimbalref0_CopyCommand.f
  exact Ev.bind (copy_ev hv) (Ev.now _)
end Go.Proofs.Ytaeabemipnbgbaa.PCm
end
section
set_option linter.unusedVariables false
namespace Go.Proofs.YtaeabemipnbgbaaW.Big
open RowKit YtaeabemipnbgbaaW.PrintWords YtaeabemipnbgbaaW.PrintMore YtaeabemipnbgbaaW.Aid
def limbs (n:Nat):List Int:=if h:n=0 then [] else ((n%18446744073709551616:Nat):Int)::limbs (n/18446744073709551616)
termination_by n
decreasing_by omega
def val:List Int→Nat
  | []=>0
  | x::r=>x.toNat+18446744073709551616*val r
theorem limbs_zero:limbs 0=[]:=by rw [limbs];simp
theorem limbs_pos {n:Nat} (h:n≠0):limbs n=((n%18446744073709551616:Nat):Int)::limbs (n/18446744073709551616):=by rw [limbs];simp [h]
theorem val_limbs (n:Nat):val (limbs n)=n:=by
  induction n using Nat.strongRecOn with
  | _ n ih =>
    by_cases h:n=0
    · subst h;rw [limbs_zero];rfl
    · rw [limbs_pos h,val,ih _ (by omega)]
      omega
def Dig (l:List Int):Prop:=∀ x∈l,0≤x∧x<18446744073709551616
def Canon (l:List Int):Prop:=Dig l∧(∀ h:l≠[],l.getLast h≠0)
theorem limbs_ne {n:Nat}:limbs n=[]↔n=0:=by
  constructor
  · intro h
    have:=val_limbs n
    rw [h] at this
    exact this.symm
  · rintro rfl;exact limbs_zero
theorem Canon.limbs {l:List Int} (h:Canon l):l=limbs (val l):=by
  induction l with
  | nil=>rw [val,limbs_zero]
  | cons x r ih =>
    have hx:=h.1 x (by simp)
    have hr:Canon r:=⟨fun y hy=>h.1 y (List.mem_cons_of_mem _ hy),fun hne=>by have:=h.2 (by simp);rw [List.getLast_cons hne] at this;exact this⟩
    have hv:val (x::r)≠0:=by
      intro e
      simp only [val] at e
      cases r with
      | nil=>have:=h.2 (by simp);simp at this;omega
      | cons y r' =>
        have:Big.limbs (val (y::r'))=[]:=limbs_ne.2 (by omega)
        rw [← ih hr] at this
        simp at this
    rw [limbs_pos hv]
    have e1:val (x::r)%18446744073709551616=x.toNat:=by simp only [val];omega
    have e2:val (x::r)/18446744073709551616=val r:=by simp only [val];omega
    rw [e1,e2,← ih hr]
    congr 1
    omega
def sgn (x:Int):Bool:=decide (x<0)
def lm (x:Int):List Int:=limbs x.natAbs
def Rd (w:World) (l:List Int) (A:Option Addr) (c:Nat):Prop:=l.length≤c∧Kd.C (Kd.int .u64) w A l.length l
theorem Rd.below {w w1:World} {l:List Int} {A:Option Addr} {c:Nat} (h:Rd w l A c) (hb:Below w.heap.size w w1):Rd w1 l A c:=⟨h.1,Kd.C_below h.2 hb⟩
theorem Rd.nil (w:World):Rd w [] none 0:=⟨Nat.le_refl _,Kd.C_nil _ _⟩
end Go.Proofs.YtaeabemipnbgbaaW.Big
end
