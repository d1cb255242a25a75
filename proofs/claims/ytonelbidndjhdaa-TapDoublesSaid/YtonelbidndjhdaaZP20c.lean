/- The row of TapDoubles, out of its law by the reckoner: for every argument that reads as data the call returns true and leaves the argument as it was. -/
import Derived.Test.YtonelbidndjhdaaZP20b
import Derived.Deep.Slices
import Derived.OpenShut
import Derived.SizedLaws
import Derived.Test.YtonelbidndjhdaaRows
import Derived.WalkKit
import Derived.ProofKit
import Derived.ShutString
import Derived.ChangeOld
import Derived.Below
import Derived.Carry
section
set_option linter.unusedVariables false
set_option linter.unusedSimpArgs false
namespace Go.Proofs.Ytonelbidndjhdaa.Wh
open Go Go.RowKit Go.Proofs.YtonelbidndjhdaaW.PrintWords Go.Proofs.YtonelbidndjhdaaW.PrintMore Go.Proofs.YtonelbidndjhdaaW.Aid Go.Proofs.YtonelbidndjhdaaW.Big Go.Proofs.YtonelbidndjhdaaW.Sx Go.Proofs.Ytonelbidndjhdaa.BitsWalk Go.Proofs.Ytonelbidndjhdaa.Limbs Go.Proofs.Ytonelbidndjhdaa.Whole Go.Proofs.Ytonelbidndjhdaa.FxWalk Go.Proofs
abbrev tV4 (p:Int × Int × Int × Int):TV := .tup [(true,[.v (.int .i64 p.1),.v (.int .i64 p.2.1),.v (.int .i64 p.2.2.1)]),(false,[.v (.int .i64 p.2.2.2)])]
theorem v4_eq {x y z e:Int} {p:Int × Int × Int × Int} (h:(x,y,z,e)=p):(some (CR.tv (.tup [(true,[.v (.int .i64 x),.v (.int .i64 y),.v (.int .i64 z)]),(false,[.v (.int .i64 e)])])):Option CR)=some (CR.tv (tV4 p)):=by rw [← h]
def vT (a b c:Int):Int × Int × Int × Int:=if (wd a&&(wd b&&wd c))=true then (a,b,c,0) else (0,0,0,2)
theorem tR_bad {a:Int} (h:((toldR a).2 != 0)=true):wd a=false∧(toldR a).2=2:=by
  unfold toldR at *
  by_cases hw:wd a=true
  · rw [if_pos hw] at h;exact absurd (show ((0:Int) != 0)=true from h) (by decide)
  · rw [if_neg hw];exact ⟨by simpa using hw,rfl⟩
theorem tR_ok {a:Int} (h:((toldR a).2 != 0)=false):wd a=true∧(toldR a).1=a:=by
  unfold toldR at *
  by_cases hw:wd a=true
  · rw [if_pos hw];exact ⟨hw,rfl⟩
  · rw [if_neg hw] at h;exact absurd (show ((2:Int) != 0)=false from h) (by decide)
theorem vT_1 {a b c:Int} (h:((toldR a).2 != 0)=true):((0:Int),(0:Int),(0:Int),(toldR a).2)=vT a b c:=by
  obtain ⟨h1,h2⟩:=tR_bad h
  unfold vT;rw [h2,if_neg (by simp [h1])]
theorem vT_2 {a b c:Int} (h:((toldR b).2 != 0)=true):((0:Int),(0:Int),(0:Int),(toldR b).2)=vT a b c:=by
  obtain ⟨h1,h2⟩:=tR_bad h
  unfold vT;rw [h2,if_neg (by simp [h1])]
theorem vT_3 {a b c:Int} (h:((toldR c).2 != 0)=true):((0:Int),(0:Int),(0:Int),(toldR c).2)=vT a b c:=by
  obtain ⟨h1,h2⟩:=tR_bad h
  unfold vT;rw [h2,if_neg (by simp [h1])]
theorem vT_4 {a b c:Int} (h:((toldR a).2 != 0)=false) (h':((toldR b).2 != 0)=false) (h'':((toldR c).2 != 0)=false):((toldR a).1,(toldR b).1,(toldR c).1,(0:Int))=vT a b c:=by
  obtain ⟨h1,h2⟩:=tR_ok h
  obtain ⟨h3,h4⟩:=tR_ok h'
  obtain ⟨h5,h6⟩:=tR_ok h''
  unfold vT;rw [h2,h4,h6,if_pos (by simp [h1,h3,h5])]
abbrev gV (x y z:Int):Bool:=allw [x,y,z]
theorem gV_iff {x y z:Int}:gV x y z=true↔wd x=true∧wd y=true∧wd z=true:=by simp [gV,allw]
theorem gV_bd {a b c:Int} (h:gV a b c=true):(-35184372088832<a∧a<35184372088832)∧(-35184372088832<b∧b<35184372088832)∧(-35184372088832<c∧c<35184372088832):=by
  obtain ⟨h1,h2,h3⟩:=gV_iff.1 h
  exact ⟨wd_iff.1 h1,wd_iff.1 h2,wd_iff.1 h3⟩
theorem and_tt {a b:Bool} (h:a=true) (h':b=true):(a&&b)=true:=by rw [h,h'];rfl
section
set_option maxRecDepth 100000
set_option maxHeartbeats 4000000
def cVOf:Con Try.prog where
  f:=46
  sem:=fun xs=>match xs with
    | [.agg [.v (.int .i64 x),.v (.int .i64 y),.v (.int .i64 z)]]=>some (True,.new 2 3 1 [.v (.int .i64 x),.v (.int .i64 y),.v (.int .i64 z)])
    | _=>none
  ok := by
    intro xs p r' h hp
    refine ⟨⟨_,Try.func46,by kernel_rfl,rfl⟩,fun us w ha=>?_⟩
    split at h
    · rename_i x y z
      cases h
      refine fn_ret (cxOk Try.prog ints_ok [] []) follows Try.func46 rfl 100 _ rfl (by simp) ?_ ha
      repeat' first
        | exact trivial
        | (refine And.intro (show regChk _ _ _ _ _=true from by kernel_rfl) (And.intro ?_ ?_))
        | (refine And.intro (fun _=>?_) (fun h=>absurd (show true=false from h) (by decide)))
        | (refine And.intro (fun h=>absurd (show false=true from h) (by decide)) (fun _=>?_))
        | (refine And.intro (fun hb=>?_) (fun hb'=>?_))
        | refine And.intro ?_ ?_
      all_goals first
        | (show some (CR.new _ _ _ _)=some (CR.new _ _ _ _);rfl)
        | (show (_:Nat)=(_:Nat);rfl)
        | (show (_:Nat)≤1000;decide)
        | (show (_:Int)=(_:Int);rfl)
        | (show (_:Int)≤_;decide)
        | (show (_:Int)<_;decide)
        -- PVC
    · cases h
def cVGood:Con Try.prog where
  f:=60
  sem:=fun xs=>match xs with
    | [.agg [.v (.int .i64 x),.v (.int .i64 y),.v (.int .i64 z)]]=>some (True,.tv (tB (gV x y z)))
    | _=>none
  ok := by
    intro xs p r' h hp
    refine ⟨⟨_,Try.func60,by kernel_rfl,rfl⟩,fun us w ha=>?_⟩
    split at h
    · rename_i x y z
      cases h
      refine fn_ret (cxOk Try.prog ints_ok [] [cAll]) follows Try.func60 rfl 100 _ rfl (by simp) ?_ ha
      repeat' first
        | exact trivial
        | (refine And.intro (show regChk _ _ _ _ _=true from by kernel_rfl) (And.intro ?_ ?_))
        | (refine And.intro (fun _=>?_) (fun h=>absurd (show true=false from h) (by decide)))
        | (refine And.intro (fun h=>absurd (show false=true from h) (by decide)) (fun _=>?_))
        | (refine And.intro (fun hb=>?_) (fun hb'=>?_))
        | refine And.intro ?_ ?_
      all_goals first
        | (show some (CR.tv (tB _))=some (CR.tv (tB _));exact tB_eq rfl)
        | (show (_:Nat)=(_:Nat);rfl)
        | (show (_:Nat)≤1000;decide)
        | (show (_:Int)=(_:Int);rfl)
        | (show (_:Int)≤_;decide)
        | (show (_:Int)<_;decide)
        -- PVC
    · cases h
def cVTold:Con Try.prog where
  f:=52
  sem:=fun xs=>match xs with
    | [.row 3 [.neg a,.mag a',.neg b,.mag b',.neg c,.mag c']]=>some (a'=a∧b'=b∧c'=c,.tv (tV4 (vT a b c)))
    | _=>none
  ok := by
    intro xs p r' h hp
    refine ⟨⟨_,Try.func52,by kernel_rfl,rfl⟩,fun us w ha=>?_⟩
    split at h
    · rename_i a a' b b' c c'
      cases h
      obtain ⟨rfl,rfl,rfl⟩:=hp
      refine fnu_ret (cxOk Try.prog ints_ok [] [cTold]) follows [0,2,3,4,9,10,11] Try.func52 rfl 100 _ rfl (by simp) ?_ ha
      repeat' first
        | exact trivial
        | (refine And.intro (show regChk _ _ _ _ _=true from by kernel_rfl) (And.intro ?_ ?_))
        | (refine And.intro (fun _=>?_) (fun h=>absurd (show true=false from h) (by decide)))
        | (refine And.intro (fun h=>absurd (show false=true from h) (by decide)) (fun _=>?_))
        | (refine And.intro (fun hb=>?_) (fun hb'=>?_))
        | refine And.intro ?_ ?_
      all_goals first
        | (show some (CR.tv (.tup _))=some (CR.tv (tV4 _));first|exact v4_eq (vT_1 (by assumption))|exact v4_eq (vT_2 (by assumption))|exact v4_eq (vT_3 (by assumption))|exact v4_eq (vT_4 (by assumption) (by assumption) (by assumption)))
        | (show (_:Nat)=(_:Nat);rfl)
        | (show (_:Nat)≤1000;decide)
        | (show (_:Int)=(_:Int);rfl)
        | (show (_:Int)≤_;decide)
        | (show (_:Int)<_;decide)
        -- PVC
    · cases h
end
end Go.Proofs.Ytonelbidndjhdaa.Wh
end
section
set_option linter.unusedVariables false
set_option linter.unusedSimpArgs false
namespace Go.Proofs.Ytonelbidndjhdaa.Wh
open Go Go.RowKit Go.Proofs.YtonelbidndjhdaaW.PrintWords Go.Proofs.YtonelbidndjhdaaW.PrintMore Go.Proofs.YtonelbidndjhdaaW.PrintLast Go.Proofs.YtonelbidndjhdaaW.Aid Go.Proofs.YtonelbidndjhdaaW.Big Go.Proofs.YtonelbidndjhdaaW.Sx Go.Proofs.Ytonelbidndjhdaa.BitsWalk Go.Proofs.Ytonelbidndjhdaa.Limbs Go.Proofs.Ytonelbidndjhdaa.Whole Go.Proofs.Ytonelbidndjhdaa.FxWalk Go.Proofs
def isqN (m:Nat):Nat→Nat
  | 0=>0
  | k+1=>if (k+1)*(k+1)≤m then k+1 else isqN m k
theorem isqN_spec (m:Nat):∀ k,isqN m k*isqN m k≤m∧∀ j,j≤k→j*j≤m→j≤isqN m k
  | 0=>⟨Nat.zero_le _,fun j h _=>by omega⟩
  | k + 1 => by
    unfold isqN
    split
    · rename_i h;exact ⟨h,fun j hj _=>hj⟩
    · rename_i h
      refine ⟨(isqN_spec m k).1,fun j hj hm=>?_⟩
      by_cases e:j=k+1
      · subst e;exact absurd hm h
      · exact (isqN_spec m k).2 j (by omega) hm
def isq (n:Int):Int:=(isqN n.natAbs n.natAbs:Nat)
theorem isq_spec {n:Int} (h:0≤n):0≤isq n∧isq n*isq n≤n∧n<(isq n+1)*(isq n+1):=by
  obtain ⟨m,rfl⟩:∃ m:Nat,n=(m:Int):=⟨n.natAbs,by omega⟩
  obtain ⟨h1,h2⟩:=isqN_spec m m
  unfold isq
  rw [Int.natAbs_natCast]
  generalize isqN m m=r at *
  refine ⟨by omega,by exact_mod_cast h1,?_⟩
  by_cases hc:(r+1)*(r+1)≤m
  · have:=h2 (r+1) (by have:=Nat.le_mul_self (r+1);omega) hc
    omega
  · have:m<(r+1)*(r+1):=by omega
    exact_mod_cast this
theorem sq_lt {a b:Int} (ha:0≤a) (hb:0≤b) (h:a*a<b*b):a<b:=by
  by_cases hc:a<b
  · exact hc
  · exact absurd (Int.mul_le_mul (show b≤a by omega) (show b≤a by omega) hb ha) (by omega)
theorem isq_uniq {n r:Int} (h0:0≤r) (h1:r*r≤n) (h2:n<(r+1)*(r+1)):isq n=r:=by
  obtain ⟨a,b,c⟩:=isq_spec (n:=n) (Int.le_trans (Int.mul_nonneg h0 h0) h1)
  have:=sq_lt (a:=isq n) (b:=r+1) a (by omega) (by omega)
  have:=sq_lt (a:=r) (b:=isq n+1) h0 (by omega) (by omega)
  omega
theorem newton_ge {n x s:Int} (hx:0<x) (h:s*s≤n):s≤(x+n/x)/2:=by
  have e:(2*s-x)*x=s*s-(s-x)*(s-x):=by
    simp only [Int.sub_mul,Int.mul_sub,Int.mul_assoc,Int.mul_comm x s]
    omega
  have h0:0≤(s-x)*(s-x):=by
    rcases Int.le_total 0 (s-x) with h|h
    · exact Int.mul_nonneg h h
    · exact Int.mul_nonneg_of_nonpos_of_nonpos h h
  have:=Int.le_ediv_of_mul_le hx (show (2*s-x)*x≤n by omega)
  omega
theorem newton_le {n x:Int} (hx:0<x) (h:x≤(x+n/x)/2):x*x≤n:=Int.mul_le_of_le_ediv hx (by omega)
theorem bl_lt:∀ (f x:Nat),x<2 ^ f→x<2 ^ Lib.bitLenAux f x
  | 0,x,h=>h
  | f + 1, x, h => by
    unfold Lib.bitLenAux
    split
    · rename_i h0;subst h0;exact Nat.one_pos
    · have:=bl_lt f (x/2) (by rw [Nat.pow_succ] at h;omega)
      rw [Nat.add_comm,Nat.pow_succ]
      omega
theorem bl_le (x:Nat) (h:x<18446744073709551616):Lib.bitLen x≤64:=Lib.bitLen_le x 64 (by omega) h
def lenI (x:Int):Int:=if x.natAbs=0 then 0 else if x.natAbs<18446744073709551616 then (Lib.bitLen x.natAbs:Nat) else 64+(Lib.bitLen (x.natAbs/18446744073709551616):Nat)
theorem len_spec {x:Int} (h:x.natAbs<340282366920938463463374607431768211456):0≤lenI x∧lenI x≤128∧x.natAbs<2 ^ (lenI x).toNat:=by
  unfold lenI
  split
  · rename_i h0;rw [h0];decide
  · split
    · rename_i h1
      have:=bl_le _ h1
      refine ⟨by omega,by omega,?_⟩
      rw [Int.toNat_natCast]
      exact bl_lt 64 _ h1
    · have h2:x.natAbs/18446744073709551616<18446744073709551616:=by omega
      have h3:=bl_le _ h2
      have h4:x.natAbs/18446744073709551616<2 ^ Lib.bitLen (x.natAbs/18446744073709551616):=bl_lt 64 _ h2
      refine ⟨by omega,by omega,?_⟩
      rw [show (64+(Lib.bitLen (x.natAbs/18446744073709551616):Int)).toNat=64+Lib.bitLen (x.natAbs/18446744073709551616) by omega,Nat.pow_add]
      generalize 2 ^ Lib.bitLen (x.natAbs/18446744073709551616)=p at *
      omega
def conU (f:FuncId) (pre:Int→Prop) (r:Int→CR) (hf:FOk Try.prog f) (ok:∀ n w,pre n→Ret Try.prog f #[.int .u64 n] w (r n)):Con Try.prog where
  f:=f
  sem:=fun xs=>match xs with
    | [.sc (.v (.int .u64 n))]=>some (pre n,r n)
    | _=>none
  ok:=by
    intro xs p r' h hp
    refine ⟨hf,fun us w ha=>?_⟩
    split at h
    · rename_i n
      cases h
      obtain ⟨u,rfl,h1⟩:=all2_1 ha
      rw [show _=_ from h1]
      exact ok n w hp
    · cases h
def cLen64:Con Try.prog:=conU 138 (fun n=>0≤n∧n<18446744073709551616) (fun n => .tv (tN .i64 ((Lib.bitLen n.toNat:Nat):Int))) ⟨_,Try.func138,by kernel_rfl,rfl⟩
  (fun n w h=>(Long.len64_calls n w h.1 h.2).mono fun e w' h=>⟨_,h.1,rfl,by rw [← h.2];exact Below.refl _ w⟩)
theorem top_ix {x:Int} (hl:x.natAbs<340282366920938463463374607431768211456) (h:(((lm x).length:Int) == 0)=false):IntKind.i64.wrap (((lm x).length:Int)-1)=((lm x).length:Int)-1∧0<(lm x).length∧(lm x).length≤2:=by
  have h2:(lm x).length≤2:=limbs_len (k:=2) (by simpa using hl)
  have h0:0<(lm x).length:=by have:=len_gt h;omega
  refine ⟨?_,h0,h2⟩
  rw [i64_w,wrap64_id (by omega) (by omega)]
theorem len_fin {x:Int} (hl:x.natAbs<340282366920938463463374607431768211456) (h:(((lm x).length:Int) == 0)=false) :
    IntKind.i64.wrap (IntKind.i64.wrap (64*IntKind.i64.wrap (((lm x).length:Int)-1))+((Lib.bitLen (rd (lm x) (IntKind.i64.wrap (((lm x).length:Int)-1))).toNat:Nat):Int))=lenI x:=by
  rw [(top_ix hl h).1]
  have h0:x.natAbs≠0:=by
    intro e
    have:=(top_ix hl h).2.1
    unfold lm at this;rw [e,limbs_zero] at this;exact absurd this (by decide)
  unfold lenI
  rw [if_neg h0]
  by_cases h1:x.natAbs<18446744073709551616
  · have e:lm x=[(x.natAbs:Int)]:=limbs_word h0 h1
    have:=bl_le _ h1
    rw [if_pos h1,e]
    simp only [i64_w,List.length_singleton]
    rw [show (64*(((1:Nat):Int)-1))=0 from rfl,show ((1:Nat):Int)-1=0 from rfl,show wrap64 0=0 from wrap64_id (by omega) (by omega),show rd [(x.natAbs:Int)] 0=(x.natAbs:Int) from rfl,Int.toNat_natCast,wrap64_id (by omega) (by omega)]
    omega
  · have e:lm x=[((x.natAbs%18446744073709551616:Nat):Int),((x.natAbs/18446744073709551616:Nat):Int)]:=by
      show limbs x.natAbs=_
      rw [limbs_pos h0,limbs_word (by omega) (by omega)]
    have:=bl_le (x.natAbs/18446744073709551616) (by omega)
    rw [if_neg h1,e]
    simp only [i64_w,List.length_cons,List.length_nil]
    rw [show (64*(((0+1+1:Nat):Int)-1))=64 from rfl,show ((0+1+1:Nat):Int)-1=1 from rfl,show wrap64 64=64 from wrap64_id (by omega) (by omega),show rd [((x.natAbs%18446744073709551616:Nat):Int),((x.natAbs/18446744073709551616:Nat):Int)] 1=((x.natAbs/18446744073709551616:Nat):Int) from rfl,Int.toNat_natCast,wrap64_id (by omega) (by omega)]
theorem rd_lm (x i:Int):0≤rd (lm x) i∧rd (lm x) i<18446744073709551616:=by
  by_cases h:i.toNat<(lm x).length
  · have e:rd (lm x) i=(lm x)[i.toNat]:=by unfold rd;simp [List.getD_eq_getElem?_getD,h]
    rw [e]
    exact limbs_dig _ _ (List.getElem_mem h)
  · have e:rd (lm x) i=0:=by unfold rd;simp [List.getD_eq_getElem?_getD,h]
    rw [e];decide
theorem top_ge {x:Int} (hl:x.natAbs<340282366920938463463374607431768211456) (h:(((lm x).length:Int) == 0)=false):0≤IntKind.i64.wrap (((lm x).length:Int)-1)∧IntKind.i64.wrap (((lm x).length:Int)-1)<((lm x).length:Int):=by
  obtain ⟨h1,h2,h3⟩:=top_ix hl h
  omega
theorem len_zero {x:Int} (h:(((lm x).length:Int) == 0)=true):0=lenI x:=by
  have h':=beq_iff_eq.1 h
  have:x=0:=lm_nil'.1 (by omega)
  subst this
  rfl
theorem n_eq {z z':Int} (h:z=z'):(some (CR.tv (tN .i64 z)):Option CR)=some (CR.tv (tN .i64 z')):=by rw [h]
section
set_option maxRecDepth 100000
set_option maxHeartbeats 1000000
def cLen:Con Try.prog:=con1 135 (fun x=>x.natAbs<340282366920938463463374607431768211456) (fun x => .tv (tN .i64 (lenI x))) ⟨_,Try.func135,by kernel_rfl,rfl⟩ (fun x A c w hl hr=>by
  refine fn_ret (cxOk Try.prog ints_ok [] [cLen64]) follows Try.func135 rfl 100 _ rfl (by simp) ?_ (args1 hr)
  repeat' first
    | exact trivial
    | (refine And.intro (show regChk _ _ _ _ _=true from by kernel_rfl) (And.intro ?_ ?_))
    | (refine And.intro (fun hb=>?_) (fun hb'=>?_))
    | refine And.intro ?_ ?_
    | intro _
  all_goals first
    | (show some (CR.tv (tN .i64 _))=some (CR.tv (tN .i64 _));first|exact n_eq (len_fin hl (by assumption))|exact n_eq (len_zero (by assumption)))
    | (show (0:Int)≤rd _ _;exact (rd_lm _ _).1)
    | (show rd _ _<(_:Int);exact (rd_lm _ _).2)
    | (show (0:Int)≤IntKind.i64.wrap _;exact (top_ge hl (by assumption)).1)
    | (show IntKind.i64.wrap _<(_:Int);exact (top_ge hl (by assumption)).2))
def flL (n:Int):LI Int where
  gs:=fun x=>[(1,.ptr 1 0),(2,.ptr 2 0),(3,.ptr 3 0)]
  bs:=fun x=>[(1,84,[.neg n,.mag n]),(2,84,[.neg 0,.mag 0]),(3,84,[.neg x,.mag x])]
  I:=fun x=>isq n≤x∧x≤4611686018427387904
  μ:=fun x=>x.toNat
theorem len_128 {x:Int} (h0:0≤x) (h:x<340282366920938463463374607431768211456):Len0 x:=by
  have:(lm x).length≤2:=limbs_len (k:=2) (by show x.natAbs<340282366920938463463374607431768211456;omega)
  show (lm x).length≤1000
  omega
theorem isq_pos {n:Int} (h0:0≤n) (h:decide (n=0)=false):1≤isq n:=by
  have h':=of_decide_eq_false h
  obtain ⟨a,b,c⟩:=isq_spec h0
  by_cases hz:isq n=0
  · rw [hz] at c;omega
  · omega
theorem fl_v {n v:Int} (h0:0≤n) (h:decide (n=0)=false) (hv:isq n≤v∧v≤4611686018427387904):0<v∧v<18446744073709551616:=by
  have:=isq_pos h0 h
  omega
theorem fl_q {n v:Int} (h0:0≤n) (hn:n<1329227995784915872903807060280344576) (h:decide (n=0)=false) (hv:isq n≤v∧v≤4611686018427387904):0≤n/v∧n/v<1329227995784915872903807060280344576:=by
  have hp:=(fl_v h0 h hv).1
  have:=Int.ediv_nonneg h0 (show 0≤v by omega)
  have:=Int.ediv_le_self v h0
  omega
theorem fl_e (x:Int):x/2 ^ Int.toNat 1=x/2:=rfl
theorem cmpI_ge {x y:Int} (h:decide (cmpI x y≥0)=true):y≤x:=by
  have:=of_decide_eq_true h
  unfold cmpI at this
  split at this
  · omega
  · omega
theorem cmpI_lt {x y:Int} (h:decide (cmpI x y≥0)=false):x<y:=by
  have:=of_decide_eq_false h
  unfold cmpI at this
  split at this
  · assumption
  · split at this<;>omega
theorem fl_done {n v:Int} (h0:0≤n) (h:decide (n=0)=false) (hv:isq n≤v∧v≤4611686018427387904) (hc:decide (cmpI ((v+n/v)/2 ^ Int.toNat 1) v≥0)=true):v=isq n:=by
  have hp:=(fl_v h0 h hv).1
  have h1:=newton_le hp (cmpI_ge (by rw [fl_e] at hc;exact hc))
  obtain ⟨a,b,c⟩:=isq_spec h0
  have:=sq_lt (a:=v) (b:=isq n+1) (by omega) (by omega) (by omega)
  omega
theorem fl_next {n v:Int} (h0:0≤n) (h:decide (n=0)=false) (hv:isq n≤v∧v≤4611686018427387904) (hc:decide (cmpI ((v+n/v)/2 ^ Int.toNat 1) v≥0)=false) :
    ((v+n/v)/2 ^ Int.toNat 1).toNat<v.toNat∧isq n≤(v+n/v)/2 ^ Int.toNat 1∧(v+n/v)/2 ^ Int.toNat 1≤4611686018427387904:=by
  have hp:=(fl_v h0 h hv).1
  rw [fl_e] at hc ⊢
  have h1:=cmpI_lt hc
  have h2:=newton_ge hp (isq_spec h0).2.1
  have:=isq_pos h0 h
  generalize (v+n/v)/2=y at *
  omega
theorem fl_zero {n:Int} (h:decide (n=0)=true):0=isq n:=by
  rw [of_decide_eq_true h];rfl
theorem fl_pw {n:Int} (h0:0≤n) (hn:n<1329227995784915872903807060280344576):0≤IntKind.i64.wrap (IntKind.i64.wrap ((lenI n).tdiv 2)+1)∧IntKind.i64.wrap (IntKind.i64.wrap ((lenI n).tdiv 2)+1)≤61∧isq n≤2 ^ (IntKind.i64.wrap (IntKind.i64.wrap ((lenI n).tdiv 2)+1)).toNat:=by
  have hb:lenI n≤120:=by
    unfold lenI
    split
    · decide
    · split
      · have:=bl_le n.natAbs (by omega);omega
      · have:=Lib.bitLen_le (n.natAbs/18446744073709551616) 56 (by omega) (by show _<72057594037927936;omega);omega
  obtain ⟨a,b,c⟩:=len_spec (x:=n) (by omega)
  have e:(lenI n).tdiv 2=lenI n/2:=Int.tdiv_eq_ediv_of_nonneg a
  rw [i64_w,i64_w,e,wrap64_id (x:=lenI n/2) (by omega) (by omega),wrap64_id (by omega) (by omega)]
  refine ⟨by omega,by omega,?_⟩
  generalize lenI n=L at *
  obtain ⟨r1,r2,r3⟩:=isq_spec h0
  have:isq n<2 ^ (L/2+1).toNat:=by
    refine sq_lt r1 (Int.pow_nonneg (by decide)) (Int.lt_of_le_of_lt r2 ?_)
    rw [← Int.pow_add]
    have h1:(n.natAbs:Int)<2 ^ L.toNat:=by exact_mod_cast c
    have h2:(2:Int) ^ L.toNat≤2 ^ ((L/2+1).toNat+(L/2+1).toNat):=by
      have:=Nat.pow_le_pow_right (show 0<2 by decide) (show L.toNat≤(L/2+1).toNat+(L/2+1).toNat by omega)
      exact_mod_cast this
    omega
  omega
theorem pow_61 {k:Int} (h:k≤61):(2:Int) ^ k.toNat≤4611686018427387904:=by
  have h1:2 ^ k.toNat≤2 ^ 62:=Nat.pow_le_pow_right (show 0<2 by decide) (show k.toNat≤62 by omega)
  have h2:=Int.ofNat_le.2 h1
  rw [Int.natCast_pow] at h2
  exact h2
def cFloor:Con Try.prog:=con1 116 (fun n=>0≤n∧n<1329227995784915872903807060280344576) (fun n => .tv (tI (isq n))) ⟨_,Try.func116,by kernel_rfl,rfl⟩ (fun n A c w hl hr=>by
  obtain ⟨h0,hn⟩:=hl
  refine fnl_ret (flL n) (cxOk Try.prog ints_ok [] [cLen,cDown,cRight,cAdd,cCmp,cZero,cPower]) follows Try.func116 rfl 100 _ rfl (by simp) ?_ (args1 hr)
  repeat' first
    | exact trivial
    | (refine And.intro (show regChk _ _ _ _ _=true from by kernel_rfl) (And.intro ?_ ?_))
    | (refine And.intro (fun hb=>?_) (fun hb'=>?_))
    | refine And.intro ?_ ?_
    | (show ¬ _;show (2:Int)≠0;decide)
    | intro _
  all_goals first
    | (show (_:Int)=(_:Int);rfl)
    | (show wfB _ _=true;rfl)
    | (show Int.natAbs _<(_:Nat);omega)
    | (show (0:Int)≤IntKind.i64.wrap _;exact (fl_pw h0 hn).1)
    | (show IntKind.i64.wrap _≤(6400:Int);exact Int.le_trans (fl_pw h0 hn).2.1 (by decide))
    | (show (∃ v,atL (flL n) v _);exact ⟨_,⟨(fl_pw h0 hn).2.2,pow_61 (fl_pw h0 hn).2.1⟩,⟨rfl,rfl,rfl,trivial⟩,⟨rfl,⟨rfl,rfl,trivial⟩,⟨rfl,⟨rfl,rfl,trivial⟩,⟨rfl,⟨rfl,rfl,trivial⟩,trivial⟩⟩⟩⟩)
    | (show (∃ v',(flL n).μ v'<(flL n).μ _∧atL (flL n) v' _);exact ⟨_,(fl_next h0 (by assumption) (by assumption) (by assumption)).1,(fl_next h0 (by assumption) (by assumption) (by assumption)).2,⟨rfl,rfl,rfl,trivial⟩,⟨rfl,⟨rfl,rfl,trivial⟩,⟨rfl,⟨rfl,rfl,trivial⟩,⟨rfl,⟨rfl,rfl,trivial⟩,trivial⟩⟩⟩⟩)
    | (show Len0 n;exact len_128 h0 (by omega))
    | (show Len0 (_+_);exact len_128 (by have:=fl_v h0 (by assumption) (by assumption);have:=fl_q h0 hn (by assumption) (by assumption);omega) (by have:=fl_v h0 (by assumption) (by assumption);have:=fl_q h0 hn (by assumption) (by assumption);omega))
    | (show Len0 (_/_);exact len_128 (fl_q h0 hn (by assumption) (by assumption)).1 (by have:=fl_q h0 hn (by assumption) (by assumption);omega))
    | (show Len0 _;exact len_128 (by have:=fl_v h0 (by assumption) (by assumption);omega) (by have:=fl_v h0 (by assumption) (by assumption);omega))
    | (show (0:Int)<_;exact (fl_v h0 (by assumption) (by assumption)).1)
    | (show _<(18446744073709551616:Int);exact (fl_v h0 (by assumption) (by assumption)).2)
    | (show (0:Int)≤_+_;have:=fl_v h0 (by assumption) (by assumption);have:=fl_q h0 hn (by assumption) (by assumption);omega)
    | (show (_:Int)≤_;decide)
    | (show some (CR.tv (tI _))=some (CR.tv (tI _));first|exact wh_eq (fl_zero (by assumption))|exact wh_eq (fl_done h0 (by assumption) (by assumption) (by assumption))))
theorem len_mul (x y:Int):(lm (x*y)).length≤(lm x).length+(lm y).length:=by
  refine limbs_len ?_
  rw [Int.natAbs_mul,Nat.pow_add]
  have h1:x.natAbs<18446744073709551616 ^ (lm x).length:=by have:=val_lt (limbs_dig x.natAbs);rw [val_limbs] at this;exact this
  have h2:y.natAbs<18446744073709551616 ^ (lm y).length:=by have:=val_lt (limbs_dig y.natAbs);rw [val_limbs] at this;exact this
  exact Nat.mul_lt_mul'' h1 h2
def nearB (n d x:Int):Bool:=bif decide (cmpI ((x*2 ^ Int.toNat 1+1)*(x*2 ^ Int.toNat 1+1)*d) (n*2 ^ Int.toNat 2)<0) then true else bif cmpI ((x*2 ^ Int.toNat 1+1)*(x*2 ^ Int.toNat 1+1)*d) (n*2 ^ Int.toNat 2) == 0 then !decide (x%2=0) else false
def nearR (n d:Int):Int:=if nearB n d (isq (n/d))=true then isq (n/d)+1 else isq (n/d)
theorem isq_le {n:Int} (h0:0≤n) (hn:n<1329227995784915872903807060280344576):0≤isq n∧isq n<1329227995784915872903807060280344576:=by
  obtain ⟨a,b,c⟩:=isq_spec h0
  refine ⟨a,?_⟩
  by_cases h:isq n=0
  · omega
  · have:=Int.mul_le_mul_of_nonneg_left (show 1≤isq n by omega) a
    omega
theorem div_bd {n d:Int} (h0:0≤n) (hn:n<1329227995784915872903807060280344576) (hd:0<d):0≤n/d∧n/d<1329227995784915872903807060280344576:=by
  have:=Int.ediv_nonneg h0 (show 0≤d by omega)
  have:=Int.ediv_le_self d h0
  omega
theorem len2 {x:Int} (h0:0≤x) (h:x<340282366920938463463374607431768211456):(lm x).length≤2:=limbs_len (k:=2) (by show x.natAbs<340282366920938463463374607431768211456;omega)
theorem near1 {n d:Int} (h:nearB n d (isq (n/d))=true):isq (n/d)+1=nearR n d:=by unfold nearR;rw [if_pos h]
theorem near0 {n d:Int} (h:nearB n d (isq (n/d))=false):isq (n/d)=nearR n d:=by unfold nearR;rw [h];rfl
def cNearest:Con Try.prog:=con2 92 (fun n d=>(0≤n∧n<1329227995784915872903807060280344576)∧0<d∧d<18446744073709551616) (fun n d => .tv (tI (nearR n d))) ⟨_,Try.func92,by kernel_rfl,rfl⟩ (fun n d A A' c c' w hl hr hr'=>by
  obtain ⟨⟨h0,hn⟩,hd,hd'⟩:=hl
  have q:=div_bd h0 hn hd
  have s:=isq_le q.1 q.2
  have l1:Len0 (isq (n/d)):=len_128 s.1 (by omega)
  have l2:Len0 (isq (n/d)*2 ^ Int.toNat 1):=len_128 (by show 0≤_*2;omega) (by show _*2<(_:Int);omega)
  have l4:(lm (isq (n/d)*2 ^ Int.toNat 1+1)).length≤2:=len2 (by show 0≤_*2+1;omega) (by show _*2+1<(_:Int);omega)
  have l3:Len0 (isq (n/d)*2 ^ Int.toNat 1+1):=Nat.le_trans l4 (by decide)
  have l5:Len0 ((isq (n/d)*2 ^ Int.toNat 1+1)*(isq (n/d)*2 ^ Int.toNat 1+1)):=Nat.le_trans (len_mul _ _) (by omega)
  have l6:(lm d).length≤1:=lm_one d (by omega)
  have l7:Len0 n:=len_128 h0 (by omega)
  refine fn_ret (cxOk Try.prog ints_ok [] [cFloor,cDown,cLeft,cOne,cAdd,cMul,cCmp,cEven]) follows Try.func92 rfl 100 _ rfl (by simp) ?_ (args2 hr hr')
  repeat' first
    | exact trivial
    | (refine And.intro (show regChk _ _ _ _ _=true from by kernel_rfl) (And.intro ?_ ?_))
    | (refine And.intro (fun hb=>?_) (fun hb'=>?_))
    | refine And.intro ?_ ?_
    | intro _
  all_goals first
    | (show (_:Int)=(_:Int);rfl)
    | (show Len0 _;first|exact l7|exact l1|exact l2|exact l3|exact l5|exact len_1)
    | (show List.length _<24;first|exact Nat.lt_of_le_of_lt l6 (by decide)|exact Nat.lt_of_le_of_lt l4 (by decide))
    | (show (0:Int)≤(1:Int);decide)
    | (show (0:Int)≤(2:Int);decide)
    | (show (_:Int)≤6400;decide)
    | exact q.1
    | exact q.2
    | exact hd
    | exact hd'
    | (show some (CR.tv (tI _))=some (CR.tv (tI _));first|exact wh_eq (near1 (by assumption))|exact wh_eq (near0 (by assumption)))
    | (show (_:Bool)=(_:Bool);first|assumption|exact beq_iff_eq.2 (by assumption)|exact g2 (by assumption) (by assumption)))
end
end Go.Proofs.Ytonelbidndjhdaa.Wh
end
section
set_option linter.unusedVariables false
set_option linter.unusedSimpArgs false
namespace Go.Proofs.Ytonelbidndjhdaa.Wh
open Go Go.RowKit Go.Proofs.YtonelbidndjhdaaW.PrintWords Go.Proofs.YtonelbidndjhdaaW.PrintMore Go.Proofs.YtonelbidndjhdaaW.Aid Go.Proofs.YtonelbidndjhdaaW.Big Go.Proofs.YtonelbidndjhdaaW.Sx Go.Proofs.Ytonelbidndjhdaa.BitsWalk Go.Proofs.Ytonelbidndjhdaa.Limbs Go.Proofs.Ytonelbidndjhdaa.Whole Go.Proofs.Ytonelbidndjhdaa.FxWalk Go.Proofs
theorem len_b4 {x:Int} (h : -1000000000000000000000000000000000000000000000000000000000000000≤x) (h':x≤1000000000000000000000000000000000000000000000000000000000000000):Len0 x:=len_big (k:=4) (by decide) (Nat.lt_of_le_of_lt (show x.natAbs≤1000000000000000000000000000000000000000000000000000000000000000 by omega) (by decide +kernel))
theorem prod_bd {x y:Int} (hx:I64 x) (hy:I64 y) : -85070591730234615865843651857942052864≤x*y∧x*y≤85070591730234615865843651857942052864:=by
  have h1:x.natAbs≤9223372036854775808:=by unfold I64 at hx;omega
  have h2:y.natAbs≤9223372036854775808:=by unfold I64 at hy;omega
  have h3:(x*y).natAbs≤9223372036854775808*9223372036854775808:=by rw [Int.natAbs_mul];exact Nat.mul_le_mul h1 h2
  omega
theorem prodw {x y:Int} (hx:wd x=true) (hy:wd y=true) : -1237940039285380274899124224≤x*y∧x*y≤1237940039285380274899124224:=by
  rw [wd_iff] at hx hy
  have h1:x.natAbs≤35184372088832:=by omega
  have h2:y.natAbs≤35184372088832:=by omega
  have h3:(x*y).natAbs≤35184372088832*35184372088832:=by rw [Int.natAbs_mul];exact Nat.mul_le_mul h1 h2
  omega
theorem lm24 {x:Int} (h:I64 x):(lm x).length<24:=by have:=lm_one x (by unfold I64 at h;omega);omega
theorem len_I {x:Int} (h:I64 x):Len0 x:=len_i64 h.1 h.2
def q30 (n:Int):Int:=roundP n 1073741824
theorem q30_eq (n:Int):roundI n (2 ^ Int.toNat 30)=q30 n:=ri_p (by decide)
def dot3 (a b c d e f:Int):Int:=a*d+b*e+c*f
theorem dot3_eq (a b c d e f:Int):0+a*d+b*e+c*f=dot3 a b c d e f:=by unfold dot3;omega
theorem dot3_wd {a b c d e f:Int} (h:gV a b c=true) (h':gV d e f=true) : -3713820117856140824697372672≤dot3 a b c d e f∧dot3 a b c d e f≤3713820117856140824697372672:=by
  obtain ⟨a1,a2,a3⟩:=gV_iff.1 h
  obtain ⟨b1,b2,b3⟩:=gV_iff.1 h'
  have:=prodw a1 b1
  have:=prodw a2 b2
  have:=prodw a3 b3
  unfold dot3;omega
def guard2 (a b c d e f:Int) (p:Int × Int × Int × Int):Int × Int × Int × Int:=if gV a b c=true∧gV d e f=true then p else (0,0,0,1)
abbrev bad2 (a b c d e f:Int):Bool:=bif !gV a b c then true else !gV d e f
theorem bad2_iff {a b c d e f:Int}:bad2 a b c d e f=false↔gV a b c=true∧gV d e f=true:=by
  unfold bad2;cases gV a b c<;>cases gV d e f<;>simp
theorem g2_bad {a b c d e f:Int} {p:Int × Int × Int × Int} (h:bad2 a b c d e f=true):((0:Int),(0:Int),(0:Int),(1:Int))=guard2 a b c d e f p:=by
  unfold guard2;rw [if_neg (fun hk=>by rw [bad2_iff.2 hk] at h;cases h)]
theorem g2_ok {a b c d e f:Int} {p:Int × Int × Int × Int} (h:bad2 a b c d e f=false):(p.1,p.2.1,p.2.2.1,p.2.2.2)=guard2 a b c d e f p:=by
  unfold guard2;rw [if_pos (bad2_iff.1 h)]
theorem wrap_s {x y:Int} (hx:wd x=true) (hy:wd y=true):IntKind.i64.wrap (x-y)=x-y:=by
  rw [wd_iff] at hx hy;rw [i64_wrap];exact wrap64_id (by omega) (by omega)
theorem wrap_I (x:Int) : -9223372036854775808≤IntKind.i64.wrap x∧IntKind.i64.wrap x<9223372036854775808:=by rw [i64_wrap];unfold wrap64;omega
def normR (a b c:Int):Int × Int:=if gV a b c=true then toldR (nearR (dot3 a b c a b c) 1) else (0,1)
theorem norm_bad {a b c:Int} (h:(!gV a b c)=true):((0:Int),(1:Int))=((normR a b c).1,(normR a b c).2):=by
  unfold normR;rw [if_neg (by simpa using h)]
theorem norm_ok {a b c:Int} (h:(!gV a b c)=false):((toldR (nearR (dot3 a b c a b c) 1)).1,(toldR (nearR (dot3 a b c a b c) 1)).2)=((normR a b c).1,(normR a b c).2):=by
  unfold normR;rw [if_pos (by simpa using h)]
theorem nbf {b:Bool} (h:(!b)=false):b=true:=by cases b with|true=>rfl|false=>cases h
theorem sq_nn (x:Int):0≤x*x:=by rcases Int.le_total 0 x with h|h;exact Int.mul_nonneg h h;have:=Int.mul_nonneg (show 0 ≤ -x by omega) (show 0 ≤ -x by omega);rwa [Int.neg_mul_neg] at this
theorem dot_self {a b c:Int}:0≤dot3 a b c a b c:=by
  have:=sq_nn a;have:=sq_nn b;have:=sq_nn c;unfold dot3;omega
def subV (a b c d e f:Int):Int × Int × Int × Int:=guard2 a b c d e f (vT (a-d) (b-e) (c-f))
section
set_option maxRecDepth 100000
set_option maxHeartbeats 4000000
def cTimes:Con Try.prog where
  f:=76
  sem:=fun xs=>match xs with
    | [.sc (.v (.int .i64 x)),.sc (.v (.int .i64 y))]=>some (I64 x∧I64 y,.tv (tI (x*y)))
    | _=>none
  ok := by
    intro xs p r' h hp
    refine ⟨⟨_,Try.func76,by kernel_rfl,rfl⟩,fun us w ha=>?_⟩
    split at h
    · rename_i x y
      cases h
      obtain ⟨hx,hy⟩:=hp
      have hx1:=hx.1
      have hx2:=hx.2
      have hy1:=hy.1
      have hy2:=hy.2
      refine fn_ret (cxOk Try.prog ints_ok [] [cMul,cFrom]) follows Try.func76 rfl 100 _ rfl (by simp) ?_ ha
      repeat' first
        | exact trivial
        | (refine And.intro (show regChk _ _ _ _ _=true from by kernel_rfl) (And.intro ?_ ?_))
        | (refine And.intro (fun _=>?_) (fun h=>absurd (show true=false from h) (by decide)))
        | (refine And.intro (fun h=>absurd (show false=true from h) (by decide)) (fun _=>?_))
        | (refine And.intro (fun hb=>?_) (fun hb'=>?_))
        | refine And.intro ?_ ?_
      all_goals first
        | (show Len0 _;exact len_I hx)
        | exact lm24 hy
        | (show (_:Int)≤_;omega)
        | (show (_:Int)<_;omega)
        | exact hx.1
        | exact hx.2
        | exact hy.1
        | exact hy.2
        | (show some (CR.tv (tI _))=some (CR.tv (tI _));rfl)
        | (show (_:Nat)=(_:Nat);rfl)
        | (show (_:Nat)≤1000;decide)
        | (show (_:Int)=(_:Int);rfl)
        | (show (_:Int)≤_;decide)
        | (show (_:Int)<_;decide)
        -- PVC
    · cases h
def cShifted:Con Try.prog where
  f:=66
  sem:=fun xs=>match xs with
    | [.agg [.neg n,.mag n']]=>some (n'=n∧Len0 n,.tv (tI (q30 n)))
    | _=>none
  ok := by
    intro xs p r' h hp
    refine ⟨⟨_,Try.func66,by kernel_rfl,rfl⟩,fun us w ha=>?_⟩
    split at h
    · rename_i n n'
      cases h
      obtain ⟨rfl,hn⟩:=hp
      refine fn_ret (cxOk Try.prog ints_ok [] [cRound,cPower]) follows Try.func66 rfl 100 _ rfl (by simp) ?_ ha
      repeat' first
        | exact trivial
        | (refine And.intro (show regChk _ _ _ _ _=true from by kernel_rfl) (And.intro ?_ ?_))
        | (refine And.intro (fun _=>?_) (fun h=>absurd (show true=false from h) (by decide)))
        | (refine And.intro (fun h=>absurd (show false=true from h) (by decide)) (fun _=>?_))
        | (refine And.intro (fun hb=>?_) (fun hb'=>?_))
        | refine And.intro ?_ ?_
      all_goals first
        | (show Len0 _;exact hn)
        | (show (_:Int)≠0;decide)
        | (show Int.natAbs _<(_:Nat);decide)
        | (show some (CR.tv (tI _))=some (CR.tv (tI _));exact wh_eq (q30_eq _))
        | (show (_:Nat)=(_:Nat);rfl)
        | (show (_:Nat)≤1000;decide)
        | (show (_:Int)=(_:Int);rfl)
        | (show (_:Int)≤_;decide)
        | (show (_:Int)<_;decide)
        -- PVC
    · cases h
def cCloSub:Con Try.prog where
  f:=90
  sem:=fun xs=>match xs with
    | [.sc (.v (.int .i64 x)),.sc (.v (.int .i64 y))]=>some (wd x=true∧wd y=true,.tv (tI (x-y)))
    | _=>none
  ok := by
    intro xs p r' h hp
    refine ⟨⟨_,Try.func90,by kernel_rfl,rfl⟩,fun us w ha=>?_⟩
    split at h
    · rename_i x y
      cases h
      obtain ⟨hx,hy⟩:=hp
      refine fn_ret (cxOk Try.prog ints_ok [] [cFrom]) follows Try.func90 rfl 100 _ rfl (by simp) ?_ ha
      repeat' first
        | exact trivial
        | (refine And.intro (show regChk _ _ _ _ _=true from by kernel_rfl) (And.intro ?_ ?_))
        | (refine And.intro (fun _=>?_) (fun h=>absurd (show true=false from h) (by decide)))
        | (refine And.intro (fun h=>absurd (show false=true from h) (by decide)) (fun _=>?_))
        | (refine And.intro (fun hb=>?_) (fun hb'=>?_))
        | refine And.intro ?_ ?_
      all_goals first
        | exact (wrap_I _).1
        | exact (wrap_I _).2
        | (show some (CR.tv (tI _))=some (CR.tv (tI _));exact wh_eq (wrap_s hx hy))
        | (show (_:Nat)=(_:Nat);rfl)
        | (show (_:Nat)≤1000;decide)
        | (show (_:Int)=(_:Int);rfl)
        | (show (_:Int)≤_;decide)
        | (show (_:Int)<_;decide)
        -- PVC
    · cases h
def cEachT:Con Try.prog where
  f:=75
  sem:=fun xs=>match xs with
    | [.row 3 [.v (.int .i64 a),.v (.int .i64 b),.v (.int .i64 c)],.row 3 [.v (.int .i64 d),.v (.int .i64 e),.v (.int .i64 f)],.clo g []]=>if g=76 then some ((I64 a∧I64 d)∧(I64 b∧I64 e)∧(I64 c∧I64 f),.new 84 3 2 [.neg (a*d),.mag (a*d),.neg (b*e),.mag (b*e),.neg (c*f),.mag (c*f)]) else none
    | _=>none
  ok := by
    intro xs p r' h hp
    refine ⟨⟨_,Try.func75,by kernel_rfl,rfl⟩,fun us w ha=>?_⟩
    split at h
    · rename_i a b c d e f g
      split at h
      case isFalse=>cases h
      rename_i hf
      subst hf
      cases h
      obtain ⟨⟨h1,h2⟩,⟨h3,h4⟩,h5,h6⟩:=hp
      have g11:=h1.1
      have g12:=h1.2
      have g21:=h2.1
      have g22:=h2.2
      have g31:=h3.1
      have g32:=h3.2
      have g41:=h4.1
      have g42:=h4.2
      have g51:=h5.1
      have g52:=h5.2
      have g61:=h6.1
      have g62:=h6.2
      refine fnu_ret (cxOk Try.prog ints_ok [] [cTimes]) follows [0,1,2,6,9,10,11] Try.func75 rfl 100 _ rfl (by simp) ?_ ha
      repeat' first
        | exact trivial
        | (refine And.intro (show regChk _ _ _ _ _=true from by kernel_rfl) (And.intro ?_ ?_))
        | (refine And.intro (fun _=>?_) (fun h=>absurd (show true=false from h) (by decide)))
        | (refine And.intro (fun h=>absurd (show false=true from h) (by decide)) (fun _=>?_))
        | (refine And.intro (fun hb=>?_) (fun hb'=>?_))
        | refine And.intro ?_ ?_
      all_goals first
        | (show (_:Int)≤_;first|omega|decide)
        | (show (_:Int)<_;first|omega|decide)
        | (show some (CR.new _ _ _ _)=some (CR.new _ _ _ _);rfl)
        | exact h1
        | exact h2
        | exact h3
        | exact h4
        | exact h5
        | exact h6
        | (show (_:Nat)=(_:Nat);rfl)
        | (show (_:Nat)≤1000;decide)
        | (show (_:Int)=(_:Int);rfl)
        | (show (_:Int)≤_;decide)
        | (show (_:Int)<_;decide)
        -- PVC
    · cases h
def cEachSub:Con Try.prog where
  f:=75
  sem:=fun xs=>match xs with
    | [.row 3 [.v (.int .i64 a),.v (.int .i64 b),.v (.int .i64 c)],.row 3 [.v (.int .i64 d),.v (.int .i64 e),.v (.int .i64 f)],.clo g []]=>if g=90 then some ((wd a=true∧wd d=true)∧(wd b=true∧wd e=true)∧(wd c=true∧wd f=true),.new 84 3 2 [.neg (a-d),.mag (a-d),.neg (b-e),.mag (b-e),.neg (c-f),.mag (c-f)]) else none
    | _=>none
  ok := by
    intro xs p r' h hp
    refine ⟨⟨_,Try.func75,by kernel_rfl,rfl⟩,fun us w ha=>?_⟩
    split at h
    · rename_i a b c d e f g
      split at h
      case isFalse=>cases h
      rename_i hf
      subst hf
      cases h
      obtain ⟨⟨h1,h2⟩,⟨h3,h4⟩,h5,h6⟩:=hp
      refine fnu_ret (cxOk Try.prog ints_ok [] [cCloSub]) follows [0,1,2,6,9,10,11] Try.func75 rfl 100 _ rfl (by simp) ?_ ha
      repeat' first
        | exact trivial
        | (refine And.intro (show regChk _ _ _ _ _=true from by kernel_rfl) (And.intro ?_ ?_))
        | (refine And.intro (fun _=>?_) (fun h=>absurd (show true=false from h) (by decide)))
        | (refine And.intro (fun h=>absurd (show false=true from h) (by decide)) (fun _=>?_))
        | (refine And.intro (fun hb=>?_) (fun hb'=>?_))
        | refine And.intro ?_ ?_
      all_goals first
        | (show some (CR.new _ _ _ _)=some (CR.new _ _ _ _);rfl)
        | exact h1
        | exact h2
        | exact h3
        | exact h4
        | exact h5
        | exact h6
        | (show (_:Nat)=(_:Nat);rfl)
        | (show (_:Nat)≤1000;decide)
        | (show (_:Int)=(_:Int);rfl)
        | (show (_:Int)≤_;decide)
        | (show (_:Int)<_;decide)
        -- PVC
    · cases h
def cTwoSub:Con Try.prog where
  f:=89
  sem:=fun xs=>match xs with
    | [.agg [.v (.int .i64 a),.v (.int .i64 b),.v (.int .i64 c)],.agg [.v (.int .i64 d),.v (.int .i64 e),.v (.int .i64 f)],.clo g []]=>if g=90 then some (True,.tv (tV4 (subV a b c d e f))) else none
    | _=>none
  ok := by
    intro xs p r' h hp
    refine ⟨⟨_,Try.func89,by kernel_rfl,rfl⟩,fun us w ha=>?_⟩
    split at h
    · rename_i a b c d e f g
      split at h
      case isFalse=>cases h
      rename_i hf
      subst hf
      cases h
      refine fn_ret (cxOk Try.prog ints_ok [] [cVGood,cVOf,cEachSub,cVTold]) follows Try.func89 rfl 100 _ rfl (by simp) ?_ ha
      repeat' first
        | exact trivial
        | (refine And.intro (show regChk _ _ _ _ _=true from by kernel_rfl) (And.intro ?_ ?_))
        | (refine And.intro (fun _=>?_) (fun h=>absurd (show true=false from h) (by decide)))
        | (refine And.intro (fun h=>absurd (show false=true from h) (by decide)) (fun _=>?_))
        | (refine And.intro (fun hb=>?_) (fun hb'=>?_))
        | refine And.intro ?_ ?_
        | intro _
      all_goals first
        | (show some (CR.tv (.tup _))=some (CR.tv (tV4 _));first|exact v4_eq (g2_bad (by assumption))|exact v4_eq (g2_ok (by assumption)))
        | (show wd _=true;have hk:=bad2_iff.1 (show bad2 a b c d e f=false from by assumption);first|exact (gV_iff.1 hk.1).1|exact (gV_iff.1 hk.1).2.1|exact (gV_iff.1 hk.1).2.2|exact (gV_iff.1 hk.2).1|exact (gV_iff.1 hk.2).2.1|exact (gV_iff.1 hk.2).2.2)
        | (show (_:Bool)=(_:Bool);first|assumption|exact beq_iff_eq.2 (by assumption)|(exact and_tt (by first|assumption|exact beq_iff_eq.2 (by assumption)) (by first|assumption|exact beq_iff_eq.2 (by assumption))))
        | (show (_:Nat)=(_:Nat);rfl)
        | (show (_:Nat)≤1000;decide)
        | (show (_:Int)=(_:Int);rfl)
        | (show (_:Int)≤_;decide)
        | (show (_:Int)<_;decide)
        -- PVC
    · cases h
def cVSub:Con Try.prog where
  f:=61
  sem:=fun xs=>match xs with
    | [.agg [.v (.int .i64 a),.v (.int .i64 b),.v (.int .i64 c)],.agg [.v (.int .i64 d),.v (.int .i64 e),.v (.int .i64 f)]]=>some (True,.tv (tV4 (subV a b c d e f)))
    | _=>none
  ok := by
    intro xs p r' h hp
    refine ⟨⟨_,Try.func61,by kernel_rfl,rfl⟩,fun us w ha=>?_⟩
    split at h
    · rename_i a b c d e f
      cases h
      refine fn_ret (cxOk Try.prog ints_ok [] [cTwoSub]) follows Try.func61 rfl 100 _ rfl (by simp) ?_ ha
      repeat' first
        | exact trivial
        | (refine And.intro (show regChk _ _ _ _ _=true from by kernel_rfl) (And.intro ?_ ?_))
        | (refine And.intro (fun _=>?_) (fun h=>absurd (show true=false from h) (by decide)))
        | (refine And.intro (fun h=>absurd (show false=true from h) (by decide)) (fun _=>?_))
        | (refine And.intro (fun hb=>?_) (fun hb'=>?_))
        | refine And.intro ?_ ?_
      all_goals first
        | (show some (CR.tv (.tup _))=some (CR.tv (tV4 _));rfl)
        | (show (_:Nat)=(_:Nat);rfl)
        | (show (_:Nat)≤1000;decide)
        | (show (_:Int)=(_:Int);rfl)
        | (show (_:Int)≤_;decide)
        | (show (_:Int)<_;decide)
        -- PVC
    · cases h
def cSum:Con Try.prog where
  f:=50
  sem:=fun xs=>match xs with
    | [.row 3 [.v (.int .i64 a),.v (.int .i64 b),.v (.int .i64 c)],.row 3 [.v (.int .i64 d),.v (.int .i64 e),.v (.int .i64 f)]]=>some ((I64 a∧I64 d)∧(I64 b∧I64 e)∧(I64 c∧I64 f),.tv (tI (dot3 a b c d e f)))
    | _=>none
  ok := by
    intro xs p r' h hp
    refine ⟨⟨_,Try.func50,by kernel_rfl,rfl⟩,fun us w ha=>?_⟩
    split at h
    · rename_i a b c d e f
      cases h
      obtain ⟨⟨h1,h2⟩,⟨h3,h4⟩,h5,h6⟩:=hp
      have p1:=prod_bd h1 h2
      have p2:=prod_bd h3 h4
      have p3:=prod_bd h5 h6
      have g11:=h1.1
      have g12:=h1.2
      have g21:=h2.1
      have g22:=h2.2
      have g31:=h3.1
      have g32:=h3.2
      have g41:=h4.1
      have g42:=h4.2
      have g51:=h5.1
      have g52:=h5.2
      have g61:=h6.1
      have g62:=h6.2
      refine fnu_ret (cxOk Try.prog ints_ok [] [cEachT,cAdd]) follows [4,9,10,11] Try.func50 rfl 100 _ rfl (by simp) ?_ ha
      repeat' first
        | exact trivial
        | (refine And.intro (show regChk _ _ _ _ _=true from by kernel_rfl) (And.intro ?_ ?_))
        | (refine And.intro (fun _=>?_) (fun h=>absurd (show true=false from h) (by decide)))
        | (refine And.intro (fun h=>absurd (show false=true from h) (by decide)) (fun _=>?_))
        | (refine And.intro (fun hb=>?_) (fun hb'=>?_))
        | refine And.intro ?_ ?_
      all_goals first
        | (show (_:Int)≤_;first|omega|decide)
        | (show (_:Int)<_;first|omega|decide)
        | exact h1
        | exact h2
        | exact h3
        | exact h4
        | exact h5
        | exact h6
        | (show Len0 _;exact len_b4 (by omega) (by omega))
        | (show some (CR.tv (tI _))=some (CR.tv (tI _));exact wh_eq (dot3_eq _ _ _ _ _ _))
        | (show (_:Nat)=(_:Nat);rfl)
        | (show (_:Nat)≤1000;decide)
        | (show (_:Int)=(_:Int);rfl)
        | (show (_:Int)≤_;decide)
        | (show (_:Int)<_;decide)
        -- PVC
    · cases h
def cNorm:Con Try.prog where
  f:=62
  sem:=fun xs=>match xs with
    | [.agg [.v (.int .i64 a),.v (.int .i64 b),.v (.int .i64 c)]]=>some (True,.tv (tNN (normR a b c).1 (normR a b c).2))
    | _=>none
  ok := by
    intro xs p r' h hp
    refine ⟨⟨_,Try.func62,by kernel_rfl,rfl⟩,fun us w ha=>?_⟩
    split at h
    · rename_i a b c
      cases h
      refine fn_ret (cxOk Try.prog ints_ok [] [cVGood,cVOf,cSum,cOne,cNearest,cTold]) follows Try.func62 rfl 100 _ rfl (by simp) ?_ ha
      repeat' first
        | exact trivial
        | (refine And.intro (show regChk _ _ _ _ _=true from by kernel_rfl) (And.intro ?_ ?_))
        | (refine And.intro (fun _=>?_) (fun h=>absurd (show true=false from h) (by decide)))
        | (refine And.intro (fun h=>absurd (show false=true from h) (by decide)) (fun _=>?_))
        | (refine And.intro (fun hb=>?_) (fun hb'=>?_))
        | refine And.intro ?_ ?_
      all_goals first
        | (show some (CR.tv (tNN _ _))=some (CR.tv (tNN _ _));first|exact nn_eq (norm_bad (by assumption))|exact nn_eq (norm_ok (by assumption)))
        | (show (0:Int)≤dot3 _ _ _ _ _ _;exact dot_self)
        | (show dot3 _ _ _ _ _ _<(_:Int);have hk:gV a b c=true:=nbf (show (!gV a b c)=false from by assumption);have:=dot3_wd hk hk;omega)
        | (show (_:Int)≤_;have hk:gV a b c=true:=nbf (show (!gV a b c)=false from by assumption);have hl:=gV_bd hk;omega)
        | (show (_:Int)<_;have hk:gV a b c=true:=nbf (show (!gV a b c)=false from by assumption);have hl:=gV_bd hk;omega)
        | (show (_:Nat)=(_:Nat);rfl)
        | (show (_:Nat)≤1000;decide)
        | (show (_:Int)=(_:Int);rfl)
        | (show (_:Int)≤_;decide)
        | (show (_:Int)<_;decide)
        -- PVC
    · cases h
end
end Go.Proofs.Ytonelbidndjhdaa.Wh
end
section
set_option linter.unusedVariables false
set_option linter.unusedSimpArgs false
namespace Go.Proofs.YtonelbidndjhdaaW.Sx
open Go Go.RowKit Go.Proofs.YtonelbidndjhdaaW.PrintWords Go.Proofs.YtonelbidndjhdaaW.PrintMore Go.Proofs.YtonelbidndjhdaaW.Aid Go.Proofs.YtonelbidndjhdaaW.Big
def wfV:Value→Bool
  | .int k n=>(Lit.int k n).wf
  | _=>true
def okV (ks:List (Option IntKind)) (xs:List Value):Prop:=isKs ks xs=true∧∀ x∈xs,wfV x=true
theorem isKs_app:∀ {ks ks':List (Option IntKind)} {xs ys:List Value},isKs ks xs=true→isKs ks' ys=true→isKs (ks++ks') (xs++ys)=true
  | [],ks',[],ys,_,h=>h
  | k::ks,ks',x::xs,ys,h,h'=>by
    simp only [isKs,Bool.and_eq_true] at h
    simp only [List.cons_append,isKs,h.1,isKs_app h.2 h',Bool.and_self]
  | [],_,_::_,_,h,_=>by cases h
  | _::_,_,[],_,h,_=>by cases h
theorem okV_app {ks ks':List (Option IntKind)} {xs ys:List Value} (h:okV ks xs) (h':okV ks' ys):okV (ks++ks') (xs++ys) :=
  ⟨isKs_app h.1 h'.1,fun x hx=>(List.mem_append.1 hx).elim (h.2 x) (h'.2 x)⟩
section
variable {H:Type} {enc:TypeId × Value→H} {P:Program} {w:World} {base:Nat} {spare:Nat→Bool} {held:Bool}
theorem rep_take (ks:List (Option IntKind)):∀ (n:Nat) (xs:List Value),xs.length=(rep ks n).length→(∀ i,i<n→okV ks ((xs.drop (i*ks.length)).take ks.length))→okV (rep ks n) xs
  | 0,xs,hl,_=>by
    cases xs with
    | nil=>exact ⟨rfl,fun _ h=>by cases h⟩
    | cons _ _=>simp [rep] at hl
  | n + 1, xs, hl, h => by
    have h0:=h 0 (by omega)
    rw [Nat.zero_mul,List.drop_zero] at h0
    have hl':xs.length=ks.length+(rep ks n).length:=by rw [hl,rep,List.length_append]
    have ih:=rep_take ks n (xs.drop ks.length) (by rw [List.length_drop];omega) (fun i hi=>by
      have:=h (i+1) (by omega)
      rw [List.drop_drop,show ks.length+i*ks.length=(i+1)*ks.length by rw [Nat.add_mul,Nat.one_mul];omega]
      exact this)
    have:=okV_app h0 ih
    rw [List.take_append_drop] at this
    exact this
theorem flat_trod (arr:Bool):∀ (d:Nat),(∀ (T:TypeId) (ks:List (Option IntKind)) (fuel:Nat) (cs:List Value) (x:DataW H × List MemPlace),lvs P arr d T=some ks→DataW.trod enc P w base spare held fuel T cs=some x→okV ks cs) ∧
    (∀ (fs:List Field) (off:Nat) (ks:List (Option IntKind)) (n:Nat) (cs:List Value) (ys:List (DataW H × List MemPlace)),lvsF P arr d fs off=some ks→cs.length=off+ks.length→ys.length=fs.length →
      (∀ (i:Nat) (f:Field),fs[i]?=some f→DataW.trod enc P w base spare held n f.type ((cs.drop f.offset).take (P.cellsOf f.type))=ys[i]?)→okV ks (cs.drop off)):=by
  intro d
  induction d with
  | zero =>
    refine ⟨fun T ks fuel cs x h=>(by cases h),fun fs off ks n cs ys h hl hy _=>?_⟩
    cases fs with
    | nil =>
      cases h
      rw [List.drop_of_length_le (by simp at hl;omega)]
      exact ⟨rfl,fun _ h=>by cases h⟩
    | cons f fs=>cases h
  | succ d ih =>
    obtain ⟨ih1,ih2⟩:=ih
    constructor
    · intro T ks fuel cs x h hx
      rw [lvs] at h
      split at h
      · rename_i k inf hu hi
        split at h
        case isFalse=>cases h
        cases h
        obtain ⟨n,rfl,_,hw⟩:=DataW.trod_int hu hx
        exact ⟨by simp [isKs,isK],fun y hy=>by rw [List.mem_singleton.1 hy];exact hw⟩
      · rename_i inf hu hi
        split at h
        case isFalse=>cases h
        cases h
        obtain ⟨n,rfl,_⟩:=DataW.trod_bool hu hx
        exact ⟨rfl,fun y hy=>by rw [List.mem_singleton.1 hy];rfl⟩
      · rename_i fs inf hu hi
        split at h
        · cases h
        · split at h
          · rename_i ks' hf
            split at h
            · rename_i hs
              cases h
              obtain ⟨ys,n,_,rfl,hcl,hyl,hg⟩:=DataW.trod_struct hu hx
              have hcl':cs.length=0+ks.length:=by
                rw [hcl];unfold Program.cellsOf;rw [hi];simpa using hs
              have:=ih2 fs.toList 0 ks n cs ys hf hcl' (by simpa using hyl) (fun i f hf=>hg i f (by simpa using hf))
              rwa [List.drop_zero] at this
            · cases h
          · cases h
      · rename_i n e inf hu hi
        split at h
        · split at h
          · rename_i ks' he
            split at h
            · rename_i hs
              cases h
              obtain ⟨ys,m,_,rfl,hcl,hyl,hg⟩:=DataW.trod_array hu hx
              have hce:=lvs_cells he
              rw [hce] at hg
              refine rep_take ks' n cs (by rw [hcl];unfold Program.cellsOf;rw [hi];simpa using hs) (fun i hi=>?_)
              obtain ⟨y,hy⟩:∃ y,ys[i]?=some y:=⟨ys[i],by simp⟩
              exact ih1 e ks' m _ y he (by rw [hg i hi,hy])
            · cases h
          · cases h
        · cases h
      · cases h
    · intro fs off ks n cs ys h hl hy hg
      cases fs with
      | nil =>
        cases h
        rw [List.drop_of_length_le (by simp at hl;omega)]
        exact ⟨rfl,fun _ h=>by cases h⟩
      | cons f fs =>
        rw [lvsF] at h
        split at h
        · cases h
        · rename_i hc
          have hoff:f.offset=off:=Decidable.byContradiction fun e=>hc (Or.inr e)
          split at h
          · rename_i k ks1 hl1
            split at h
            · rename_i r hr
              cases h
              match ys,hy with
              | y::ys,hy =>
                have h1:=hg 0 f rfl
                rw [hoff,lvs_cells hl1] at h1
                have g1:=ih1 f.type _ n _ y hl1 h1
                have g2:=ih2 fs (off+(k::ks1).length) r n cs ys hr (by rw [hl];simp;omega) (by simpa using hy) (fun i f' hf=>hg (i+1) f' (by simpa using hf))
                have:=okV_app g1 g2
                rw [← List.drop_drop,List.take_append_drop] at this
                exact this
            · cases h
          · cases h
def gI (f:Nat→List Value) (i j:Nat):Int:=match (f j)[i]? with
  | some (.int _ n)=>n
  | _=>0
def gB (f:Nat→List Value) (i j:Nat):Bool:=match (f j)[i]? with
  | some (.bool b)=>b
  | _=>false
def cellsG (f:Nat→List Value) (j:Nat):Nat→List (Option IntKind)→List A0
  | _,[]=>[]
  | i,some k::ks => .v (.int k (gI f i j))::cellsG f j (i+1) ks
  | i,none::ks => .v (.bool (gB f i j))::cellsG f j (i+1) ks
theorem cellsG_eq (f:Nat→List Value) (j:Nat):∀ (ks:List (Option IntKind)) (i:Nat),isKs ks ((f j).drop i)=true→cellsG f j i ks=((f j).drop i).map A0.v
  | [],i,h=>by
    cases hx:(f j).drop i with
    | nil=>rfl
    | cons _ _=>rw [hx] at h;cases h
  | k :: ks, i, h => by
    cases hx:(f j).drop i with
    | nil=>rw [hx] at h;cases h
    | cons x xs =>
      have h0:(f j)[i]?=some x:=by rw [← List.head?_drop,hx];rfl
      have h1:(f j).drop (i+1)=xs:=by rw [← List.tail_drop,hx];rfl
      rw [hx] at h
      simp only [isKs,Bool.and_eq_true] at h
      have ih:=cellsG_eq f j ks (i+1) (by rw [h1];exact h.2)
      rw [h1] at ih
      cases k with
      | some k =>
        cases x<;>simp only [isK] at h<;>try (exact absurd h.1 (by decide))
        rename_i k' n
        obtain rfl:=of_decide_eq_true h.1
        simp only [cellsG,gI,h0,List.map_cons,ih]
      | none =>
        cases x<;>simp only [isK] at h<;>try (exact absurd h.1 (by decide))
        simp only [cellsG,gB,h0,List.map_cons,ih]
def zv:Option IntKind→Value
  | some k => .int k 0
  | none => .bool false
theorem zs_ok:∀ ks:List (Option IntKind),okV ks (ks.map zv)
  | []=>⟨rfl,fun _ h=>by cases h⟩
  | k :: ks => by
    obtain ⟨h1,h2⟩:=zs_ok ks
    refine ⟨?_,fun x hx=>?_⟩
    · simp only [List.map_cons,isKs,h1,Bool.and_true]
      cases k<;>simp [zv,isK]
    · rcases List.mem_cons.1 hx with rfl|hx
      · cases k with
        | none=>rfl
        | some k=>cases k<;>decide
      · exact h2 x hx
theorem rowF_congr {n sz:Nat} {f g:Nat→List A0} {β:Nat→Nat} {base:Nat} {w:World} {u:Value} (h:∀ j,f j=g j) (hr:TV.reads β base w (.rowF n sz f) u):TV.reads β base w (.rowF n sz g) u:=by
  rw [show g=f from funext fun j=>(h j).symm];exact hr
theorem row_of {t e:TypeId} {arr:Bool} {d:Nat} {ks:List (Option IntKind)} (hu:P.underlying t=some (.slice e)) (hl:lvs P arr d e=some ks) (hk:0<ks.length) {A1:Option Addr} {n0 c0:Nat} {x:DataW H} {ps:List MemPlace} (h:DataW.Trod enc P w base spare held t (.slice A1 n0 c0) x ps) :
    ∃ f:Nat→List Value,(∀ j,okV ks (f j))∧∀ β:Nat→Nat,TV.reads β w.heap.size w (.rowF n0 ks.length (fun j=>cellsG f j 0 ks)) (.slice A1 n0 c0):=by
  obtain ⟨fuel,hf⟩:=h
  have hcell:(Value.slice A1 n0 c0).cells.toList=[.slice A1 n0 c0]:=rfl
  rw [hcell] at hf
  rcases Go.Deep.open_slice hu hf with ⟨h1,_⟩|⟨a,len,cap,m,n,D,Pl,h1,hb,hle,hm,hmm,_,hi⟩
  · cases h1
    exact ⟨fun _=>ks.map zv,fun j=>zs_ok ks,fun β=>⟨none,0,rfl,Nat.le_refl _,fun h=>absurd h (by omega)⟩⟩
  · cases h1
    have hlm:n0≤m:=by rw [hmm];split<;>omega
    have hch:∀ j,∃ l:List Value,okV ks l∧(j<n0→∀ i u,l[i]?=some u→w.cell? ((a.add (j*ks.length)).add i)=some u):=by
      intro j
      by_cases hj:j<n0
      · obtain ⟨cs',h2,h3⟩:=hi j (by omega)
        obtain ⟨_,hcl,hat⟩:=World.cells?_some h2
        have ok:=(flat_trod (enc:=enc) (P:=P) (w:=w) (base:=base) (spare:=spare) (held:=held) arr d).1 e ks n cs' _ hl h3
        refine ⟨cs',ok,fun _ i u hu=>?_⟩
        have hil:i<cs'.length:=(List.getElem?_eq_some_iff.1 hu).1
        have h4:=hat i (by omega)
        rw [hu,lvs_cells hl] at h4
        exact h4
      · exact ⟨ks.map zv,zs_ok ks,fun h=>absurd h hj⟩
    obtain ⟨f,hf⟩:=Classical.axiomOfChoice hch
    refine ⟨f,fun j=>(hf j).1,fun β=>?_⟩
    refine rowF_congr (f:=fun j=>(f j).map A0.v) (fun j=>?_) ⟨some a,c0,rfl,hle,fun h0=>⟨a,rfl,?_,fun i hi=>?_⟩⟩
    · have:=cellsG_eq f j ks 0 (by rw [List.drop_zero];exact (hf j).1.1)
      rw [this,List.drop_zero]
    · have h5:=(hf 0).1.1
      have h6:=isKs_len h5
      have h7:=(hf 0).2 h0 0 ((f 0)[0]'(by omega)) (by simp)
      have:=World.block_lt_of_cell? w _ h7
      rw [Nat.zero_mul] at this
      exact this
    · intro q c hq
      rw [List.getElem?_map,Option.map_eq_some_iff] at hq
      obtain ⟨u,hu,rfl⟩:=hq
      exact ⟨u,(hf i).2 hi q u hu,rfl⟩
end
end Go.Proofs.YtonelbidndjhdaaW.Sx
end
section
set_option linter.unusedVariables false
set_option linter.unusedSimpArgs false
namespace Go.Proofs.Ytonelbidndjhdaa.Wh
open Go Go.RowKit Go.Proofs.YtonelbidndjhdaaW.PrintWords Go.Proofs.YtonelbidndjhdaaW.PrintMore Go.Proofs.YtonelbidndjhdaaW.Aid Go.Proofs.YtonelbidndjhdaaW.Big Go.Proofs.YtonelbidndjhdaaW.Sx Go.Proofs.Ytonelbidndjhdaa.BitsWalk Go.Proofs.Ytonelbidndjhdaa.Limbs Go.Proofs.Ytonelbidndjhdaa.Whole Go.Proofs.Ytonelbidndjhdaa.FxWalk Go.Proofs
theorem wd_bif (v:Int):(bif decide (v > -35184372088832) then decide (v<35184372088832) else false)=wd v:=by
  unfold wd
  have e:decide (v > -35184372088832)=decide (-35184372088832<v):=rfl
  rw [e]
  cases decide (-35184372088832<v)<;>rfl
theorem gV_bif (x y z:Int):(bif bif wd x then wd y else false then wd z else false)=gV x y z:=by
  unfold gV
  simp only [allw]
  cases wd x<;>cases wd y<;>cases wd z<;>rfl
def withinR (i n:Int):Int:=i%18446744073709551616%n
theorem within_bd (i:Int) {n:Int} (h:0<n):0≤withinR i n∧withinR i n<n:=⟨Int.emod_nonneg _ (by omega),Int.emod_lt_of_pos _ h⟩
theorem within_w {i n:Int} (h0:0<n) (h1:n<9223372036854775808):IntKind.i64.wrap ((IntKind.u64.wrap i).tmod (IntKind.u64.wrap n))=withinR i n:=by
  have e:IntKind.u64.wrap n=n:=u64_id (by omega) (by omega)
  rw [e,u64_wrap]
  rw [Int.tmod_eq_emod_of_nonneg (Int.emod_nonneg _ (by decide))]
  have:=within_bd i h0
  rw [i64_wrap]
  exact wrap64_id (by unfold withinR at this;omega) (by unfold withinR at this;omega)
def broughtR (v m:Int):Int:=withinR v (2*m+1)-m
theorem brought_bd (v:Int) {m:Int} (h:0≤m) : -m≤broughtR v m∧broughtR v m≤m:=by
  have:=within_bd v (n:=2*m+1) (by omega)
  unfold broughtR;omega
theorem brought_w {v m:Int} (h0:0≤m) (h1:m<4611686018427387904):IntKind.i64.wrap (IntKind.i64.wrap ((IntKind.u64.wrap v).tmod (IntKind.u64.wrap (IntKind.i64.wrap (IntKind.i64.wrap (2*m)+1))))-m)=broughtR v m:=by
  have e1:IntKind.i64.wrap (2*m)=2*m:=by rw [i64_wrap];exact wrap64_id (by omega) (by omega)
  have e2:IntKind.i64.wrap (2*m+1)=2*m+1:=by rw [i64_wrap];exact wrap64_id (by omega) (by omega)
  rw [e1,e2,within_w (by omega) (by omega)]
  have:=brought_bd v h0
  rw [i64_wrap]
  unfold broughtR at this ⊢
  exact wrap64_id (by omega) (by omega)
theorem u64_nz {n:Int} (h0:0<n) (h1:n<9223372036854775808):IntKind.u64.wrap n≠0:=by rw [u64_id (by omega) (by omega)];omega
theorem b_nz {m:Int} (h0:0≤m) (h1:m<4611686018427387904):IntKind.u64.wrap (IntKind.i64.wrap (IntKind.i64.wrap (2*m)+1))≠0:=by
  have e1:IntKind.i64.wrap (2*m)=2*m:=by rw [i64_wrap];exact wrap64_id (by omega) (by omega)
  have e2:IntKind.i64.wrap (2*m+1)=2*m+1:=by rw [i64_wrap];exact wrap64_id (by omega) (by omega)
  rw [e1,e2];exact u64_nz (by omega) (by omega)
theorem no {c:Bool} (h:c=false) (hb:c=true):False:=by rw [h] at hb;exact absurd hb (by decide)
abbrev cells3 (x y z:Int):List Value:=[.int .i64 x,.int .i64 y,.int .i64 z]
theorem wrap1 {i:Int} (h0:0≤i) (h:i≤100000000000000000):IntKind.i64.wrap (i+1)=i+1:=by rw [i64_wrap];exact wrap64_id (by omega) (by omega)
theorem hC1 {v k:Int} {n:Nat} (h:(bif decide (v<(n:Int)) then decide (v<k) else false)=true):v<n∧v<k:=by
  by_cases h1:v<(n:Int)
  · rw [decide_eq_true h1] at h;exact ⟨h1,of_decide_eq_true h⟩
  · rw [decide_eq_false h1] at h;exact absurd (show false=true from h) (by decide)
section
set_option maxRecDepth 100000
set_option maxHeartbeats 4000000
abbrev eqVec:EqT Try.prog:=eqS Try.prog 24 [some .i64,some .i64,some .i64] (by kernel_rfl)
def cR1May:Con Try.prog where
  f:=26
  sem:=fun xs=>match xs with
    | [.sc (.v (.int .i64 v))]=>some (True,.tv (tB (wd v)))
    | _=>none
  ok := by
    intro xs p r' h hp
    refine ⟨⟨_,Try.func26,by kernel_rfl,rfl⟩,fun us w ha=>?_⟩
    split at h
    · rename_i v
      cases h
      refine fn_ret (cxOk Try.prog ints_ok [] []) follows Try.func26 rfl 100 _ rfl (by simp) ?_ ha
      repeat' first
        | exact trivial
        | (refine And.intro (show regChk _ _ _ _ _=true from by kernel_rfl) (And.intro ?_ ?_))
        | (refine And.intro (fun _=>?_) (fun h=>absurd (show true=false from h) (by decide)))
        | (refine And.intro (fun h=>absurd (show false=true from h) (by decide)) (fun _=>?_))
        | (refine And.intro (fun hb=>?_) (fun hb'=>?_))
        | refine And.intro ?_ ?_
        | intro _
      all_goals first
        | (show some (CR.tv (tB _))=some (CR.tv (tB _));exact tB_eq (wd_bif v))
        | (show (_:Bool)=(_:Bool);first|assumption|exact beq_iff_eq.2 (by assumption)|(exact and_tt (by first|assumption|exact beq_iff_eq.2 (by assumption)) (by first|assumption|exact beq_iff_eq.2 (by assumption))))
        | (show (_:Nat)=(_:Nat);rfl)
        | (show (_:Nat)≤1000;decide)
        | (show (_:Int)=(_:Int);rfl)
        | (show (_:Int)≤_;decide)
        | (show (_:Int)<_;decide)
        -- PVC
    · cases h
def cR3May:Con Try.prog where
  f:=53
  sem:=fun xs=>match xs with
    | [.agg [.v (.int .i64 x),.v (.int .i64 y),.v (.int .i64 z)]]=>some (True,.tv (tB (gV x y z)))
    | _=>none
  ok := by
    intro xs p r' h hp
    refine ⟨⟨_,Try.func53,by kernel_rfl,rfl⟩,fun us w ha=>?_⟩
    split at h
    · rename_i x y z
      cases h
      refine fn_ret (cxOk Try.prog ints_ok [] [cR1May]) follows Try.func53 rfl 100 _ rfl (by simp) ?_ ha
      repeat' first
        | exact trivial
        | (refine And.intro (show regChk _ _ _ _ _=true from by kernel_rfl) (And.intro ?_ ?_))
        | (refine And.intro (fun _=>?_) (fun h=>absurd (show true=false from h) (by decide)))
        | (refine And.intro (fun h=>absurd (show false=true from h) (by decide)) (fun _=>?_))
        | (refine And.intro (fun hb=>?_) (fun hb'=>?_))
        | refine And.intro ?_ ?_
        | intro _
      all_goals first
        | (show some (CR.tv (tB _))=some (CR.tv (tB _));exact tB_eq (gV_bif x y z))
        | (show (_:Bool)=(_:Bool);first|assumption|exact beq_iff_eq.2 (by assumption)|(exact and_tt (by first|assumption|exact beq_iff_eq.2 (by assumption)) (by first|assumption|exact beq_iff_eq.2 (by assumption))))
        | (show (_:Nat)=(_:Nat);rfl)
        | (show (_:Nat)≤1000;decide)
        | (show (_:Int)=(_:Int);rfl)
        | (show (_:Int)≤_;decide)
        | (show (_:Int)<_;decide)
        -- PVC
    · cases h
def cWithin:Con Try.prog where
  f:=12
  sem:=fun xs=>match xs with
    | [.sc (.v (.int .i64 i)),.sc (.v (.int .i64 n))]=>some (0<n∧n<9223372036854775808,.tv (tN .i64 (withinR i n)))
    | _=>none
  ok := by
    intro xs p r' h hp
    refine ⟨⟨_,Try.func12,by kernel_rfl,rfl⟩,fun us w ha=>?_⟩
    split at h
    · rename_i i n
      cases h
      refine fn_ret (cxOk Try.prog ints_ok [] []) follows Try.func12 rfl 100 _ rfl (by simp) ?_ ha
      repeat' first
        | exact trivial
        | (refine And.intro (show regChk _ _ _ _ _=true from by kernel_rfl) (And.intro ?_ ?_))
        | (refine And.intro (fun _=>?_) (fun h=>absurd (show true=false from h) (by decide)))
        | (refine And.intro (fun h=>absurd (show false=true from h) (by decide)) (fun _=>?_))
        | (refine And.intro (fun hb=>?_) (fun hb'=>?_))
        | refine And.intro ?_ ?_
      all_goals first
        | (show some (CR.tv (tN _ _))=some (CR.tv (tN _ _));exact tN_eq (within_w hp.1 hp.2))
        | (show (_:Int)≠_;exact u64_nz hp.1 hp.2)
        | (show (_:Nat)=(_:Nat);rfl)
        | (show (_:Nat)≤1000;decide)
        | (show (_:Int)=(_:Int);rfl)
        | (show (_:Int)≤_;decide)
        | (show (_:Int)<_;decide)
        -- PVC
    · cases h
def cBrought:Con Try.prog where
  f:=34
  sem:=fun xs=>match xs with
    | [.sc (.v (.int .i64 v)),.sc (.v (.int .i64 m))]=>some (0≤m∧m<4611686018427387904,.tv (tN .i64 (broughtR v m)))
    | _=>none
  ok := by
    intro xs p r' h hp
    refine ⟨⟨_,Try.func34,by kernel_rfl,rfl⟩,fun us w ha=>?_⟩
    split at h
    · rename_i v m
      cases h
      refine fn_ret (cxOk Try.prog ints_ok [] []) follows Try.func34 rfl 100 _ rfl (by simp) ?_ ha
      repeat' first
        | exact trivial
        | (refine And.intro (show regChk _ _ _ _ _=true from by kernel_rfl) (And.intro ?_ ?_))
        | (refine And.intro (fun _=>?_) (fun h=>absurd (show true=false from h) (by decide)))
        | (refine And.intro (fun h=>absurd (show false=true from h) (by decide)) (fun _=>?_))
        | (refine And.intro (fun hb=>?_) (fun hb'=>?_))
        | refine And.intro ?_ ?_
      all_goals first
        | (show some (CR.tv (tN _ _))=some (CR.tv (tN _ _));exact tN_eq (brought_w hp.1 hp.2))
        | (show (_:Int)≠_;exact b_nz hp.1 hp.2)
        | (show (_:Nat)=(_:Nat);rfl)
        | (show (_:Nat)≤1000;decide)
        | (show (_:Int)=(_:Int);rfl)
        | (show (_:Int)≤_;decide)
        | (show (_:Int)<_;decide)
        -- PVC
    · cases h
def cL0Vec:Con Try.prog where
  f:=13
  sem:=fun xs=>match xs with
    | [.agg [.v (.int .i64 x),.v (.int .i64 y),.v (.int .i64 z)],.sc (.v (.int .i64 m))]=>some (0≤m∧m<4611686018427387904,.tv (.agg [.v (.int .i64 (broughtR x m)),.v (.int .i64 (broughtR y m)),.v (.int .i64 (broughtR z m))]))
    | _=>none
  ok := by
    intro xs p r' h hp
    refine ⟨⟨_,Try.func13,by kernel_rfl,rfl⟩,fun us w ha=>?_⟩
    split at h
    · rename_i x y z m
      cases h
      refine fn_ret (cxOk Try.prog ints_ok [] [cBrought]) follows Try.func13 rfl 100 _ rfl (by simp) ?_ ha
      repeat' first
        | exact trivial
        | (refine And.intro (show regChk _ _ _ _ _=true from by kernel_rfl) (And.intro ?_ ?_))
        | (refine And.intro (fun _=>?_) (fun h=>absurd (show true=false from h) (by decide)))
        | (refine And.intro (fun h=>absurd (show false=true from h) (by decide)) (fun _=>?_))
        | (refine And.intro (fun hb=>?_) (fun hb'=>?_))
        | refine And.intro ?_ ?_
      all_goals first
        | (show some (CR.tv (.agg _))=some (CR.tv (.agg _));rfl)
        | exact hp.1
        | exact hp.2
        | (show (_:Nat)=(_:Nat);rfl)
        | (show (_:Nat)≤1000;decide)
        | (show (_:Int)=(_:Int);rfl)
        | (show (_:Int)≤_;decide)
        | (show (_:Int)<_;decide)
        -- PVC
    · cases h
def cNum18:Con Try.prog where
  f:=32
  sem:=fun xs=>match xs with
    | [.sc (.v (.int .i64 v))]=>some (True,.tv (tN .i64 v))
    | _=>none
  ok := by
    intro xs p r' h hp
    refine ⟨⟨_,Try.func32,by kernel_rfl,rfl⟩,fun us w ha=>?_⟩
    split at h
    · rename_i v
      cases h
      refine fn_ret (cxOk Try.prog ints_ok [] []) follows Try.func32 rfl 100 _ rfl (by simp) ?_ ha
      repeat' first
        | exact trivial
        | (refine And.intro (show regChk _ _ _ _ _=true from by kernel_rfl) (And.intro ?_ ?_))
        | (refine And.intro (fun _=>?_) (fun h=>absurd (show true=false from h) (by decide)))
        | (refine And.intro (fun h=>absurd (show false=true from h) (by decide)) (fun _=>?_))
        | (refine And.intro (fun hb=>?_) (fun hb'=>?_))
        | refine And.intro ?_ ?_
      all_goals first
        | (show some (CR.tv (tN _ _))=some (CR.tv (tN _ _));rfl)
        | (show (_:Nat)=(_:Nat);rfl)
        | (show (_:Nat)≤1000;decide)
        | (show (_:Int)=(_:Int);rfl)
        | (show (_:Int)≤_;decide)
        | (show (_:Int)<_;decide)
        -- PVC
    · cases h
end
end Go.Proofs.Ytonelbidndjhdaa.Wh
end
section
set_option linter.unusedVariables false
set_option linter.unusedSimpArgs false
namespace Go.Proofs.Ytonelbidndjhdaa.Wh
open Go Go.RowKit Go.Proofs.YtonelbidndjhdaaW.PrintWords Go.Proofs.YtonelbidndjhdaaW.PrintMore Go.Proofs.YtonelbidndjhdaaW.Aid Go.Proofs.YtonelbidndjhdaaW.Big Go.Proofs.YtonelbidndjhdaaW.Sx Go.Proofs.Ytonelbidndjhdaa.BitsWalk Go.Proofs.Ytonelbidndjhdaa.Limbs Go.Proofs.Ytonelbidndjhdaa.Whole Go.Proofs.Ytonelbidndjhdaa.FxWalk Go.Proofs
abbrev tmB (t:Int):Bool:=bif decide (t≥0) then decide (t≤1099511627776) else false
abbrev mkB (t:Int):Bool:=bif decide (t≥0) then decide (t≤1099511627777) else false
abbrev c6p (o:Bool) (x y z s p:Int):List Value:=[.bool o,.int .i64 x,.int .i64 y,.int .i64 z,.int .i64 s,.int .i64 p]
abbrev goodTp (o:Bool) (x y z s p:Int):Bool:=bif bif bif gV x y z then mkB s else false then mkB p else false then (bif o then true else eqL (c6p o x y z s p) (c6p false 0 0 0 0 0)) else false
abbrev badTp (o:Bool) (x y z s p a b c now:Int):Bool:=bif bif bif bif !goodTp o x y z s p then true else !gV a b c then true else !tmB now then true else decide (IntKind.i64.wrap (now+1)<s) then true else decide (IntKind.i64.wrap (now+1)<p)
def tdR (prev now:Int):Int × Int:=bif bif prev != 0 then decide (IntKind.i64.wrap (now-prev)≤300) else false then ((2:Int),(0:Int)) else ((1:Int),now)
theorem tdR_0 {prev now:Int} (h0:(bif prev != 0 then decide (IntKind.i64.wrap (now-prev)≤300) else false)=true):((2:Int),(0:Int))=tdR prev now:=by
  unfold tdR
  rw [h0]
  rfl
theorem tdR_1 {prev now:Int} (h0:(bif prev != 0 then decide (IntKind.i64.wrap (now-prev)≤300) else false)=false):((1:Int),now)=tdR prev now:=by
  unfold tdR
  rw [h0]
  rfl
def tapR (o:Bool) (x y z s p a b c now:Int):(Bool × Int × Int × Int × Int × Int) × Int × Int:=bif badTp o x y z s p a b c now then ((false,(0:Int),(0:Int),(0:Int),(0:Int),(0:Int)),(0:Int),(1:Int)) else bif !o then ((true,a,b,c,(0:Int),(0:Int)),(0:Int),(0:Int)) else bif (subV a b c x y z).2.2.2 != 0 then ((false,(0:Int),(0:Int),(0:Int),(0:Int),(0:Int)),(0:Int),(subV a b c x y z).2.2.2) else bif (normR (subV a b c x y z).1 (subV a b c x y z).2.1 (subV a b c x y z).2.2.1).2 != 0 then ((false,(0:Int),(0:Int),(0:Int),(0:Int),(0:Int)),(0:Int),(normR (subV a b c x y z).1 (subV a b c x y z).2.1 (subV a b c x y z).2.2.1).2) else bif decide ((normR (subV a b c x y z).1 (subV a b c x y z).2.1 (subV a b c x y z).2.2.1).1>9806650) then bif s == 0 then ((o,a,b,c,(IntKind.i64.wrap (now+1)),p),(0:Int),(0:Int)) else ((o,a,b,c,s,p),(0:Int),(0:Int)) else bif s != 0 then bif decide (IntKind.i64.wrap ((IntKind.i64.wrap (now+1))-s)≤60) then ((o,a,b,c,(0:Int),(tdR p (IntKind.i64.wrap (now+1))).2),(tdR p (IntKind.i64.wrap (now+1))).1,(0:Int)) else ((o,a,b,c,(0:Int),p),(0:Int),(0:Int)) else ((o,a,b,c,s,p),(0:Int),(0:Int))
theorem tapR_0 {o:Bool} {x y z s p a b c now:Int} (h0:(badTp o x y z s p a b c now)=true):((false,(0:Int),(0:Int),(0:Int),(0:Int),(0:Int)),(0:Int),(1:Int))=tapR o x y z s p a b c now:=by
  unfold tapR
  rw [h0]
  rfl
theorem tapR_1 {o:Bool} {x y z s p a b c now:Int} (h0:(badTp o x y z s p a b c now)=false) (h1:(!o)=true):((true,a,b,c,(0:Int),(0:Int)),(0:Int),(0:Int))=tapR o x y z s p a b c now:=by
  unfold tapR
  rw [h0]
  rw [h1]
  rfl
theorem tapR_2 {o:Bool} {x y z s p a b c now:Int} (h0:(badTp o x y z s p a b c now)=false) (h1:(!o)=false) (h2:((subV a b c x y z).2.2.2 != 0)=true):((false,(0:Int),(0:Int),(0:Int),(0:Int),(0:Int)),(0:Int),(subV a b c x y z).2.2.2)=tapR o x y z s p a b c now:=by
  unfold tapR
  rw [h0]
  rw [h1]
  rw [h2]
  rfl
theorem tapR_3 {o:Bool} {x y z s p a b c now:Int} (h0:(badTp o x y z s p a b c now)=false) (h1:(!o)=false) (h2:((subV a b c x y z).2.2.2 != 0)=false) (h3:((normR (subV a b c x y z).1 (subV a b c x y z).2.1 (subV a b c x y z).2.2.1).2 != 0)=true):((false,(0:Int),(0:Int),(0:Int),(0:Int),(0:Int)),(0:Int),(normR (subV a b c x y z).1 (subV a b c x y z).2.1 (subV a b c x y z).2.2.1).2)=tapR o x y z s p a b c now:=by
  unfold tapR
  rw [h0]
  rw [h1]
  rw [h2]
  rw [h3]
  rfl
theorem tapR_4 {o:Bool} {x y z s p a b c now:Int} (h0:(badTp o x y z s p a b c now)=false) (h1:(!o)=false) (h2:((subV a b c x y z).2.2.2 != 0)=false) (h3:((normR (subV a b c x y z).1 (subV a b c x y z).2.1 (subV a b c x y z).2.2.1).2 != 0)=false) (h4:(decide ((normR (subV a b c x y z).1 (subV a b c x y z).2.1 (subV a b c x y z).2.2.1).1>9806650))=true) (h5:(s == 0)=true):((o,a,b,c,(IntKind.i64.wrap (now+1)),p),(0:Int),(0:Int))=tapR o x y z s p a b c now:=by
  unfold tapR
  rw [h0]
  rw [h1]
  rw [h2]
  rw [h3]
  rw [h4]
  rw [h5]
  rfl
theorem tapR_5 {o:Bool} {x y z s p a b c now:Int} (h0:(badTp o x y z s p a b c now)=false) (h1:(!o)=false) (h2:((subV a b c x y z).2.2.2 != 0)=false) (h3:((normR (subV a b c x y z).1 (subV a b c x y z).2.1 (subV a b c x y z).2.2.1).2 != 0)=false) (h4:(decide ((normR (subV a b c x y z).1 (subV a b c x y z).2.1 (subV a b c x y z).2.2.1).1>9806650))=true) (h5:(s == 0)=false):((o,a,b,c,s,p),(0:Int),(0:Int))=tapR o x y z s p a b c now:=by
  unfold tapR
  rw [h0]
  rw [h1]
  rw [h2]
  rw [h3]
  rw [h4]
  rw [h5]
  rfl
theorem tapR_6 {o:Bool} {x y z s p a b c now:Int} (h0:(badTp o x y z s p a b c now)=false) (h1:(!o)=false) (h2:((subV a b c x y z).2.2.2 != 0)=false) (h3:((normR (subV a b c x y z).1 (subV a b c x y z).2.1 (subV a b c x y z).2.2.1).2 != 0)=false) (h4:(decide ((normR (subV a b c x y z).1 (subV a b c x y z).2.1 (subV a b c x y z).2.2.1).1>9806650))=false) (h5:(s != 0)=true) (h6:(decide (IntKind.i64.wrap ((IntKind.i64.wrap (now+1))-s)≤60))=true):((o,a,b,c,(0:Int),(tdR p (IntKind.i64.wrap (now+1))).2),(tdR p (IntKind.i64.wrap (now+1))).1,(0:Int))=tapR o x y z s p a b c now:=by
  unfold tapR
  rw [h0]
  rw [h1]
  rw [h2]
  rw [h3]
  rw [h4]
  rw [h5]
  rw [h6]
  rfl
theorem tapR_7 {o:Bool} {x y z s p a b c now:Int} (h0:(badTp o x y z s p a b c now)=false) (h1:(!o)=false) (h2:((subV a b c x y z).2.2.2 != 0)=false) (h3:((normR (subV a b c x y z).1 (subV a b c x y z).2.1 (subV a b c x y z).2.2.1).2 != 0)=false) (h4:(decide ((normR (subV a b c x y z).1 (subV a b c x y z).2.1 (subV a b c x y z).2.2.1).1>9806650))=false) (h5:(s != 0)=true) (h6:(decide (IntKind.i64.wrap ((IntKind.i64.wrap (now+1))-s)≤60))=false):((o,a,b,c,(0:Int),p),(0:Int),(0:Int))=tapR o x y z s p a b c now:=by
  unfold tapR
  rw [h0]
  rw [h1]
  rw [h2]
  rw [h3]
  rw [h4]
  rw [h5]
  rw [h6]
  rfl
theorem tapR_8 {o:Bool} {x y z s p a b c now:Int} (h0:(badTp o x y z s p a b c now)=false) (h1:(!o)=false) (h2:((subV a b c x y z).2.2.2 != 0)=false) (h3:((normR (subV a b c x y z).1 (subV a b c x y z).2.1 (subV a b c x y z).2.2.1).2 != 0)=false) (h4:(decide ((normR (subV a b c x y z).1 (subV a b c x y z).2.1 (subV a b c x y z).2.2.1).1>9806650))=false) (h5:(s != 0)=false):((o,a,b,c,s,p),(0:Int),(0:Int))=tapR o x y z s p a b c now:=by
  unfold tapR
  rw [h0]
  rw [h1]
  rw [h2]
  rw [h3]
  rw [h4]
  rw [h5]
  rfl
abbrev tTp (q:(Bool × Int × Int × Int × Int × Int) × Int × Int):TV := .tup [(true,[.v (.bool q.1.1),.v (.int .i64 q.1.2.1),.v (.int .i64 q.1.2.2.1),.v (.int .i64 q.1.2.2.2.1),.v (.int .i64 q.1.2.2.2.2.1),.v (.int .i64 q.1.2.2.2.2.2)]),(false,[.v (.int .i64 q.2.1)]),(false,[.v (.int .i64 q.2.2)])]
theorem tp_eq {o:Bool} {x y z s p k e:Int} {q:(Bool × Int × Int × Int × Int × Int) × Int × Int} (h:((o,x,y,z,s,p),k,e)=q):(some (CR.tv (.tup [(true,[.v (.bool o),.v (.int .i64 x),.v (.int .i64 y),.v (.int .i64 z),.v (.int .i64 s),.v (.int .i64 p)]),(false,[.v (.int .i64 k)]),(false,[.v (.int .i64 e)])])):Option CR)=some (CR.tv (tTp q)):=by rw [← h]
theorem td_eq {x y:Int} {q:Int × Int} (h:(x,y)=q):(some (CR.tv (.agg [.v (.int .i64 x),.v (.int .i64 y)])):Option CR)=some (CR.tv (.agg [.v (.int .i64 q.1),.v (.int .i64 q.2)])):=by rw [← h]
section
set_option maxRecDepth 100000
set_option maxHeartbeats 4000000
abbrev eqTap:EqT Try.prog:=eqS Try.prog 61 [none,some .i64,some .i64,some .i64,some .i64,some .i64] (by kernel_rfl)
def cTimeP:Con Try.prog where
  f:=37
  sem:=fun xs=>match xs with
    | [.sc (.v (.int .i64 t))]=>some (True,.tv (tB (tmB t)))
    | _=>none
  ok := by
    intro xs p r' h hp
    refine ⟨⟨_,Try.func37,by kernel_rfl,rfl⟩,fun us w ha=>?_⟩
    split at h
    · rename_i t
      cases h
      refine fn_ret (cxOk Try.prog ints_ok [] []) follows Try.func37 rfl 100 _ rfl (by simp) ?_ ha
      repeat' first
        | exact trivial
        | (refine And.intro (show regChk _ _ _ _ _=true from by kernel_rfl) (And.intro ?_ ?_))
        | (refine And.intro (fun _=>?_) (fun h=>absurd (show true=false from h) (by decide)))
        | (refine And.intro (fun h=>absurd (show false=true from h) (by decide)) (fun _=>?_))
        | (refine And.intro (fun hb=>?_) (fun hb'=>?_))
        | refine And.intro ?_ ?_
        | intro _
      all_goals first
        | (show some (CR.tv (tB _))=some (CR.tv (tB _));exact tB_eq rfl)
        | (show (_:Bool)=(_:Bool);first|assumption|exact beq_iff_eq.2 (by assumption)|(exact and_tt (by first|assumption|exact beq_iff_eq.2 (by assumption)) (by first|assumption|exact beq_iff_eq.2 (by assumption))))
        | (show (_:Nat)=(_:Nat);rfl)
        | (show (_:Nat)≤1000;decide)
        | (show (_:Int)=(_:Int);rfl)
        | (show (_:Int)≤_;decide)
        | (show (_:Int)<_;decide)
        -- PVC
    · cases h
def cMark:Con Try.prog where
  f:=88
  sem:=fun xs=>match xs with
    | [.sc (.v (.int .i64 t))]=>some (True,.tv (tB (mkB t)))
    | _=>none
  ok := by
    intro xs p r' h hp
    refine ⟨⟨_,Try.func88,by kernel_rfl,rfl⟩,fun us w ha=>?_⟩
    split at h
    · rename_i t
      cases h
      refine fn_ret (cxOk Try.prog ints_ok [] []) follows Try.func88 rfl 100 _ rfl (by simp) ?_ ha
      repeat' first
        | exact trivial
        | (refine And.intro (show regChk _ _ _ _ _=true from by kernel_rfl) (And.intro ?_ ?_))
        | (refine And.intro (fun _=>?_) (fun h=>absurd (show true=false from h) (by decide)))
        | (refine And.intro (fun h=>absurd (show false=true from h) (by decide)) (fun _=>?_))
        | (refine And.intro (fun hb=>?_) (fun hb'=>?_))
        | refine And.intro ?_ ?_
        | intro _
      all_goals first
        | (show some (CR.tv (tB _))=some (CR.tv (tB _));exact tB_eq rfl)
        | (show (_:Bool)=(_:Bool);first|assumption|exact beq_iff_eq.2 (by assumption)|(exact and_tt (by first|assumption|exact beq_iff_eq.2 (by assumption)) (by first|assumption|exact beq_iff_eq.2 (by assumption))))
        | (show (_:Nat)=(_:Nat);rfl)
        | (show (_:Nat)≤1000;decide)
        | (show (_:Int)=(_:Int);rfl)
        | (show (_:Int)≤_;decide)
        | (show (_:Int)<_;decide)
        -- PVC
    · cases h
def cTapTold:Con Try.prog where
  f:=63
  sem:=fun xs=>match xs with
    | [.sc (.v (.int .i64 p)),.sc (.v (.int .i64 t))]=>some (True,.tv (.agg [.v (.int .i64 (tdR p t).1),.v (.int .i64 (tdR p t).2)]))
    | _=>none
  ok := by
    intro xs p r' h hp
    refine ⟨⟨_,Try.func63,by kernel_rfl,rfl⟩,fun us w ha=>?_⟩
    split at h
    · rename_i p t
      cases h
      refine fn_ret (cxOk Try.prog ints_ok [] []) follows Try.func63 rfl 100 _ rfl (by simp) ?_ ha
      repeat' first
        | exact trivial
        | (refine And.intro (show regChk _ _ _ _ _=true from by kernel_rfl) (And.intro ?_ ?_))
        | (refine And.intro (fun _=>?_) (fun h=>absurd (show true=false from h) (by decide)))
        | (refine And.intro (fun h=>absurd (show false=true from h) (by decide)) (fun _=>?_))
        | (refine And.intro (fun hb=>?_) (fun hb'=>?_))
        | refine And.intro ?_ ?_
        | intro _
      all_goals first
        | (show some (CR.tv (.agg _))=some (CR.tv (.agg _));first|exact td_eq (tdR_0 (by assumption))|exact td_eq (tdR_1 (by assumption)))
        | (show (_:Bool)=(_:Bool);first|assumption|exact beq_iff_eq.2 (by assumption)|(exact and_tt (by first|assumption|exact beq_iff_eq.2 (by assumption)) (by first|assumption|exact beq_iff_eq.2 (by assumption))))
        | (show (_:Nat)=(_:Nat);rfl)
        | (show (_:Nat)≤1000;decide)
        | (show (_:Int)=(_:Int);rfl)
        | (show (_:Int)≤_;decide)
        | (show (_:Int)<_;decide)
        -- PVC
    · cases h
def cTpGood:Con Try.prog where
  f:=59
  sem:=fun xs=>match xs with
    | [.agg [.v (.bool o),.v (.int .i64 x),.v (.int .i64 y),.v (.int .i64 z),.v (.int .i64 s),.v (.int .i64 p)]]=>some (True,.tv (tB (goodTp o x y z s p)))
    | _=>none
  ok := by
    intro xs p r' h hp
    refine ⟨⟨_,Try.func59,by kernel_rfl,rfl⟩,fun us w ha=>?_⟩
    split at h
    · rename_i o x y z s p
      cases h
      refine fn_ret (cxOk Try.prog ints_ok [eqTap] [cVGood,cMark]) follows Try.func59 rfl 100 _ rfl (by simp) ?_ ha
      repeat' first
        | exact trivial
        | (refine And.intro (show regChk _ _ _ _ _=true from by kernel_rfl) (And.intro ?_ ?_))
        | (refine And.intro (fun _=>?_) (fun h=>absurd (show true=false from h) (by decide)))
        | (refine And.intro (fun h=>absurd (show false=true from h) (by decide)) (fun _=>?_))
        | (refine And.intro (fun hb=>?_) (fun hb'=>?_))
        | refine And.intro ?_ ?_
        | intro _
      all_goals first
        | (show some (CR.tv (tB _))=some (CR.tv (tB _));exact tB_eq rfl)
        | (show (_:Bool)=(_:Bool);first|assumption|exact beq_iff_eq.2 (by assumption)|(exact and_tt (by first|assumption|exact beq_iff_eq.2 (by assumption)) (by first|assumption|exact beq_iff_eq.2 (by assumption))))
        | (show (_:Nat)=(_:Nat);rfl)
        | (show (_:Nat)≤1000;decide)
        | (show (_:Int)=(_:Int);rfl)
        | (show (_:Int)≤_;decide)
        | (show (_:Int)<_;decide)
        -- PVC
    · cases h
def cTap:Con Try.prog where
  f:=31
  sem:=fun xs=>match xs with
    | [.agg [.v (.bool o),.v (.int .i64 x),.v (.int .i64 y),.v (.int .i64 z),.v (.int .i64 s),.v (.int .i64 p)],.agg [.v (.int .i64 a),.v (.int .i64 b),.v (.int .i64 c)],.sc (.v (.int .i64 now))]=>some (True,.tv (tTp (tapR o x y z s p a b c now)))
    | _=>none
  ok := by
    intro xs p r' h hp
    refine ⟨⟨_,Try.func31,by kernel_rfl,rfl⟩,fun us w ha=>?_⟩
    split at h
    · rename_i o x y z s p a b c now
      cases h
      refine fn_ret (cxOk Try.prog ints_ok [] [cTpGood,cVGood,cTimeP,cVSub,cNorm,cTapTold]) follows Try.func31 rfl 100 _ rfl (by simp) ?_ ha
      repeat' first
        | exact trivial
        | (refine And.intro (show regChk _ _ _ _ _=true from by kernel_rfl) (And.intro ?_ ?_))
        | (refine And.intro (fun _=>?_) (fun h=>absurd (show true=false from h) (by decide)))
        | (refine And.intro (fun h=>absurd (show false=true from h) (by decide)) (fun _=>?_))
        | (refine And.intro (fun hb=>?_) (fun hb'=>?_))
        | refine And.intro ?_ ?_
        | intro _
      all_goals first
        | (show some (CR.tv (.tup _))=some (CR.tv (tTp _));first|exact tp_eq (tapR_0 (by assumption))|exact tp_eq (tapR_1 (by assumption) (by assumption))|exact tp_eq (tapR_2 (by assumption) (by assumption) (by assumption))|exact tp_eq (tapR_3 (by assumption) (by assumption) (by assumption) (by assumption))|exact tp_eq (tapR_4 (by assumption) (by assumption) (by assumption) (by assumption) (by assumption) (by assumption))|exact tp_eq (tapR_5 (by assumption) (by assumption) (by assumption) (by assumption) (by assumption) (by assumption))|exact tp_eq (tapR_6 (by assumption) (by assumption) (by assumption) (by assumption) (by assumption) (by assumption) (by assumption))|exact tp_eq (tapR_7 (by assumption) (by assumption) (by assumption) (by assumption) (by assumption) (by assumption) (by assumption))|exact tp_eq (tapR_8 (by assumption) (by assumption) (by assumption) (by assumption) (by assumption) (by assumption)))
        | (show (_:Bool)=(_:Bool);first|assumption|exact beq_iff_eq.2 (by assumption)|(exact and_tt (by first|assumption|exact beq_iff_eq.2 (by assumption)) (by first|assumption|exact beq_iff_eq.2 (by assumption))))
        | (show (_:Nat)=(_:Nat);rfl)
        | (show (_:Nat)≤1000;decide)
        | (show (_:Int)=(_:Int);rfl)
        | (show (_:Int)≤_;decide)
        | (show (_:Int)<_;decide)
        -- PVC
    · cases h
def cWakes18:Con Try.prog where
  f:=33
  sem:=fun xs=>match xs with
    | []=>some (True,.tv (tB true))
    | _=>none
  ok := by
    intro xs p r' h hp
    refine ⟨⟨_,Try.func33,by kernel_rfl,rfl⟩,fun us w ha=>?_⟩
    split at h
    · skip
      cases h
      refine fn_ret (cxOk Try.prog ints_ok [eqTap] [cTap,cNum18]) follows Try.func33 rfl 100 _ rfl (by simp) ?_ ha
      repeat' first
        | exact trivial
        | (refine And.intro (show regChk _ _ _ _ _=true from by kernel_rfl) (And.intro ?_ ?_))
        | (refine And.intro (fun _=>?_) (fun h=>absurd (show true=false from h) (by decide)))
        | (refine And.intro (fun h=>absurd (show false=true from h) (by decide)) (fun _=>?_))
        | (refine And.intro (fun hb=>?_) (fun hb'=>?_))
        | refine And.intro ?_ ?_
        | intro _
      all_goals first
        | (show some (CR.tv (tB _))=some (CR.tv (tB _));exact tB_eq (by decide +kernel))
        | (show (_:Bool)=(_:Bool);first|assumption|exact beq_iff_eq.2 (by assumption)|(exact and_tt (by first|assumption|exact beq_iff_eq.2 (by assumption)) (by first|assumption|exact beq_iff_eq.2 (by assumption))))
        | (show (_:Nat)=(_:Nat);rfl)
        | (show (_:Nat)≤1000;decide)
        | (show (_:Int)=(_:Int);rfl)
        | (show (_:Int)≤_;decide)
        | (show (_:Int)<_;decide)
        -- PVC
    · cases h
end
end Go.Proofs.Ytonelbidndjhdaa.Wh
end
section
set_option linter.unusedVariables false
set_option linter.unusedSimpArgs false
namespace Go.Proofs.Ytonelbidndjhdaa.Wh
theorem cmpI_z {x y:Int} (h:cmpI x y=0):x=y:=by unfold cmpI at h;split at h;omega;split at h<;>omega
theorem nearB_yes {m s:Int} (h:nearB m 1 s=true):(2*s+1)*(2*s+1)≤4*m:=by
  have e1:(s*2 ^ Int.toNat 1+1)*(s*2 ^ Int.toNat 1+1)*1=(2*s+1)*(2*s+1):=by
    rw [Int.mul_one,show s*2 ^ Int.toNat 1=2*s from (Int.mul_comm s 2)]
  have e2:m*2 ^ Int.toNat 2=4*m:=Int.mul_comm m 4
  unfold nearB at h;rw [e1,e2] at h
  generalize (2*s+1)*(2*s+1)=y at h ⊢
  by_cases hc:cmpI y (4*m)<0
  · unfold cmpI at hc;split at hc<;>omega
  · rw [decide_eq_false hc] at h
    by_cases hz:cmpI y (4*m)=0
    · have:=cmpI_z hz;omega
    · rw [beq_eq_false_iff_ne.2 hz] at h;exact absurd (show false=true from h) (by decide)
theorem nearB_no {m s:Int} (h:nearB m 1 s=false):4*m≤(2*s+1)*(2*s+1):=by
  have e1:(s*2 ^ Int.toNat 1+1)*(s*2 ^ Int.toNat 1+1)*1=(2*s+1)*(2*s+1):=by
    rw [Int.mul_one,show s*2 ^ Int.toNat 1=2*s from (Int.mul_comm s 2)]
  have e2:m*2 ^ Int.toNat 2=4*m:=Int.mul_comm m 4
  unfold nearB at h;rw [e1,e2] at h
  generalize (2*s+1)*(2*s+1)=y at h ⊢
  by_cases hc:cmpI y (4*m)<0
  · rw [decide_eq_true hc] at h;exact absurd (show true=false from h) (by decide)
  · unfold cmpI at hc;split at hc<;>omega
theorem near_word {m:Int} (h0:0≤m) (h1:m<37778931862957161709568):0≤nearR m 1∧nearR m 1≤274877906944∧4*m≤(2*nearR m 1+1)*(2*nearR m 1+1)∧(0<nearR m 1→(2*nearR m 1-1)*(2*nearR m 1-1)≤4*m):=by
  obtain ⟨a1,a2,a3⟩:=isq_spec h0
  have a4:=sq_lt (a:=isq m) (b:=274877906944) a1 (by decide) (by omega)
  have ed:m/1=m:=Int.ediv_one m
  have q1:(2*isq m+1)*(2*isq m+1)=4*(isq m*isq m)+4*isq m+1:=by
    have q0:2*isq m*(2*isq m)=4*(isq m*isq m):=by rw [Int.mul_assoc,← Int.mul_assoc (isq m) 2,Int.mul_comm (isq m) 2,Int.mul_assoc 2,← Int.mul_assoc 2 2];rfl
    simp only [Int.add_mul,Int.mul_add,Int.mul_one,Int.one_mul]
    omega
  have q2:(isq m+1)*(isq m+1)=isq m*isq m+2*isq m+1:=by simp only [Int.add_mul,Int.mul_add,Int.mul_one,Int.one_mul];omega
  unfold nearR;rw [ed]
  cases hb:nearB m 1 (isq m) with
  | true =>
    have:=nearB_yes hb
    rw [if_pos rfl]
    have e3:2*(isq m+1)+1=(2*isq m+1)+2:=by omega
    have e4:2*(isq m+1)-1=2*isq m+1:=by omega
    rw [e3,e4]
    have q3:(2*isq m+1+2)*(2*isq m+1+2)=(2*isq m+1)*(2*isq m+1)+4*(2*isq m+1)+4:=by
      generalize 2*isq m+1=t
      simp only [Int.add_mul,Int.mul_add];omega
    rw [q3]
    generalize isq m*isq m=y at *
    refine ⟨by omega,by omega,by omega,fun _=>by omega⟩
  | false =>
    have:=nearB_no hb
    rw [if_neg (by decide)]
    have e4:2*isq m-1=(2*isq m+1)-2:=by omega
    rw [e4]
    have q3:(2*isq m+1-2)*(2*isq m+1-2)=(2*isq m+1)*(2*isq m+1)-4*(2*isq m+1)+4:=by
      generalize 2*isq m+1=t
      simp only [Int.sub_mul,Int.mul_sub];omega
    rw [q3]
    generalize isq m*isq m=y at *
    refine ⟨by omega,by omega,by omega,fun _=>by omega⟩
end Go.Proofs.Ytonelbidndjhdaa.Wh
end
section
set_option linter.unusedVariables false
set_option linter.unusedSimpArgs false
namespace Go.Proofs.Ytonelbidndjhdaa.Wh
open Go Go.RowKit Go.Proofs.YtonelbidndjhdaaW.PrintWords Go.Proofs.YtonelbidndjhdaaW.PrintMore Go.Proofs.YtonelbidndjhdaaW.Aid Go.Proofs.YtonelbidndjhdaaW.Big Go.Proofs.YtonelbidndjhdaaW.Sx Go.Proofs.Ytonelbidndjhdaa.BitsWalk Go.Proofs.Ytonelbidndjhdaa.Limbs Go.Proofs.Ytonelbidndjhdaa.Whole Go.Proofs.Ytonelbidndjhdaa.FxWalk Go.Proofs
theorem tmB_ok {t:Int} (h:0≤t∧t≤1099511627776):tmB t=true:=by
  unfold tmB;rw [decide_eq_true (show t≥0 by omega),decide_eq_true h.2];rfl
theorem mkB_ok {t:Int} (h:0≤t∧t≤1099511627777):mkB t=true:=by
  unfold mkB;rw [decide_eq_true (show t≥0 by omega),decide_eq_true h.2];rfl
theorem wrJ {x:Int} (h : -9223372036854775808≤x) (h':x<9223372036854775808):IntKind.i64.wrap x=x:=by rw [i64_wrap];exact wrap64_id h (by omega)
theorem toldOk {x:Int} (h:wd x=true):toldR x=(x,0):=by unfold toldR;rw [if_pos h]
def Sm (x:Int):Prop := -19613300≤x∧x≤19613300
theorem sm_wd {x:Int} (h:Sm x):wd x=true:=by rw [wd_iff];unfold Sm at h;omega
theorem sq_bd {x k:Int} (h : -k≤x∧x≤k):x*x≤k*k:=by
  have h1:x.natAbs≤k.natAbs:=by omega
  have h2:x.natAbs*x.natAbs≤k.natAbs*k.natAbs:=Nat.mul_le_mul h1 h1
  have e:∀ t:Int,((t.natAbs*t.natAbs:Nat):Int)=t*t:=fun t=>Int.natAbs_mul_self
  rw [← e x,← e k];omega
theorem vTok {x y z:Int} (h:wd x=true) (h2:wd y=true) (h3:wd z=true):vT x y z=(x,y,z,0):=by unfold vT;rw [if_pos (by simp [h,h2,h3])]
theorem sub_sm {a b c x y z:Int} (ha:Sm a) (hb:Sm b) (hc:Sm c) (hx:Sm x) (hy:Sm y) (hz:Sm z):subV a b c x y z=(a-x,b-y,c-z,0):=by
  have w:∀ s t:Int,Sm s→Sm t→wd (s-t)=true:=fun s t hs ht=>by rw [wd_iff];unfold Sm at hs ht;omega
  unfold subV guard2
  rw [if_pos ⟨gV_iff.2 ⟨sm_wd ha,sm_wd hb,sm_wd hc⟩,gV_iff.2 ⟨sm_wd hx,sm_wd hy,sm_wd hz⟩⟩,vTok (w _ _ ha hx) (w _ _ hb hy) (w _ _ hc hz)]
theorem norm_sm {x y z:Int} (hx : -39226600≤x∧x≤39226600) (hy : -39226600≤y∧y≤39226600) (hz : -39226600≤z∧z≤39226600):(normR x y z).2=0∧(normR x y z).1=nearR (dot3 x y z x y z) 1:=by
  have w:∀ t:Int,-39226600≤t∧t≤39226600→wd t=true:=fun t ht=>by rw [wd_iff];omega
  have s1:=sq_bd hx
  have s2:=sq_bd hy
  have s3:=sq_bd hz
  have h0:0≤dot3 x y z x y z:=dot_self
  have h1:dot3 x y z x y z<37778931862957161709568:=by unfold dot3;omega
  have hn:=near_word h0 h1
  have hw:wd (nearR (dot3 x y z x y z) 1)=true:=by rw [wd_iff];omega
  unfold normR
  rw [if_pos (gV_iff.2 ⟨w x hx,w y hy,w z hz⟩),toldOk hw]
  exact ⟨rfl,rfl⟩
structure Va (o:Bool) (x y z s p a b c now:Int):Prop where
  fl:Sm x∧Sm y∧Sm z
  fv:Sm a∧Sm b∧Sm c
  ft:0≤now∧now≤1099511627776
  fs:0≤s∧s≤now+1
  fp:0≤p∧p≤now+1
  fo:o=true∨(x=0∧y=0∧z=0∧s=0∧p=0)
theorem Va.ok {o:Bool} {x y z s p a b c now:Int} (h:Va o x y z s p a b c now):badTp o x y z s p a b c now=false:=by
  have hs:=h.fs
  have hp:=h.fp
  have ht:=h.ft
  have g:goodTp o x y z s p=true:=by
    unfold goodTp
    rw [gV_iff.2 ⟨sm_wd h.fl.1,sm_wd h.fl.2.1,sm_wd h.fl.2.2⟩,mkB_ok (by omega),mkB_ok (by omega)]
    rcases h.fo with rfl|⟨rfl,rfl,rfl,rfl,rfl⟩
    · rfl
    · cases o<;>rfl
  unfold badTp
  rw [g,gV_iff.2 ⟨sm_wd h.fv.1,sm_wd h.fv.2.1,sm_wd h.fv.2.2⟩,tmB_ok ht,wrJ (by omega) (by omega),decide_eq_false (by omega),decide_eq_false (by omega)];rfl
def tpR (s p now:Int) (big:Bool):Int × Int × Int :=
  if big=true then (if s=0 then (now+1,p,0) else (s,p,0)) else if s≠0 then (if now+1-s≤60 then (0,(tdR p (now+1)).2,(tdR p (now+1)).1) else (0,p,0)) else (s,p,0)
abbrev big18 (x y z a b c:Int):Bool:=decide (nearR (dot3 (a-x) (b-y) (c-z) (a-x) (b-y) (c-z)) 1>9806650)
theorem Va.on {x y z s p a b c now:Int} (h:Va true x y z s p a b c now):tapR true x y z s p a b c now=((true,a,b,c,(tpR s p now (big18 x y z a b c)).1,(tpR s p now (big18 x y z a b c)).2.1),(tpR s p now (big18 x y z a b c)).2.2,0):=by
  have hs:=h.fs
  have ht:=h.ft
  have hd:=sub_sm h.fv.1 h.fv.2.1 h.fv.2.2 h.fl.1 h.fl.2.1 h.fl.2.2
  have b1:∀ u t:Int,Sm u→Sm t → -39226600≤u-t∧u-t≤39226600:=fun u t hu ht=>by unfold Sm at hu ht;omega
  have hj:=norm_sm (b1 _ _ h.fv.1 h.fl.1) (b1 _ _ h.fv.2.1 h.fl.2.1) (b1 _ _ h.fv.2.2 h.fl.2.2)
  have w1:IntKind.i64.wrap (now+1)=now+1:=wrJ (by omega) (by omega)
  have w2:IntKind.i64.wrap (now+1-s)=now+1-s:=wrJ (by omega) (by omega)
  have e2:((subV a b c x y z).2.2.2 != 0)=false:=by rw [hd];rfl
  have e3:((normR (subV a b c x y z).1 (subV a b c x y z).2.1 (subV a b c x y z).2.2.1).2 != 0)=false:=by rw [hd];dsimp only;rw [hj.1];rfl
  have e4:(normR (subV a b c x y z).1 (subV a b c x y z).2.1 (subV a b c x y z).2.2.1).1=nearR (dot3 (a-x) (b-y) (c-z) (a-x) (b-y) (c-z)) 1:=by rw [hd];exact hj.2
  by_cases hbig:nearR (dot3 (a-x) (b-y) (c-z) (a-x) (b-y) (c-z)) 1>9806650
  · have hB:big18 x y z a b c=true:=decide_eq_true hbig
    rw [hB]
    by_cases h0:s=0
    · have:=(tapR_4 h.ok rfl e2 e3 (by rw [e4];exact hB) (beq_iff_eq.2 h0)).symm
      rw [this];unfold tpR;rw [if_pos rfl,if_pos h0,w1]
    · have:=(tapR_5 h.ok rfl e2 e3 (by rw [e4];exact hB) (beq_eq_false_iff_ne.2 h0)).symm
      rw [this];unfold tpR;rw [if_pos rfl,if_neg h0]
  · have hB:big18 x y z a b c=false:=decide_eq_false hbig
    rw [hB]
    by_cases h0:s=0
    · have:=(tapR_8 h.ok rfl e2 e3 (by rw [e4];exact hB) (by rw [h0];rfl)).symm
      rw [this];unfold tpR;rw [if_neg (by decide),if_neg (by omega)]
    · have hne:(s != 0)=true:=by simpa using h0
      by_cases h6:now+1-s≤60
      · have:=(tapR_6 h.ok rfl e2 e3 (by rw [e4];exact hB) hne (by rw [w1,w2];exact decide_eq_true h6)).symm
        rw [this];unfold tpR;rw [if_neg (by decide),if_pos h0,if_pos h6,w1]
      · have:=(tapR_7 h.ok rfl e2 e3 (by rw [e4];exact hB) hne (by rw [w1,w2];exact decide_eq_false h6)).symm
        rw [this];unfold tpR;rw [if_neg (by decide),if_pos h0,if_neg h6]
theorem Va.off {x y z s p a b c now:Int} (h:Va false x y z s p a b c now):tapR false x y z s p a b c now=((true,a,b,c,0,0),0,0):=(tapR_1 h.ok rfl).symm
abbrev C18 (i:Int) (N:Nat):Bool:=bif decide (i<(N:Int)) then decide (i<80) else false
theorem i18 {N:Nat} {i:Int} (h:0≤i∧i≤(N:Int)) (hC:C18 i N=true):(0≤IntKind.i64.wrap (i+1)∧IntKind.i64.wrap (i+1)≤(N:Int))∧((N:Int)-IntKind.i64.wrap (i+1)).toNat<((N:Int)-i).toNat∧IntKind.i64.wrap (i+1)=i+1∧i<80:=by
  have h1:=hC1 hC
  rw [wrap1 h.1 (by omega)]
  omega
theorem now18 {N:Nat} {i now:Int} (hi:0≤i∧i≤(N:Int)) (hC:C18 i N=true) (hn:0≤now∧now≤90*i) (m:Int):now≤IntKind.i64.wrap (now+withinR m 90)∧IntKind.i64.wrap (now+withinR m 90)≤90*(i+1)∧IntKind.i64.wrap (now+withinR m 90)≤1099511627776:=by
  have h1:=i18 hi hC
  have h3:=within_bd m (n:=90) (by decide)
  rw [wrJ (by omega) (by omega)];omega
structure D18 where
  i:Int
  now:Int
  one:Int
  o:Bool
  x:Int
  y:Int
  z:Int
  s:Int
  p:Int
def J18 (N:Nat) (v:D18):Prop:=(0≤v.i∧v.i≤(N:Int))∧(0≤v.now∧v.now≤90*v.i)∧(Sm v.x∧Sm v.y∧Sm v.z)∧(0≤v.s∧v.s≤v.now+1)∧((v.one = -1∧v.p=0)∨(0≤v.one∧v.one≤v.now∧v.p=v.one+1))∧(v.o=true∨(v.x=0∧v.y=0∧v.z=0∧v.s=0∧v.p=0))
abbrev nd (v:D18) (m:Int):Int:=IntKind.i64.wrap (v.now+withinR m 90)
theorem nd_bd {N:Nat} {v:D18} (hI:J18 N v) (hC:C18 v.i N=true) (m:Int):v.now≤nd v m∧nd v m≤90*(v.i+1)∧nd v m≤1099511627776:=now18 hI.1 hC hI.2.1 m
theorem smB (x:Int):Sm (broughtR x 19613300):=brought_bd x (by decide)
theorem vaD {N:Nat} {v:D18} (hI:J18 N v) (hC:C18 v.i N=true) (m:Int) {a b c:Int} (hv:Sm a∧Sm b∧Sm c):Va v.o v.x v.y v.z v.s v.p a b c (nd v m):=by
  have hn:=nd_bd hI hC m
  obtain ⟨h1,h2,h3,h4,h5,h6⟩:=hI
  exact ⟨h3,hv,by omega,by omega,by rcases h5 with h|h<;>omega,h6⟩
structure Ok18 (now one s p now':Int) (q:(Bool × Int × Int × Int × Int × Int) × Int × Int) (a b c:Int):Prop where
  e:q.2.2=0
  on:q.1.1=true
  l:q.1.2.1=a∧q.1.2.2.1=b∧q.1.2.2.2.1=c
  s:0≤q.1.2.2.2.2.1∧q.1.2.2.2.2.1≤now'+1
  k:(q.2.1=0∧q.1.2.2.2.2.2=p)∨(q.2.1=1∧q.1.2.2.2.2.2=now'+1∧¬ (0≤one∧now'-one≤300))∨(q.2.1=2∧q.1.2.2.2.2.2=0∧0≤one∧now'-one≤300)
theorem told18 {one now p now':Int} (hn:0≤now'∧now'≤1099511627776) (h:(one = -1∧p=0)∨(0≤one∧one≤now'∧p=one+1)):(tdR p (now'+1)=(2,0)∧0≤one∧now'-one≤300)∨(tdR p (now'+1)=(1,now'+1)∧¬ (0≤one∧now'-one≤300)):=by
  rcases h with ⟨h1,h2⟩|⟨h1,h2,h3⟩
  · right;rw [h2];exact ⟨(tdR_1 rfl).symm,by omega⟩
  · have w:IntKind.i64.wrap (now'+1-p)=now'-one:=by rw [wrJ (by omega) (by omega)];omega
    have hp:(p != 0)=true:=by simp;omega
    by_cases hl:now'-one≤300
    · left;exact ⟨(tdR_0 (by rw [w,hp,decide_eq_true hl];rfl)).symm,h1,hl⟩
    · right;exact ⟨(tdR_1 (by rw [w,hp,decide_eq_false hl];rfl)).symm,by omega⟩
abbrev tQ (v:D18) (a b c m:Int):(Bool × Int × Int × Int × Int × Int) × Int × Int:=tapR v.o v.x v.y v.z v.s v.p a b c (nd v m)
theorem first18 {N:Nat} {v:D18} (hI:J18 N v) (hC:C18 v.i N=true) (m:Int) {a b c:Int} (hv:Sm a∧Sm b∧Sm c):Ok18 v.now v.one v.s v.p (nd v m) (tQ v a b c m) a b c:=by
  unfold tQ
  have hva:=vaD hI hC m hv
  have hn:=nd_bd hI hC m
  obtain ⟨h1,h2,h3,h4,h5,h6⟩:=hI
  cases ho:v.o with
  | false =>
    rw [ho] at hva
    rw [hva.off]
    rcases h6 with h|h
    · rw [ho] at h;cases h
    · exact ⟨rfl,rfl,⟨rfl,rfl,rfl⟩,⟨Int.le_refl _,by dsimp only;omega⟩,Or.inl ⟨rfl,h.2.2.2.2.symm⟩⟩
  | true =>
    rw [ho] at hva
    rw [hva.on]
    generalize big18 v.x v.y v.z a b c=B
    have h5':(v.one = -1∧v.p=0)∨(0≤v.one∧v.one≤nd v m∧v.p=v.one+1):=by rcases h5 with h|h;exact Or.inl h;exact Or.inr ⟨h.1,by omega,h.2.2⟩
    have ht:=told18 (now:=v.now) (now':=nd v m) (by omega) h5'
    unfold tpR
    by_cases hB:B=true
    · rw [if_pos hB]
      by_cases h0:v.s=0
      · rw [if_pos h0];exact ⟨rfl,rfl,⟨rfl,rfl,rfl⟩,⟨by dsimp only;omega,by dsimp only;omega⟩,Or.inl ⟨rfl,rfl⟩⟩
      · rw [if_neg h0];exact ⟨rfl,rfl,⟨rfl,rfl,rfl⟩,⟨h4.1,by dsimp only;omega⟩,Or.inl ⟨rfl,rfl⟩⟩
    · rw [if_neg hB]
      by_cases h0:v.s≠0
      · rw [if_pos h0]
        by_cases h6':nd v m+1-v.s≤60
        · rw [if_pos h6']
          rcases ht with ⟨e,g1,g2⟩|⟨e,g⟩
          · rw [e];exact ⟨rfl,rfl,⟨rfl,rfl,rfl⟩,⟨Int.le_refl _,by dsimp only;omega⟩,Or.inr (Or.inr ⟨rfl,rfl,g1,g2⟩)⟩
          · rw [e];exact ⟨rfl,rfl,⟨rfl,rfl,rfl⟩,⟨Int.le_refl _,by dsimp only;omega⟩,Or.inr (Or.inl ⟨rfl,rfl,g⟩)⟩
        · rw [if_neg h6'];exact ⟨rfl,rfl,⟨rfl,rfl,rfl⟩,⟨Int.le_refl _,by dsimp only;omega⟩,Or.inl ⟨rfl,rfl⟩⟩
      · rw [if_neg h0];exact ⟨rfl,rfl,⟨rfl,rfl,rfl⟩,⟨h4.1,by dsimp only;omega⟩,Or.inl ⟨rfl,rfl⟩⟩
abbrev chkD (q:(Bool × Int × Int × Int × Int × Int) × Int × Int) (a b c:Int):Bool:=bif bif bif bif q.2.2 != 0 then true else decide (q.2.1<0) then true else decide (q.2.1>2) then true else !q.1.1 then true else !eqL (cells3 q.1.2.1 q.1.2.2.1 q.1.2.2.2.1) (cells3 a b c)
theorem td1 {N:Nat} {v:D18} (hI:J18 N v) (hC:C18 v.i N=true) (m:Int) {a b c:Int} (hv:Sm a∧Sm b∧Sm c):chkD (tQ v a b c m) a b c=false:=by
  have h:=first18 hI hC m hv
  have hk:=h.k
  unfold chkD
  rw [h.e,h.on,h.l.1,h.l.2.1,h.l.2.2,decide_eq_false (show ¬ (tQ v a b c m).2.1<0 by rcases hk with h|h|h<;>omega),decide_eq_false (show ¬ (tQ v a b c m).2.1>2 by rcases hk with h|h|h<;>omega)]
  simp [eqL,eqV]
theorem wOne {N:Nat} {v:D18} (hI:J18 N v) (hC:C18 v.i N=true) (m:Int):IntKind.i64.wrap (nd v m-v.one)=nd v m-v.one:=by
  have hn:=nd_bd hI hC m
  have h5:=hI.2.2.2.2.1
  have h2:=hI.2.1
  exact wrJ (by rcases h5 with h|h<;>omega) (by rcases h5 with h|h<;>omega)
theorem td2 {N:Nat} {v:D18} (hI:J18 N v) (hC:C18 v.i N=true) (m:Int) {a b c:Int} (hv:Sm a∧Sm b∧Sm c) (hk:((tQ v a b c m).2.1 == 1)=true):(bif decide (v.one≥0) then decide (IntKind.i64.wrap (nd v m-v.one)≤300) else false)=false:=by
  have h:=first18 hI hC m hv
  rw [wOne hI hC m]
  have hk:=beq_iff_eq.1 hk
  rcases h.k with h|h|h
  · omega
  · by_cases h0:v.one≥0
    · rw [decide_eq_true h0,decide_eq_false (by omega)];rfl
    · rw [decide_eq_false h0];rfl
  · omega
theorem td3 {N:Nat} {v:D18} (hI:J18 N v) (hC:C18 v.i N=true) (m:Int) {a b c:Int} (hv:Sm a∧Sm b∧Sm c) (hk:((tQ v a b c m).2.1 == 2)=true):(bif decide (v.one<0) then true else decide (IntKind.i64.wrap (nd v m-v.one)>300))=false:=by
  have h:=first18 hI hC m hv
  rw [wOne hI hC m]
  have hk:=beq_iff_eq.1 hk
  rcases h.k with h|h|h
  · omega
  · omega
  · rw [decide_eq_false (by omega),decide_eq_false (by omega)];rfl
theorem big0 (a b c:Int):big18 a b c a b c=false:=by
  unfold big18
  rw [Int.sub_self,Int.sub_self,Int.sub_self]
  decide +kernel
theorem again18 {N:Nat} {v:D18} (hI:J18 N v) (hC:C18 v.i N=true) (m:Int) {a b c:Int} (hv:Sm a∧Sm b∧Sm c):∃ s p k,tapR (tQ v a b c m).1.1 (tQ v a b c m).1.2.1 (tQ v a b c m).1.2.2.1 (tQ v a b c m).1.2.2.2.1 (tQ v a b c m).1.2.2.2.2.1 (tQ v a b c m).1.2.2.2.2.2 a b c (nd v m)=((true,a,b,c,s,p),k,0)∧((tQ v a b c m).1.2.2.2.2.1=0→k=0):=by
  have h:=first18 hI hC m hv
  have hn:=nd_bd hI hC m
  have h5:=hI.2.2.2.2.1
  have hva:Va true a b c (tQ v a b c m).1.2.2.2.2.1 (tQ v a b c m).1.2.2.2.2.2 a b c (nd v m):=by
    refine ⟨hv,hv,by have:=hI.2.1;omega,h.s,?_,Or.inl rfl⟩
    have h2:=hI.2.1
    rcases h.k with h|h|h<;>rcases h5 with h'|h'<;>omega
  have e:=hva.on
  rw [big0] at e
  rw [h.on,h.l.1,h.l.2.1,h.l.2.2,e]
  refine ⟨_,_,_,rfl,fun h0=>?_⟩
  unfold tpR;rw [if_neg (by decide),if_neg (by omega)]
abbrev chkE (q r:(Bool × Int × Int × Int × Int × Int) × Int × Int) (a b c:Int):Bool:=bif bif r.2.2 != 0 then true else (bif r.2.1 != 0 then q.1.2.2.2.2.1 == 0 else false) then true else !eqL (cells3 r.1.2.1 r.1.2.2.1 r.1.2.2.2.1) (cells3 a b c)
theorem td4 {N:Nat} {v:D18} (hI:J18 N v) (hC:C18 v.i N=true) (m:Int) {a b c:Int} (hv:Sm a∧Sm b∧Sm c):chkE (tQ v a b c m) (tapR (tQ v a b c m).1.1 (tQ v a b c m).1.2.1 (tQ v a b c m).1.2.2.1 (tQ v a b c m).1.2.2.2.1 (tQ v a b c m).1.2.2.2.2.1 (tQ v a b c m).1.2.2.2.2.2 a b c (nd v m)) a b c=false:=by
  obtain ⟨s,p,k,e,h⟩:=again18 hI hC m hv
  unfold chkE
  rw [e]
  by_cases h0:(tQ v a b c m).1.2.2.2.2.1=0
  · rw [h h0];simp [eqL,eqV]
  · rw [beq_eq_false_iff_ne.2 h0];cases hk:(k != 0)<;>simp [eqL,eqV,hk]
abbrev nxD (v:D18) (m one:Int) (q:(Bool × Int × Int × Int × Int × Int) × Int × Int):D18:=⟨IntKind.i64.wrap (v.i+1),nd v m,one,q.1.1,q.1.2.1,q.1.2.2.1,q.1.2.2.2.1,q.1.2.2.2.2.1,q.1.2.2.2.2.2⟩
theorem goD {N:Nat} {v:D18} (hI:J18 N v) (hC:C18 v.i N=true) (m:Int) {a b c:Int} (hv:Sm a∧Sm b∧Sm c) {one:Int} (ho:(one = -1∧(tQ v a b c m).1.2.2.2.2.2=0)∨(0≤one∧one≤nd v m∧(tQ v a b c m).1.2.2.2.2.2=one+1)):J18 N (nxD v m one (tQ v a b c m)):=by
  have h:=first18 hI hC m hv
  have hn:=nd_bd hI hC m
  have h1:=i18 hI.1 hC
  have h2:=hI.2.1
  refine ⟨h1.1,⟨by dsimp only;omega,by dsimp only;rw [h1.2.2.1];exact hn.2.1⟩,?_,h.s,ho,Or.inl h.on⟩
  dsimp only
  rw [h.l.1,h.l.2.1,h.l.2.2];exact hv
theorem go1 {N:Nat} {v:D18} (hI:J18 N v) (hC:C18 v.i N=true) (m:Int) {a b c:Int} (hv:Sm a∧Sm b∧Sm c) (hk:((tQ v a b c m).2.1 == 1)=true):J18 N (nxD v m (nd v m) (tQ v a b c m)):=by
  have h:=first18 hI hC m hv
  have hn:=nd_bd hI hC m
  have h2:=hI.2.1
  have hk:=beq_iff_eq.1 hk
  refine goD hI hC m hv (Or.inr ⟨by omega,Int.le_refl _,?_⟩)
  rcases h.k with h|h|h<;>omega
theorem go2 {N:Nat} {v:D18} (hI:J18 N v) (hC:C18 v.i N=true) (m:Int) {a b c:Int} (hv:Sm a∧Sm b∧Sm c) (hk:((tQ v a b c m).2.1 == 2)=true):J18 N (nxD v m (-1) (tQ v a b c m)):=by
  have h:=first18 hI hC m hv
  have hk:=beq_iff_eq.1 hk
  refine goD hI hC m hv (Or.inl ⟨rfl,?_⟩)
  rcases h.k with h|h|h<;>omega
theorem go0 {N:Nat} {v:D18} (hI:J18 N v) (hC:C18 v.i N=true) (m:Int) {a b c:Int} (hv:Sm a∧Sm b∧Sm c) (hk:((tQ v a b c m).2.1 == 1)=false) (hk':((tQ v a b c m).2.1 == 2)=false):J18 N (nxD v m v.one (tQ v a b c m)):=by
  have h:=first18 hI hC m hv
  have hn:=nd_bd hI hC m
  have hk:=beq_eq_false_iff_ne.1 hk
  have hk':=beq_eq_false_iff_ne.1 hk'
  have h5:=hI.2.2.2.2.1
  refine goD hI hC m hv ?_
  rcases h.k with h|h|h
  · rw [h.2]
    rcases h5 with h'|h'
    · exact Or.inl h'
    · exact Or.inr ⟨h'.1,by omega,h'.2.2⟩
  · omega
  · omega
theorem inD (N:Nat):J18 N ⟨0,0,-1,false,0,0,0,0,0⟩:=⟨⟨Int.le_refl _,Int.natCast_nonneg _⟩,⟨Int.le_refl _,by decide⟩,⟨⟨by decide,by decide⟩,⟨by decide,by decide⟩,by decide,by decide⟩,⟨Int.le_refl _,by decide⟩,Or.inl ⟨rfl,rfl⟩,Or.inr ⟨rfl,rfl,rfl,rfl,rfl⟩⟩
section
set_option maxRecDepth 100000
set_option maxHeartbeats 8000000
abbrev row_tapDoubles (tb:Nat→Bool) (tx ty tz ts tp ux uy uz nw:Nat→Int):Nat→List A0:=fun j=>[.v (.bool (tb j)),.v (.int .i64 (tx j)),.v (.int .i64 (ty j)),.v (.int .i64 (tz j)),.v (.int .i64 (ts j)),.v (.int .i64 (tp j)),.v (.int .i64 (ux j)),.v (.int .i64 (uy j)),.v (.int .i64 (uz j)),.v (.int .i64 (nw j))]
def st_tapDoubles (n:Nat) (tb:Nat→Bool) (tx ty tz ts tp ux uy uz nw:Nat→Int):LI D18 where
  gs:=fun v=>[(0,.rowF n 10 (row_tapDoubles tb tx ty tz ts tp ux uy uz nw)),(2,tB false),(3,.ptr 3 0),(4,tN .i64 v.now),(5,tN .i64 v.one),(6,tN .i64 v.i)]
  bs:=fun v=>[(3,61,[.v (.bool v.o),.v (.int .i64 v.x),.v (.int .i64 v.y),.v (.int .i64 v.z),.v (.int .i64 v.s),.v (.int .i64 v.p)])]
  I:=fun v=>J18 n v
  μ:=fun v=>((n:Int)-v.i).toNat
theorem tapDoubles_law (n:Nat) (tb:Nat→Bool) (tx ty tz ts tp ux uy uz nw:Nat→Int) {us:List Value} {w:World} (hargs:All2 (TV.reads (fun _=>0) w.heap.size w) [.rowF n 10 (row_tapDoubles tb tx ty tz ts tp ux uy uz nw)] us):Ret Try.prog 11 us.toArray w (.tv (tB true)):=by
  refine fnl_ret (st_tapDoubles n tb tx ty tz ts tp ux uy uz nw) (cxOk Try.prog ints_ok [eqVec] [cWithin,cL0Vec,cTap,cNum18,cWakes18]) follows Try.func11 rfl 300 _ rfl (by simp) ?_ hargs
  repeat' first
    | exact trivial
    | (refine And.intro (show regChk _ _ _ _ _=true from by kernel_rfl) (And.intro ?_ ?_))
    | (refine And.intro (fun _=>?_) (fun h=>absurd (show true=false from h) (by decide)))
    | (refine And.intro (fun h=>absurd (show false=true from h) (by decide)) (fun _=>?_))
    | (have:=hC;refine And.intro (fun hb=>?_) (fun hb'=>?_))
    | (have:=hv;refine And.intro (fun hC=>?_) (fun hC=>?_))
    | refine And.intro ?_ ?_
    | (intro v hv)
    | intro _
  all_goals first
    | (show wfB _ _=true;rfl)
    | (show (_:Bool)=true;first|assumption|exact beq_iff_eq.2 (by assumption)|(exact and_tt (by first|assumption|exact beq_iff_eq.2 (by assumption)) (by first|assumption|exact beq_iff_eq.2 (by assumption))))
    | (show some (CR.tv (tB true))=some (CR.tv (tB true));rfl)
    | (show (0:Int)≤v.i;exact hv.1.1)
    | (show v.i<(n:Int);exact (hC1 hC).1)
    | (show (0:Int)≤_;decide)
    | (show (_:Int)<_;decide)
    | (exact ⟨⟨0,0,-1,false,0,0,0,0,0⟩,inD n,⟨rfl,rfl,rfl,rfl,rfl,rfl,trivial⟩,⟨rfl,⟨rfl,rfl,rfl,rfl,rfl,rfl,trivial⟩,trivial⟩⟩)
    | (refine ⟨_,?_,go1 hv hC (nw v.i.toNat) ⟨smB (ux v.i.toNat),smB (uy v.i.toNat),smB (uz v.i.toNat)⟩ (by assumption),⟨rfl,rfl,rfl,rfl,rfl,rfl,trivial⟩,⟨rfl,⟨rfl,rfl,rfl,rfl,rfl,rfl,trivial⟩,trivial⟩⟩;exact (i18 hv.1 hC).2.1)
    | (refine ⟨_,?_,go2 hv hC (nw v.i.toNat) ⟨smB (ux v.i.toNat),smB (uy v.i.toNat),smB (uz v.i.toNat)⟩ (by assumption),⟨rfl,rfl,rfl,rfl,rfl,rfl,trivial⟩,⟨rfl,⟨rfl,rfl,rfl,rfl,rfl,rfl,trivial⟩,trivial⟩⟩;exact (i18 hv.1 hC).2.1)
    | (refine ⟨_,?_,go0 hv hC (nw v.i.toNat) ⟨smB (ux v.i.toNat),smB (uy v.i.toNat),smB (uz v.i.toNat)⟩ (by assumption) (by assumption),⟨rfl,rfl,rfl,rfl,rfl,rfl,trivial⟩,⟨rfl,⟨rfl,rfl,rfl,rfl,rfl,rfl,trivial⟩,trivial⟩⟩;exact (i18 hv.1 hC).2.1)
    | (refine ⟨_,?_,go1 hv hC (nw v.i.toNat) hv.2.2.1 (by assumption),⟨rfl,rfl,rfl,rfl,rfl,rfl,trivial⟩,⟨rfl,⟨rfl,rfl,rfl,rfl,rfl,rfl,trivial⟩,trivial⟩⟩;exact (i18 hv.1 hC).2.1)
    | (refine ⟨_,?_,go2 hv hC (nw v.i.toNat) hv.2.2.1 (by assumption),⟨rfl,rfl,rfl,rfl,rfl,rfl,trivial⟩,⟨rfl,⟨rfl,rfl,rfl,rfl,rfl,rfl,trivial⟩,trivial⟩⟩;exact (i18 hv.1 hC).2.1)
    | (refine ⟨_,?_,go0 hv hC (nw v.i.toNat) hv.2.2.1 (by assumption) (by assumption),⟨rfl,rfl,rfl,rfl,rfl,rfl,trivial⟩,⟨rfl,⟨rfl,rfl,rfl,rfl,rfl,rfl,trivial⟩,trivial⟩⟩;exact (i18 hv.1 hC).2.1)
    | (show some (CR.tv (tB false))=some (CR.tv (tB true));exfalso;first|exact no (td1 hv hC (nw v.i.toNat) ⟨smB (ux v.i.toNat),smB (uy v.i.toNat),smB (uz v.i.toNat)⟩) (by assumption)|exact no (td2 hv hC (nw v.i.toNat) ⟨smB (ux v.i.toNat),smB (uy v.i.toNat),smB (uz v.i.toNat)⟩ (by assumption)) (by assumption)|exact no (td3 hv hC (nw v.i.toNat) ⟨smB (ux v.i.toNat),smB (uy v.i.toNat),smB (uz v.i.toNat)⟩ (by assumption)) (by assumption)|exact no (td4 hv hC (nw v.i.toNat) ⟨smB (ux v.i.toNat),smB (uy v.i.toNat),smB (uz v.i.toNat)⟩) (by assumption)|exact no (td1 hv hC (nw v.i.toNat) hv.2.2.1) (by assumption)|exact no (td2 hv hC (nw v.i.toNat) hv.2.2.1 (by assumption)) (by assumption)|exact no (td3 hv hC (nw v.i.toNat) hv.2.2.1 (by assumption)) (by assumption)|exact no (td4 hv hC (nw v.i.toNat) hv.2.2.1) (by assumption))
    -- PVC
abbrev ks_tapDoubles:List (Option IntKind):=[none,some .i64,some .i64,some .i64,some .i64,some .i64,some .i64,some .i64,some .i64,some .i64]
theorem tapDoubles_row (n:Nat) (f:Nat→List Value) (hf:∀ j,okV ks_tapDoubles (f j)) {us:List Value} {w:World} (hargs:All2 (TV.reads (fun _=>0) w.heap.size w) [.rowF n 10 (fun j=>cellsG f j 0 ks_tapDoubles)] us):Ret Try.prog 11 us.toArray w (.tv (tB true)) :=
  tapDoubles_law n (gB f 0) (gI f 1) (gI f 2) (gI f 3) (gI f 4) (gI f 5) (gI f 6) (gI f 7) (gI f 8) (gI f 9) hargs
end
end Go.Proofs.Ytonelbidndjhdaa.Wh
end
section
namespace Go.Proofs.Ytonelbidndjhdaa.tapDoubles
open Go.ChangeShapes Go.WideShapes Go.ChangeAt Go.RowKit Go.Proofs.YtonelbidndjhdaaW.PrintWords Go.Proofs.YtonelbidndjhdaaW.Sx Go.Proofs.Ytonelbidndjhdaa.Wh
set_option linter.unusedVariables false
theorem own:ownKnob Try.prog.godebug=none:=by kernel_rfl
theorem laidOut:laidOutB Try.prog=true:=by kernel_rfl
theorem cells:lvs Try.prog true 30 63=some [none,some .i64,some .i64,some .i64,some .i64,some .i64,some .i64,some .i64,some .i64,some .i64]:=by kernel_rfl
set_option maxRecDepth 100000 in
theorem lifted (os:Os) (started:os.Started) (H:Type) (enc:TypeId × Value→H) :
    ReturnsInHanded {} Try.checked os 11 .any (Rows.tapDoublesSpec.pre6 enc Try.prog Try.f11 Rows.tapDoublesRow.domain false) (Rows.tapDoublesSpec.post enc Try.prog Try.f11 false true false false):=by
  refine returnsInHanded_of_change_sized (C:=Try.checked) own started (by kernel_rfl) Try.func11
    (ChangeSpec.witness6 (enc:=enc) (C:=Try.checked) false ⟨#[],#[.slice none 0 0],[]⟩ 8 (by kernel_rfl) (by kernel_rfl) (by kernel_rfl) (by kernel_rfl)) ?_
  intro W base args ds gs before hval0 hW hcnd hsz0 _
  have hval:∀ (j:Nat) t v,Try.f11.params[j]?=some t→args[j]?=some v→Value.okWide Try.prog W .any base t v:=hval0
  have hW':=hW
  obtain ⟨p,q,hA0,hV,rfl,hfz,hnd⟩:=hW
  have hA:DataW.TrodAll enc Try.prog W 0 (fun _=>true) true Try.f11.params.toList args.toList ds p:=hA0
  rw [Try.params11] at hA hval
  obtain ⟨v0,vs0,d0,ds0,p0,q0,hargs,rfl,rfl,h0,r0⟩:=trodAll_cons hA
  obtain ⟨rfl,rfl,rfl⟩:=trodAll_nil r0
  obtain rfl:args=#[v0]:=by cases args;simp_all
  obtain ⟨rfl,rfl⟩:=trodVars_none hV
  have k0:=h0
  have lt0:∀ x∈p0,x.block<W.heap.size:=by obtain ⟨m,hm⟩:=k0;exact DataW.trod_lt m _ _ _ hm
  have hv0:=hval 0 59 v0 rfl rfl
  obtain ⟨a0,len0,cap0,rfl⟩:=okWide_slice Try.underlying59 hv0
  obtain ⟨f,hf,hr⟩:=row_of Try.underlying59 cells (by decide) h0
  clear hA0 hval0 hsz0
  refine Calls.mono (tapDoubles_row len0 f hf (us:=[_]) (.cons (hr _) .nil)) fun e W' hpost=>?_
  obtain ⟨u,rfl,hu,bel⟩:=hpost
  obtain rfl:u = .bool true:=hu
  exact ⟨_,rfl,_,_,_,[],_,[],hW',trodAll_mk1 (shut_bool Try.underlying4 _),(trodAll_cons_mk (Below.trod laidOut (by kernel_rfl) (of_decide_eq_true (by kernel_rfl)) k0 bel lt0) trodAll_mk0),rfl,bel.frame _,fun h=>by cases h⟩
theorem over:Rows.tapDoublesRow.holds Try.pinned (OpenSpec.ofChange Rows.tapDoublesSpec) :=
  OpenClaim.holds_of_wide 11 Try.f11 rfl rfl rfl rfl rfl rfl rfl ⟨rfl,rfl,rfl,rfl,rfl⟩ rfl rfl rfl rfl rfl (by kernel_rfl) Try.func11 (by kernel_rfl)
    (of_decide_eq_true (by kernel_rfl)) (by unfold Func.isWrapper;first|(rw [if_pos (by decide +kernel)];kernel_rfl)|(rw [if_neg (by decide +kernel)];exact ⟨rfl,rfl⟩))
    (fun os started H enc _=>lifted os started H enc)
theorem proved:Rows.TapDoublesSaid:=over
end Go.Proofs.Ytonelbidndjhdaa.tapDoubles
namespace Go.Proofs.Ytonelbidndjhdaa
theorem tapDoubles_holds:Rows.TapDoublesSaid:=tapDoubles.proved
end Go.Proofs.Ytonelbidndjhdaa
end
